/-
  A part of the engine that walks the functions' codes, and of the functions' contracts. Conditions: those that each theorem names.
-/
import Derived.Test.YtjgelcegjmfgnaaGreatL8
import Derived.IntWalk
set_option linter.unusedSimpArgs false
set_option linter.unusedVariables false
set_option linter.unusedSectionVars false
namespace Go.Eng
open Go.RowKit
section ops
variable {P:Program} {inv:Nat→Option Nat} {w0:World} {M:Nat→Prop} {N:Nat} {φ:List (Nat×AV)} {σ:List (Nat×AO)}
variable {K:AV→Prop} {tk:Tok K}
variable {op:BinOp} {ty:ETy}
variable (sz':Nat) (es:List (List AV)) (sz:Nat) (k k':IntKind) (h lw:Int) (l ver off n:Nat)
end ops
section zlS
variable {P:Program} {inv:Nat→Option Nat} {w0:World} {M:Nat→Prop} {N:Nat} {φ:List (Nat×AV)} {σ:List (Nat×AO)} {K:AF→AS→Prop} {tk:Tok K}
variable {K:Bool→Prop} {tk:Tok K}
end zlS
section cells
variable {α:Type} {c:α→List AV} {sz:Nat} [h:Cells c sz]
include h
end cells
section rep
variable {α:Type} (a:α)
end rep
section zbN
variable (k:Nat) (σ:List (Nat×AO))
end zbN
section
variable {P:Program} {inv:Nat→Option Nat} {w0:World} {M:Nat→Prop} {n N:Nat} {φ:AF} {σ:AS}
end
theorem wE {G T S A B X Y:Prop} (x:T→A→X) (y:S→B→Y) (h:(T→A→X)→(S→B→Y)→G:=by (intro x y;first|(refine cnd1 rfl x y ?_ ?_<;>exact bz)|(refine pk1 (Rz.d x) (Rz.d y) ?_ ?_<;>exact bz)|exact zkm (Rz.d x wT) (Rz.d y wT wT))):G:=h x y
end Go.Eng
namespace Go.Lev
open Go.Eng
set_option maxRecDepth 10000
set_option maxHeartbeats 4000000
variable {P:Program} {inv:Nat→Option Nat} {w0:World} {M:Nat→Prop}
section upd
variable {α:Type} [Inhabited α]
end upd
theorem image_po (hH:HasAll P inv) (hI:HasIds P inv) (p:Pln) (hp:Sm p) (s:State) (hs:SmS s) (he:zac p s=0):PO P inv 78 [.agg p.c,.agg s.c] (.tup [zf8 5 (zha p s),.n 0]) (zf9 5 (zha p s)):=by
 have c0:=zaT hH hI p hp s hs
 rw[he]at c0
 have c1:=zbD hH s hs
 have hpl:=zag (zab he).2.1
 obtain ⟨h1,h2,h3⟩:=hs
 have hi:zha p s=⟨s.tracks.mapIdx imgT,s.switches.mapIdx imgW,s.locks.mapIdx (zm0 p)⟩:=rfl
 unfold stV stR at c1
 refine PO.fn hH cd78 fun w0 M Q hM hE hQ hR=>?_;dsimp only[cd78,qm,ql,qf,qi,qb,qc,qp,qv,qN,qT,qF,qt]at hQ ⊢
 (repeat' first|refine zaa [0,1,2,3,4,5,6,7,8,9,14,21,22,23,33,34,35,45,46,47,55] fun K hK=>?_|(refine hK.go ?_;clear hK K)|with_reducible exact wT|refine wA ?_|(refine wB (fun h=>?_) (fun h=>?_)<;>first|exact wN h|subst (h:(_:Bool)=_)|skip)|(refine wR ?_;clear hQ hR hE hM)|refine wC c0 ?_|refine wO c1 ?_|fail)
 all_goals first|(exfalso;contradiction)|skip
 refine zap (ι:=Nat) [2,3,4,5,21,22] (fun z=>[(22,.n z)]) (fun z=>[(5,.cells ((zdz imgT z s.tracks).map Track.c).flatten (decide (0<s.tracks.length)))]) (fun z=>z) (s.tracks.length) (fun _=>True) (0) ?_;rintro k ⟨hk,-⟩;(try dsimp only at hk ⊢);rcases Nat.lt_or_ge k s.tracks.length with hlt|hge
 ·have e1:=zcv imgT hlt
  have e2:=zbo (c:=Track.c) (l:=zdz imgT k s.tracks) (k:=k) (i:=1) (by rw[zbm];exact hlt) (by omega) (.i .u8 2) (imgT k (nth s.tracks k)) (by rw[zby _ hlt];rfl)
  rw[e1]at e2
  (have hX:=@e2;(repeat' first|refine zaa [0,1,2,3,4,5,6,7,8,9,14,21,22,23,33,34,35,45,46,47,55] fun K hK=>?_|(refine hK.go ?_;clear hK K)|with_reducible exact wT|refine wA ?_|(refine wB (fun h=>?_) (fun h=>?_)<;>first|exact wN h|subst (h:(_:Bool)=_)|skip)|(refine wR ?_;clear hQ hR hE hM)|fail);all_goals clear hX)
  exact ⟨k+1,by omega,by omega,by omega,rfl⟩
 ·rw[zcZ _ hge]
  (repeat' first|refine zaa [0,1,2,3,4,5,6,7,8,9,14,21,22,23,33,34,35,45,46,47,55] fun K hK=>?_|(refine hK.go ?_;clear hK K)|with_reducible exact wT|refine wA ?_|(refine wB (fun h=>?_) (fun h=>?_)<;>first|exact wN h|subst (h:(_:Bool)=_)|skip)|(refine wR ?_;clear hQ hR hE hM)|fail)
  refine zap (ι:=Nat) [2,3,4,5,33,34] (fun z=>[(34,.n z)]) (fun z=>[(6,.cells ((zdz imgW z s.switches).map Switch.c).flatten (decide (0<s.switches.length)))]) (fun z=>z) (s.switches.length) (fun _=>True) (0) ?_;rintro k2 ⟨hk,-⟩;(try dsimp only at hk ⊢);rcases Nat.lt_or_ge k2 s.switches.length with hlt|hge
  ·have e1:=zcv imgW hlt
   have e2:=zbo (c:=Switch.c) (l:=zdz imgW k2 s.switches) (k:=k2) (i:=1) (by rw[zbm];exact hlt) (by omega) (.i .i64 0) (imgW k2 (nth s.switches k2)) (by rw[zby _ hlt];rfl)
   rw[e1]at e2
   (have hX:=@e2;(repeat' first|refine zaa [0,1,2,3,4,5,6,7,8,9,14,21,22,23,33,34,35,45,46,47,55] fun K hK=>?_|(refine hK.go ?_;clear hK K)|with_reducible exact wT|refine wA ?_|(refine wB (fun h=>?_) (fun h=>?_)<;>first|exact wN h|subst (h:(_:Bool)=_)|skip)|(refine wR ?_;clear hQ hR hE hM)|fail);all_goals clear hX)
   exact ⟨k2+1,by omega,by omega,by omega,rfl⟩
  ·rw[zcZ _ (by assumption)]
   (repeat' first|refine zaa [0,1,2,3,4,5,6,7,8,9,14,21,22,23,33,34,35,45,46,47,55] fun K hK=>?_|(refine hK.go ?_;clear hK K)|with_reducible exact wT|refine wA ?_|(refine wB (fun h=>?_) (fun h=>?_)<;>first|exact wN h|subst (h:(_:Bool)=_)|skip)|(refine wR ?_;clear hQ hR hE hM)|fail)
   refine zap (ι:=Nat) [2,3,4,5,45,46] (fun z=>[(46,.n z)]) (fun z=>[(7,.cells ((zdz (zm0 p) z s.locks).map Lock.c).flatten (decide (0<s.locks.length)))]) (fun z=>z) (s.locks.length) (fun _=>True) (0) ?_;rintro k3 ⟨hk,-⟩;(try dsimp only at hk ⊢);rcases Nat.lt_or_ge k3 s.locks.length with hlt|hge
   ·have e1:=zcv (zm0 p) (l:=s.locks) (k:=k3) (by assumption)
    have hg:=zeL (c:=Lock.c) (l:=zdz (zm0 p) k3 s.locks) (k:=k3) (i:=3) (by rw[zbm];assumption) (by omega)
    rw[zby _ (by assumption)]at hg
    by_cases hle:0<(nth s.locks k3).left
    ·have e2:=zbo (c:=Lock.c) (l:=zdz (zm0 p) k3 s.locks) (k:=k3) (i:=3) (by rw[zbm];assumption) (by omega) (.i .i64 (nth p.routes k3).timer) (zm0 p k3 (nth s.locks k3)) (by rw[zby _ (by assumption)];unfold zm0;rw[if_pos hle];rfl)
     rw[e1]at e2
     (have hX:=zA @hg @e2;(repeat' first|refine zaa [0,1,2,3,4,5,6,7,8,9,14,21,22,23,33,34,35,45,46,47,55] fun K hK=>?_|(refine hK.go ?_;clear hK K)|with_reducible exact wT|refine wA ?_|(refine wB (fun h=>?_) (fun h=>?_)<;>first|exact wN h|subst (h:(_:Bool)=_)|skip)|(refine wR ?_;clear hQ hR hE hM)|fail);all_goals clear hX)
     exact ⟨k3+1,by omega,by omega,by omega,rfl⟩
    ·rw[show zm0 p k3 (nth s.locks k3)=nth (zdz (zm0 p) k3 s.locks) k3 by rw[zby _ (by assumption)];unfold zm0;rw[if_neg hle]]at e1
     have e3:zdz (zm0 p) k3 s.locks=zdz (zm0 p) (k3+1) s.locks:=by
      rw[←e1,zaK (by rw[zbm];assumption),List.set_getElem_self]
     (have hX:=@hg;(repeat' first|refine zaa [0,1,2,3,4,5,6,7,8,9,14,21,22,23,33,34,35,45,46,47,55] fun K hK=>?_|(refine hK.go ?_;clear hK K)|with_reducible exact wT|refine wA ?_|(refine wB (fun h=>?_) (fun h=>?_)<;>first|exact wN h|subst (h:(_:Bool)=_)|skip)|(refine wR ?_;clear hQ hR hE hM)|fail);all_goals clear hX)
     exact ⟨k3+1,by omega,by omega,by omega,by rw[←e3]⟩
   ·rw[zcZ _ (by assumption)]
    (repeat' first|refine zaa [0,1,2,3,4,5,6,7,8,9,14,21,22,23,33,34,35,45,46,47,55] fun K hK=>?_|(refine hK.go ?_;clear hK K)|with_reducible exact wT|refine wA ?_|(refine wB (fun h=>?_) (fun h=>?_)<;>first|exact wN h|subst (h:(_:Bool)=_)|skip)|(refine wR ?_;clear hQ hR hE hM)|fail)
    left
    unfold zf8 zf9
    rw[hi]
    dsimp only
    rw[List.length_mapIdx,List.length_mapIdx,List.length_mapIdx]
    constructor
    ·(refine no_implicit_lambda% (st ?_);try with_reducible exact wT)
    ·(refine no_implicit_lambda% (st ?_);try with_reducible exact wT)
theorem image_pc (hH:HasAll P inv) (hI:HasIds P inv) (p:Pln) (hp:Sm p) (s:State) (hs:SmS s):PC P inv 78 [.agg p.c,.agg s.c] (·=.tup [.agg (zhb p s).c,.n (zac p s)]):=by
 by_cases he:zac p s=0
 ·have:=(image_po hH hI p hp s hs he).pc
  rw[zb2]at this
  unfold zhb
  rw[if_pos he,he]
  exact this
 ·have c0:=zaT hH hI p hp s hs
  unfold zhb
  rw[if_neg he]
  revert c0 he
  generalize zac p s=e
  intro he c0
  refine PC.fn hH cd78 fun w0 M Q hM hE hQ hR=>?_;dsimp only[cd78,qm,ql,qf,qi,qb,qc,qp,qv,qN,qT,qF,qt]at hQ ⊢
  (repeat' first|refine zaa [0,1,2,3,4,5,6,7,8,9,14,21,22,23,33,34,35,45,46,47,55] fun K hK=>?_|(refine hK.go ?_;clear hK K)|with_reducible exact wT|refine wA ?_|(refine wB (fun h=>?_) (fun h=>?_)<;>first|exact wN h|subst (h:(_:Bool)=_)|skip)|(refine wQ ?_;clear hQ hR hE hM)|refine wC c0 ?_|fail)
  all_goals first|rfl|(exfalso;contradiction)|skip
end Go.Lev
namespace Go.Lev
open Go.Eng
theorem img_kept (p:Pln) (s:State):kept s (zha p s)=true:=by
 unfold kept zha
 simp only[Bool.and_eq_true,zbf,List.length_mapIdx,true_and]
 refine ⟨fun i hi=>?_,fun i hi=>?_⟩
 ·rw[zcp _ hi];simp[ziv,imgW]
 ·rw[zcp _ hi];unfold zm0;split<;>simp[zg7]
theorem zqS {p:Pln} {s:State} (ho:OkP p) (h:zai p s=true):zai p (zha p s)=true:=by
 have hl:=zag h
 have h':=h
 unfold zai at h ⊢
 simp only[Bool.and_eq_true,zbf]at h ⊢
 unfold zha
 simp only[List.length_mapIdx]
 refine ⟨⟨h.1.1,fun i hi=>?_⟩,⟨h.2.1.1,fun i hi=>?_⟩,h.2.2.1,fun i hi=>?_⟩
 ·have:=h.1.2 i hi
  rw[zcp _ hi]
  simp only[zhh,Bool.and_eq_true,decide_eq_true_eq]at this
  exact (Bool.and_eq_true _ _).mpr ⟨decide_eq_true this.1,decide_eq_true (by show (2:Int)≤2;omega)⟩
 ·have:=h.2.1.2 i hi
  rw[zcp _ hi]
  simp only[zgl,zer,Bool.and_eq_true,decide_eq_true_eq]at this
  unfold zgl zer
  exact (Bool.and_eq_true _ _).mpr ⟨decide_eq_true this.1,(Bool.and_eq_true _ _).mpr ⟨rfl,(Bool.and_eq_true _ _).mpr ⟨decide_eq_true this.2.2.1,decide_eq_true this.2.2.2⟩⟩⟩
 ·have h1:=h.2.2.2 i hi
  have ht:=zdm ho (zad (show i<p.routes.length by omega))
  rw[zcp _ hi]
  unfold zm0
  split
  ·rename_i h2
   have h3:=zkw h1
   simp only[zbs,zaq,Bool.and_eq_true]at h1 ⊢
   obtain ⟨h4,h1⟩:=h1
   refine ⟨h4, ?_⟩
   try dsimp only
   rcases h3 with h3|⟨_,_,h3|h3⟩
   ·omega
   ·rw[h3]at h1 ⊢;simp at h1 ⊢;omega
   ·rw[h3]at h1 ⊢;simp at h1 ⊢;omega
  ·exact h1
theorem zkA {p:Pln} {s:State} (h:zac p s=0):zac p (zha p s)=0:=ze7 h (img_kept p s) (zqS (zae h) (zab h).2.1)
end Go.Lev
namespace Go.Eng
open Go.RowKit
theorem bo9:(∀ (α:Type) (a b:α),(cond true a b)=a)∧(∀ (α:Type) (a b:α),(cond false a b)=b)∧(∀ b:Bool,(true||b)=true)∧(∀ b:Bool,(b||true)=true)∧(∀ b:Bool,(false||b)=b)∧(∀ b:Bool,(b||false)=b)∧(∀ b:Bool,(true&&b)=b)∧(∀ b:Bool,(b&&true)=b)∧(∀ b:Bool,(false&&b)=false)∧(∀ b:Bool,(b&&false)=false)∧((!true)=false)∧((!false)=true)∧(∀ b:Bool,(!!b)=b)∧(∀ [Decidable True],decide True=true)∧(∀ [Decidable False],decide False=false)∧(∀ (α:Type) (a:α),(a=a)=True) :=
 ⟨fun _ _ _=>rfl,fun _ _ _=>rfl,fun _=>Bool.true_or _,fun _=>Bool.or_true _,fun _=>Bool.false_or _,fun _=>Bool.or_false _,fun _=>Bool.true_and _,fun _=>Bool.and_true _,fun _=>Bool.false_and _,fun _=>Bool.and_false _,rfl,rfl,fun _=>Bool.not_not _,@fun i=>decide_true i,@fun i=>decide_false i,fun _ _=>eq_self _⟩
theorem wX {A B:Prop} (a:A) (h:Rw A B:=by first|(simp only[h0,bo9,reduceCtorEq,Int.reduceEq,Nat.reduceEqDiff];exact zch _)|(simp only[bo9,reduceCtorEq,Int.reduceEq,Nat.reduceEqDiff];exact zch _)):B:=Eq.mp h a
section
variable {S R:Type} {body:Nat→S→(S→R)→R} {fin:S→R} {n k:Nat} {s:S}
end
section
variable {f f':Nat→Option (List AV)} {g:Nat→Bool} (h:∀ l,g l=true→f' l=f l)
include h
end
section
variable (k:Nat) (σ:List (Nat×AO))
end
section
variable {P:Program} {inv:Nat→Option Nat} {w0:World} {M:Nat→Prop} {σ:AS}
end
section
variable {P:Program} {inv:Nat→Option Nat} {w0:World} {M:Nat→Prop} {n N:Nat} {φ:AF} {σ:AS}
variable {l:Nat} {J:AF→AS→Prop} {Q:Exit→AF→AS→Prop}
end
section
variable {P:Program} {inv:Nat→Option Nat} {w0:World} {M:Nat→Prop} {n N:Nat} {φ:AF} {σ:AS}
end
end Go.Eng
namespace Go.Lev
open Go.Eng
theorem zoV (s:State) (x:Int):zbB s x=2∨∃ k,k<s.tracks.length∧(nth s.tracks k).id=x∧(nth s.tracks k).is=zbB s x:=by
 unfold zbB
 cases e:s.tracks.find? fun t=>decide (t.id=x) with
 |none=>exact .inl rfl
 |some t =>
  obtain ⟨k,hk,rfl⟩:=zdv (List.mem_of_find?_eq_some e)
  exact .inr ⟨k,hk,by simpa using List.find?_some e,rfl⟩
theorem isOf_img (p:Pln) (s:State) (x:Int):zbB (zha p s) x=2:=by
 rcases zoV (zha p s) x with h|⟨k,hk,_,h⟩
 ·exact h
 ·have hk':k<s.tracks.length:=by simpa [zha] using hk
  rw[←h]
  show (nth (s.tracks.mapIdx imgT) k).is=2
  rw[zcp imgT hk']
  rfl
end Go.Lev
namespace Go.Lev
open Go.Eng
end Go.Lev
namespace Go.Lev
open Go.Eng
section
variable {p:Pln} {s:State} (h:zac p s=0) {i:Nat} (hi:i<s.locks.length)
include h hi
end
theorem zjn {r:Rte} {is:Int→Int} {l:Lock} (h:zaq l r=true) (h0:0<r.path.length) (hn:∀ m∈r.path,¬is m=1∧¬is m=0):za5 r is l=l:=by
 refine zbZ ?_
 have hlast:nth r.path (r.path.length-1)∈r.path:=zad (by omega)
 unfold zbv
 split
 ·split
  ·rename_i h1
   obtain ⟨m,hm,e⟩:=List.any_eq_true.1 h1
   exact absurd (by simpa using e) (hn m hm).1
  ·rfl
 ·split
  ·rename_i h2
   simp only[zaq,h2]at h
   simp at h
   rw[if_neg fun h3=>(hn _ (zad (show l.gone.toNat<r.path.length by omega))).2 h3.2.1,if_neg fun h3=>(hn _ hlast).1 h3.2,if_neg fun h3=>(hn _ hlast).2 h3.2]
  ·split
   ·rw[if_neg (hn _ hlast).2]
   ·rfl
theorem zmv {r:Rte} {is:Int→Int} {l:Lock} (h:zaq l r=true) (h0:0<r.path.length) (ht:1≤r.timer) (hp:l.phase=1∨l.phase=4):za5 r is l=l↔∀ m∈r.path,¬is m=1:=by
 constructor
 ·intro e m hm h1
  have h2:=(zjo (is:=is) h h0 ht).2.1
  rw[e]at h2
  unfold zbv at h2
  rw[if_pos hp,if_pos (List.any_eq_true.2 ⟨m,hm,by simpa using h1⟩)]at h2
  rw[←h2]at hp
  dsimp only at hp
  omega
 ·intro hn
  refine zbZ ?_
  unfold zbv
  rw[if_pos hp,if_neg]
  intro h1
  obtain ⟨m,hm,e⟩:=List.any_eq_true.1 h1
  exact hn m hm (by simpa using e)
theorem setl_img {p:Pln} {s:State} (h:zac p s=0):zax p (zha p s)=zha p s:=by
 have hc:=zkA h
 have e:(zax p (zha p s)).locks=(zha p s).locks:=by
  refine zrb (by rw[zcw]) fun i hi=>?_
  rw[zcw]at hi
  obtain ⟨_,h2,h3,h4⟩:=zht hc hi
  rw[zgq hc hi]
  exact zjn h4 h2 fun m _=>by rw[isOf_img];exact ⟨by decide,by decide⟩
 unfold zax at e ⊢
 dsimp only at e
 rw[e]
section
variable {p:Pln} {s:State} (h:zac p s=0) {n:Int}
include h
end
end Go.Lev
namespace Go.Lev
open Go.Eng
theorem zhE (f:Nat→Bool):∀ k,0≤zhp f k∧(zhp f k=0↔∀ j,j<k→f j=false)
 |0=>⟨Int.le_refl _,fun _ j hj=>by omega,fun _=>rfl⟩
 |k+1=>by
  obtain ⟨h1,h2⟩:=zhE f k
  rw[zhp]
  cases hf:f k with
  |true =>
   rw[if_pos rfl]
   refine ⟨by omega,fun e=>by omega,fun e=>?_⟩
   have:=e k (by omega)
   rw[hf]at this
   cases this
  |false =>
   rw[if_neg (by decide)]
   refine ⟨h1,fun e j hj=>?_,fun e=>h2.2 fun j hj=>e j (by omega)⟩
   rcases Nat.lt_or_ge j k with h3|h3
   ·exact h2.1 e j h3
   ·obtain rfl:j=k:=by omega
    exact hf
theorem zfZ (g:Nat→Nat→Bool) (n:Nat):∀ i,0≤zhD g n i∧(zhD g n i=0↔∀ j,j<i→∀ k,k<n→g j k=false)
 |0=>⟨Int.le_refl _,fun _ j hj=>by omega,fun _=>rfl⟩
 |i+1=>by
  obtain ⟨h1,h2⟩:=zfZ g n i
  obtain ⟨h3,h4⟩:=zhE (g i) n
  rw[zhD]
  refine ⟨by omega,fun e j hj=>?_,fun e=>?_⟩
  ·rcases Nat.lt_or_ge j i with h5|h5
   ·exact h2.1 (by omega) j h5
   ·obtain rfl:j=i:=by omega
    exact h4.1 (by omega)
  ·rw[h2.2 fun j hj=>e j (by omega),h4.2 (e i (by omega))]
   rfl
theorem zkN (f:Nat→Bool):∀ k,zhp f k≤k
 |0=>Int.le_refl _
 |k+1=>by
  have:=zkN f k
  rw[zhp]
  split<;>omega
theorem znb (g:Nat→Nat→Bool) (n:Nat):∀ i,zhD g n i≤i*n
 |0=>by simp
 |i+1=>by
  have h1:=znb g n i
  have h2:=zkN (g i) n
  rw[zhD]
  have:(((i+1:Nat):Int))*n=i*n+n:=by rw[Int.natCast_add,Int.add_mul];simp
  omega
theorem lk_eq (a b:Lock):decide (a=b)=(decide (a.id=b.id)&&(decide (a.phase=b.phase)&&(decide (a.gone=b.gone)&&decide (a.left=b.left)))):=by
 obtain ⟨a1,a2,a3,a4⟩:=a
 obtain ⟨b1,b2,b3,b4⟩:=b
 rw[Bool.eq_iff_iff]
 simp
theorem zqk {p:Pln} {s:State} (h:zac p s=0) {at':Nat} (ha:at'<p.routes.length) (v:Int):zhD (pkG s (nth p.routes at').path v) s.tracks.length (nth p.routes at').path.length=0↔∀ m∈(nth p.routes at').path,¬zbB s m=v:=by
 have hpa:=(zab h).2.1
 have ho:=zae h
 rw[(zfZ _ _ _).2]
 constructor
 ·intro e m hm e2
  obtain ⟨j,hj,rfl⟩:=zdv hm
  obtain ⟨t,ht,et⟩:=zhG hpa ((zbU ho (zad ha)).1 _ (List.mem_append.2 (.inl (zad hj))))
  obtain ⟨k,hk,rfl⟩:=zdv ht
  have:=e j hj k hk
  unfold pkG at this
  rw[decide_eq_true et,←zmX ho hpa hk,et,decide_eq_true e2]at this
  cases this
 ·intro e j hj k hk
  unfold pkG
  by_cases e1:(nth s.tracks k).id=nth (nth p.routes at').path j
  ·have:=e _ (zad hj)
   rw[←e1,zmX ho hpa hk]at this
   simp[this]
  ·simp[e1]
theorem pkB_no {p:Pln} {s:State} (h:zac p s=0) {i:Nat} (hi:i<s.locks.length):pkB (nth s.locks i) (nth (zax p s).locks i) (zhD (pkG s (nth p.routes i).path 1) s.tracks.length (nth p.routes i).path.length) (zhD (pkG s (nth p.routes i).path 0) s.tracks.length (nth p.routes i).path.length)=false:=by
 have ha:i<p.routes.length:=by have:=zag (zab h).2.1;omega
 obtain ⟨_,h2,h3,h4⟩:=zht h hi
 have k1:=zqk h ha 1
 have k0:=zqk h ha 0
 have p1:=(zfZ (pkG s (nth p.routes i).path 1) s.tracks.length (nth p.routes i).path.length).1
 rw[zgq h hi]
 generalize zhD (pkG s (nth p.routes i).path 1) s.tracks.length (nth p.routes i).path.length=tk at *
 generalize zhD (pkG s (nth p.routes i).path 0) s.tracks.length (nth p.routes i).path.length=fr at *
 unfold pkB
 simp only[Bool.or_eq_false_iff,Bool.and_eq_false_iff,Bool.not_eq_false',decide_eq_true_eq,decide_eq_false_iff_not]
 refine ⟨?_, ?_⟩
 ·by_cases hp:(nth s.locks i).phase=1∨(nth s.locks i).phase=4
  ·right
   intro e
   have h5:=zmv (is:=zbB s) h4 h2 h3 hp
   rw[←k1]at h5
   by_cases e1:tk=0
   ·rw[h5.2 e1,decide_eq_true rfl,decide_eq_false (by omega)]at e
    cases e
   ·rw[decide_eq_true (show 0<tk by omega)]at e
    have:=of_decide_eq_true e.symm
    exact e1 (h5.1 this.symm)
  ·left
   exact ⟨fun e=>hp (.inl e),fun e=>hp (.inr e)⟩
 ·by_cases e1:tk=0
  ·by_cases e0:fr=0
   ·right;right
    exact (zjn h4 h2 fun m hm=>⟨k1.1 e1 m hm,k0.1 e0 m hm⟩).symm
   ·exact .inr (.inl e0)
  ·exact .inl e1
end Go.Lev
namespace Go.Lev
open Go.Eng
set_option maxRecDepth 10000
set_option maxHeartbeats 4000000
variable {P:Program} {inv:Nat→Option Nat} {w0:World} {M:Nat→Prop}
theorem img_sm (p:Pln) {s:State} (h:SmS s):SmS (zhb p s):=by
 unfold zhb
 split
 ·exact ⟨by simp[zha];exact h.1,by simp[zha];exact h.2.1,by simp[zha];exact h.2.2⟩
 ·exact smZ
end Go.Lev
namespace Go.Lev
open Go.Eng
set_option maxRecDepth 10000
set_option maxHeartbeats 4000000
variable {P:Program} {inv:Nat→Option Nat} {w0:World} {M:Nat→Prop}
theorem passKnown_pc (hH:HasAll P inv) (hI:HasIds P inv) (p:Pln) (hp:Pln.ok p) (s:State) (at':Int):PC P inv 362 [.agg p.c,.agg s.c,.n at'] (·=.b true):=by
 have c0:=zgT hH hI
 have c1:=zbK hH p
 have c2:=zdb hH s
 cases g1:zet p with
 |true =>
  rw[g1]at c1
  refine PC.fn hH cd362 fun w0 M Q hM hE hQ hR=>?_;dsimp only[cd362,qm,ql,qf,qi,qb,qc,qp,qv,qN,qT,qF,qt]at hQ ⊢
  (repeat' first|refine zaa [0,1,2,3,4,6,7,8,9,10,11,12,13,14,15,16,17,18,19,20,42,51,62,69,91,113,141,152] fun K hK=>?_|(refine hK.go ?_;clear hK K)|with_reducible exact wT|refine wA ?_|(refine wB (fun h=>?_) (fun h=>?_)<;>first|exact wN h|subst (h:(_:Bool)=_)|skip)|(refine wQ ?_;clear hQ hR hE hM)|refine wC c0 ?_|refine wC c1 ?_|fail)
 |false =>
  rw[g1]at c1
  cases g2:zfS s with
  |true =>
   rw[g2]at c2
   refine PC.fn hH cd362 fun w0 M Q hM hE hQ hR=>?_;dsimp only[cd362,qm,ql,qf,qi,qb,qc,qp,qv,qN,qT,qF,qt]at hQ ⊢
   (repeat' first|refine zaa [0,1,2,3,4,6,7,8,9,10,11,12,13,14,15,16,17,18,19,20,42,51,62,69,91,113,141,152] fun K hK=>?_|(refine hK.go ?_;clear hK K)|with_reducible exact wT|refine wA ?_|(refine wB (fun h=>?_) (fun h=>?_)<;>first|exact wN h|subst (h:(_:Bool)=_)|skip)|(refine wQ ?_;clear hQ hR hE hM)|refine wC c0 ?_|refine wC c1 ?_|refine wC c2 ?_|fail)
  |false =>
   rw[g2]at c2
   have sp:=zmr hp g1
   have ss:=zhO g2
   have hrl:=sp.rte
   have hl1:=ss.1
   have hl3:=ss.2.2
   have c3:=zdc hH hI p sp s ss
   by_cases hi0:0≤at'∧at'<s.locks.length
   ·obtain ⟨ha1,ha2⟩:=hi0
    obtain ⟨i,rfl⟩:∃ i:Nat,at'=i:=⟨at'.toNat,by omega⟩
    have hi:i<s.locks.length:=by omega
    by_cases hst:zac p s=0
    ·rw[hst,show zcS p s=zax p s by unfold zcS;rw[if_pos hst]]at c3
     have hir:i<p.routes.length:=by have:=zag (zab hst).2.1;omega
     have c4:=image_pc hH hI p sp s ss
     rw[hst,show zhb p s=zha p s by unfold zhb;rw[if_pos hst]]at c4
     have sI:SmS (zha p s):=by have:=img_sm p ss;unfold zhb at this;rw[if_pos hst]at this;exact this
     have c5:=zdc hH hI p sp _ sI
     rw[zkA hst,show zcS p (zha p s)=zha p s by unfold zcS;rw[if_pos (zkA hst),setl_img hst]]at c5
     have c6:=zhu hH sI (rfl:zha p s=zha p s)
     have hB:=pkB_no hst hi
     have htl:(zax p s).locks.length=s.locks.length:=zcw p s
     have hln:=zbI (zae hst) (zad hir)
     generalize zha p s=I at *
     clear hst
     generalize zax p s=T at *
     have hpl6:=hln.2.1
     obtain ⟨pth,hpt⟩:∃ pth,(nth p.routes i).path=pth:=⟨_,rfl⟩
     rw[hpt]at hB hpl6
     refine PC.fn hH cd362 fun w0 M Q hM hE hQ hR=>?_;dsimp only[cd362,qm,ql,qf,qi,qb,qc,qp,qv,qN,qT,qF,qt]at hQ ⊢
     (have hX:=@hpt;(repeat' first|refine zaa [0,1,2,3,4,6,7,8,9,10,11,12,13,14,15,16,17,18,19,20,42,51,62,69,91,113,141,152] fun K hK=>?_|(refine hK.go ?_;clear hK K)|with_reducible exact wT|refine wA ?_|(refine wB (fun h=>?_) (fun h=>?_)<;>first|exact wN h|subst (h:(_:Bool)=_)|skip)|(refine wQ ?_;clear hQ hR hE hM)|refine wC c0 ?_|refine wC c1 ?_|refine wC c2 ?_|refine wC c3 ?_|fail);all_goals clear hX)
     all_goals first|(exfalso;contradiction)|skip
     refine zap (ι:=Nat) [2,3,4,6,7,8,10,11,12,13] (fun z=>[(10,.n (zhD (pkG s pth 1) s.tracks.length z)),(11,.n (zhD (pkG s pth 0) s.tracks.length z)),(13,.n z)]) (fun _=>[]) (fun z=>z) (pth.length) (fun _=>True) (0) ?_;rintro a ⟨hk,-⟩;(try dsimp only at hk ⊢);rcases Nat.lt_or_ge a pth.length with hlt|hge
     ·have d0:=zca (show a<pth.length by assumption)
      have w1:=znb (pkG s pth 1) s.tracks.length a
      have w2:=znb (pkG s pth 0) s.tracks.length a
      have w3:(a:Int)*s.tracks.length≤6*1000:=Int.mul_le_mul (by omega) (by omega) (by omega) (by omega)
      have w4:=(zfZ (pkG s pth 1) s.tracks.length a).1
      have w5:=(zfZ (pkG s pth 0) s.tracks.length a).1
      (repeat' first|refine zaa [0,1,2,3,4,6,7,8,9,10,11,12,13,14,15,16,17,18,19,20,42,51,62,69,91,113,141,152] fun K hK=>?_|(refine hK.go ?_;clear hK K)|with_reducible exact wT|refine wA ?_|(refine wB (fun h=>?_) (fun h=>?_)<;>first|exact wN h|subst (h:(_:Bool)=_)|skip)|(refine wQ ?_;clear hQ hR hE hM)|fail)
      refine zap (ι:=Nat) [2,3,4,6,7,8,10,11,12,13,14] (fun z=>[(10,.n (zhD (pkG s pth 1) s.tracks.length a+zhp (pkG s pth 1 a) z)),(11,.n (zhD (pkG s pth 0) s.tracks.length a+zhp (pkG s pth 0 a) z)),(14,.n z)]) (fun _=>[]) (fun z=>z) (s.tracks.length) (fun _=>True) (0) ?_;rintro b ⟨hk,-⟩;(try dsimp only at hk ⊢);rcases Nat.lt_or_ge b s.tracks.length with hlt|hge
      ·have w6:=zkN (pkG s pth 1 a) b
       have w7:=zkN (pkG s pth 0 a) b
       have w8:=(zhE (pkG s pth 1 a) b).1
       have w9:=(zhE (pkG s pth 0 a) b).1
       have z1:zhp (pkG s pth 1 a) (b+1)=if (decide ((nth s.tracks b).id=nth pth a)&&decide ((nth s.tracks b).is=1))=true then zhp (pkG s pth 1 a) b+1 else zhp (pkG s pth 1 a) b:=rfl
       have z0:zhp (pkG s pth 0 a) (b+1)=if (decide ((nth s.tracks b).id=nth pth a)&&decide ((nth s.tracks b).is=0))=true then zhp (pkG s pth 0 a) b+1 else zhp (pkG s pth 0 a) b:=rfl
       generalize zhp (pkG s pth 1 a) b=u1 at *
       generalize zhp (pkG s pth 0 a) b=u0 at *
       (have hX:=@d0;(repeat' first|refine zaa [0,1,2,3,4,6,7,8,9,10,11,12,13,14,15,16,17,18,19,20,42,51,62,69,91,113,141,152] fun K hK=>?_|(refine hK.go ?_;clear hK K)|with_reducible exact wT|refine wA ?_|(refine wB (fun h=>?_) (fun h=>?_)<;>first|exact wN h|subst (h:(_:Bool)=_)|skip)|(refine wQ ?_;clear hQ hR hE hM)|fail);all_goals clear hX)
       all_goals first|(exfalso;contradiction)|(exfalso;omega)|exact ⟨b+1,by omega,by omega,by rw[z1];simp[*];try omega,by rw[z0];simp[*];try omega,by omega⟩|trace_state
      ·obtain rfl:b=s.tracks.length:=by omega
       (repeat' first|refine zaa [0,1,2,3,4,6,7,8,9,10,11,12,13,14,15,16,17,18,19,20,42,51,62,69,91,113,141,152] fun K hK=>?_|(refine hK.go ?_;clear hK K)|with_reducible exact wT|refine wA ?_|(refine wB (fun h=>?_) (fun h=>?_)<;>first|exact wN h|subst (h:(_:Bool)=_)|skip)|(refine wQ ?_;clear hQ hR hE hM)|fail)
       all_goals first|(exfalso;contradiction)|exact ⟨a+1,by omega,by omega,rfl,rfl,by omega⟩|trace_state
     ·obtain rfl:a=pth.length:=by omega
      generalize zhD (pkG s pth 1) s.tracks.length pth.length=tk at *
      generalize zhD (pkG s pth 0) s.tracks.length pth.length=fr at *
      have hF:=hB
      unfold pkB at hF
      simp only[lk_eq]at hF
      skip
      (repeat' first|refine zaa [0,1,2,3,4,6,7,8,9,10,11,12,13,14,15,16,17,18,19,20,42,51,62,69,91,113,141,152] fun K hK=>?_|(refine hK.go ?_;clear hK K)|with_reducible exact wT|refine wA ?_|(refine wE (fun h0 h=>?_) (fun h0 h=>?_)<;>first|exact wN h|((try replace hF:=wX hF);clear h0;first|exact hF.elim|((try subst (h:(_:Bool)=_));try replace hF:=wX hF)))|(refine wQ ?_;clear hQ hR hE hM)|refine wC c4 ?_|refine wC c5 ?_|refine wC c6 ?_|fail)
      all_goals first|rfl|(exfalso;contradiction)|trace_state
    ·generalize zac p s=e at *
     generalize zcS p s=T at *
     refine PC.fn hH cd362 fun w0 M Q hM hE hQ hR=>?_;dsimp only[cd362,qm,ql,qf,qi,qb,qc,qp,qv,qN,qT,qF,qt]at hQ ⊢
     (repeat' first|refine zaa [0,1,2,3,4,6,7,8,9,10,11,12,13,14,15,16,17,18,19,20,42,51,62,69,91,113,141,152] fun K hK=>?_|(refine hK.go ?_;clear hK K)|with_reducible exact wT|refine wA ?_|(refine wB (fun h=>?_) (fun h=>?_)<;>first|exact wN h|subst (h:(_:Bool)=_)|skip)|(refine wQ ?_;clear hQ hR hE hM)|refine wC c0 ?_|refine wC c1 ?_|refine wC c2 ?_|refine wC c3 ?_|fail)
     all_goals first|rfl|(exfalso;contradiction)|trace_state
   ·have key:at'<0∨(s.locks.length:Int)≤at':=by
     by_cases h2:at'<0
     ·exact .inl h2
     ·exact .inr (by omega)
    clear hi0
    refine PC.fn hH cd362 fun w0 M Q hM hE hQ hR=>?_;dsimp only[cd362,qm,ql,qf,qi,qb,qc,qp,qv,qN,qT,qF,qt]at hQ ⊢
    (repeat' first|refine zaa [0,1,2,3,4,6,7,8,9,10,11,12,13,14,15,16,17,18,19,20,42,51,62,69,91,113,141,152] fun K hK=>?_|(refine hK.go ?_;clear hK K)|with_reducible exact wT|refine wA ?_|(refine wB (fun h=>?_) (fun h=>?_)<;>first|exact wN h|subst (h:(_:Bool)=_)|skip)|(refine wQ ?_;clear hQ hR hE hM)|refine wC c0 ?_|refine wC c1 ?_|refine wC c2 ?_|fail)
    all_goals first|rfl|(exfalso;contradiction)|(exfalso;omega)|trace_state
end Go.Lev
namespace Go.Lev
open Go.Eng
section
variable {p:Pln} {s u:State} {a:ActD} (g:StepS p s a u)
include g
end
end Go.Lev
namespace Go.Lev
open Go.Eng
section
variable {r:Rte} {is:Int→Int} {id:Int} (h0:0<r.path.length) (ht:1≤r.timer)
include h0 ht
end
section
variable (p:Pln) (at' d:Nat)
end
section
variable {p:Pln} {at' d:Nat} {i:Nat} {t:State}
variable (hd:d=1∨d=2) (g:TrI p at' d i t) (hi:i<(nth p.routes at').path.length)
include g
include hd hi
end
section
variable {p:Pln} {at' d:Nat} {i:Nat} {t:State} (g:TrI p at' d i t)
include g
end
end Go.Lev
