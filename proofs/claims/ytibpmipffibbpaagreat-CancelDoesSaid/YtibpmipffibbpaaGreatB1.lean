/-
  A part of the engine that walks the functions' codes, and of the functions' contracts. Conditions: those that each theorem names.
-/
import Derived.Test.YtibpmipffibbpaaGreatL8
import Derived.IntWalk
set_option linter.unusedSimpArgs false
set_option linter.unusedVariables false
set_option linter.unusedSectionVars false
namespace Go.Lev
open Go.Eng
set_option maxRecDepth 10000
set_option maxHeartbeats 4000000
variable {P:Program} {inv:Nat→Option Nat}
theorem zpR (hH:HasAll P inv) {jc:Nat} {caps:List AV} {p:Switch→Bool} (l:List Switch) (hc:∀ x∈l,PC P inv jc ([.agg x.c]++caps) (·=.b (p x))) (hl:l.length≤1000000000):PC P inv 97 [.sl 3 (l.map Switch.c),.fn jc caps] (·=.n (zaZ p 0 l)):=by
 refine PC.fn hH cd97 fun w0 M Q hM hE hQ hR=>?_;dsimp only[cd97,qm,ql,qf,qi,qb,qc,qp,qv,qN,qT,qF,qt]at hQ ⊢
 (repeat' first|refine zaa [0,1,4,5,7,8,9,16] fun K hK=>?_|(refine hK.go ?_;clear hK K)|with_reducible exact wT|refine wA ?_|(refine wB (fun h=>?_) (fun h=>?_)<;>first|exact wN h|subst (h:(_:Bool)=_)|skip)|(refine wQ ?_;clear hQ hR hE hM)|fail)
 refine zb8 (fun k=>[(0,.sl 3 (l.map Switch.c)),(1,.fn jc caps),(7,.n l.length),(8,.n k)]) (fun k=>[]) (l.length) (fun k=>zaZ p k (l.drop k)=zaZ p 0 l) ?_;rintro k ⟨hk,hg⟩;rcases Nat.lt_or_ge k l.length with hlt|hge
 ·rw[zae hlt]at hg
  rw[zaZ]at hg
  (repeat' first|refine zaa [0,1,4,5,7,8,9,16] fun K hK=>?_|(refine hK.go ?_;clear hK K)|with_reducible exact wT|refine wA ?_|(refine wB (fun h=>?_) (fun h=>?_)<;>first|exact wN h|subst (h:(_:Bool)=_)|skip)|(refine wQ ?_;clear hQ hR hE hM)|(refine zau hM (hc _ (zab hlt)) ?_;try (refine no_implicit_lambda% (st ?_);try with_reducible exact wT))|fail)
  ·rw[←hg,if_pos h]
  ·exact ⟨k+1,by omega,⟨by omega,by rw[←hg,if_neg (by rw[h];simp)];rfl⟩,(by (try dsimp only);(first|omega|(simp;done)|(simp;omega)))⟩
 ·rw[List.drop_eq_nil_of_le hge]at hg
  (repeat' first|refine zaa [0,1,4,5,7,8,9,16] fun K hK=>?_|(refine hK.go ?_;clear hK K)|with_reducible exact wT|refine wA ?_|(refine wB (fun h=>?_) (fun h=>?_)<;>first|exact wN h|subst (h:(_:Bool)=_)|skip)|(refine wQ ?_;clear hQ hR hE hM)|fail)
  rw[←hg];rfl
theorem zmc (hH:HasAll P inv) {jc:Nat} {caps:List AV} {p:Lock→Bool} (l:List Lock) (hc:∀ x∈l,PC P inv jc ([.agg x.c]++caps) (·=.b (p x))) (hl:l.length≤1000000000):PC P inv 173 [.sl 4 (l.map Lock.c),.fn jc caps] (·=.n (zaZ p 0 l)):=by
 refine PC.fn hH cd173 fun w0 M Q hM hE hQ hR=>?_;dsimp only[cd173,qm,ql,qf,qi,qb,qc,qp,qv,qN,qT,qF,qt]at hQ ⊢
 (repeat' first|refine zaa [0,1,4,5,7,8,9,16] fun K hK=>?_|(refine hK.go ?_;clear hK K)|with_reducible exact wT|refine wA ?_|(refine wB (fun h=>?_) (fun h=>?_)<;>first|exact wN h|subst (h:(_:Bool)=_)|skip)|(refine wQ ?_;clear hQ hR hE hM)|fail)
 refine zb8 (fun k=>[(0,.sl 4 (l.map Lock.c)),(1,.fn jc caps),(7,.n l.length),(8,.n k)]) (fun k=>[]) (l.length) (fun k=>zaZ p k (l.drop k)=zaZ p 0 l) ?_;rintro k ⟨hk,hg⟩;rcases Nat.lt_or_ge k l.length with hlt|hge
 ·rw[zae hlt]at hg
  rw[zaZ]at hg
  (repeat' first|refine zaa [0,1,4,5,7,8,9,16] fun K hK=>?_|(refine hK.go ?_;clear hK K)|with_reducible exact wT|refine wA ?_|(refine wB (fun h=>?_) (fun h=>?_)<;>first|exact wN h|subst (h:(_:Bool)=_)|skip)|(refine wQ ?_;clear hQ hR hE hM)|(refine zau hM (hc _ (zab hlt)) ?_;try (refine no_implicit_lambda% (st ?_);try with_reducible exact wT))|fail)
  ·rw[←hg,if_pos h]
  ·exact ⟨k+1,by omega,⟨by omega,by rw[←hg,if_neg (by rw[h];simp)];rfl⟩,(by (try dsimp only);(first|omega|(simp;done)|(simp;omega)))⟩
 ·rw[List.drop_eq_nil_of_le hge]at hg
  (repeat' first|refine zaa [0,1,4,5,7,8,9,16] fun K hK=>?_|(refine hK.go ?_;clear hK K)|with_reducible exact wT|refine wA ?_|(refine wB (fun h=>?_) (fun h=>?_)<;>first|exact wN h|subst (h:(_:Bool)=_)|skip)|(refine wQ ?_;clear hQ hR hE hM)|fail)
  rw[←hg];rfl
end Go.Lev
namespace Go.Lev
open Go.Eng
set_option maxRecDepth 10000
set_option maxHeartbeats 4000000
variable {P:Program} {inv:Nat→Option Nat} {w0:World} {M:Nat→Prop}
theorem GC.get1 {G:List Int→List Int→AV→List AV} {Z:List Int} (hg:GC G Z) {H A:List Int} (W:AV) (h:H.length=100) {i:Nat} (hi:i<100):(G H A W)[i]?=some (.n (nth H i)):=by rw[hg.eq];exact zp1 h hi
theorem GC.get2 {G:List Int→List Int→AV→List AV} {Z:List Int} (hg:GC G Z) {H A:List Int} (W:AV) (h:H.length=100) (h':A.length=100) {i:Nat} (hi:i<100):(G H A W)[100+i]?=some (.n (nth A i)):=by rw[hg.eq];exact gc_get2 h h' hi
end Go.Lev
namespace Go.Lev
open Go.Eng
set_option maxRecDepth 10000
set_option maxHeartbeats 4000000
variable {P:Program} {inv:Nat→Option Nat} {w0:World} {M:Nat→Prop}
theorem zmD {α:Type} [Inhabited α] (f:α→Int) (n:Int) (g:α→α):∀ {l:List α},(l.map f).Nodup→∀ {k:Nat},k<l.length→f (nth l k)=n→l.set k (g (nth l k))=zd2 f n g l
 |[],_,k,h,_=>by simp at h
 |x::r,hn,0,_,e=>by
  simp only[List.map_cons,List.nodup_cons]at hn
  have e:f x=n:=e
  unfold zd2
  rw[List.set_cons_zero,List.map_cons,if_pos e]
  congr 1
  symm
  refine (List.map_congr_left fun y hy=>?_).trans (List.map_id r)
  rw[if_neg (fun h=>hn.1 (by rw[e,←h];exact List.mem_map_of_mem hy))]
  rfl
 |x::r,hn,k+1,h,e=>by
  simp only[List.map_cons,List.nodup_cons]at hn
  have hk:k<r.length:=by simpa using h
  have e:f (nth r k)=n:=e
  have ih:=zmD f n g hn.2 hk e
  unfold zd2 at ih ⊢
  rw[List.set_cons_succ,List.map_cons,if_neg (fun h=>hn.1 (by rw[h,←e];exact List.mem_map_of_mem (zab hk)))]
  exact congrArg (x::·) ih
end Go.Lev
namespace Go.Lev
open Go.Eng
theorem zpA {l:Lock} {r:Rte} (h:zbJ l r=true):(l.left=0∧(l.phase=0∨l.phase=1∨l.phase=2))∨(1≤l.left∧l.left≤r.timer∧(l.phase=3∨l.phase=4)):=by
 simp only[zbJ,zat,Bool.and_eq_true]at h
 obtain ⟨_,h⟩:=h
 repeat' split at h
 all_goals (simp at h;try omega)
end Go.Lev
namespace Go.Eng
open Go.RowKit
section
variable {P:Program} {inv:Nat→Option Nat} {w0:World} {M:Nat→Prop} {n N:Nat} {φ:AF} {σ:AS}
theorem AWp.midP (ks:List Nat) (m:List (Nat×AV)) (A:Prop) {x y:ACode} {Q:Exit→AF→AS→Prop} (h1:AWp P inv w0 M N n x (zor (midK A (zh0 m (zeP ks φ)) σ) Q) φ σ) (h2:A→AWp P inv w0 M N n y Q (zh0 m (zeP ks φ)) σ):AWp P inv w0 M N n (.seq x y) Q φ σ :=
 AWp.seq fun K hK=>by
  refine AWp.mono ?_ h1
  intro e φ' σ' q
  cases e with
  |normal=>exact hK _ _ ((h2 q.1).sub q.2.1 q.2.2)
  |exit id=>exact q
  |goto l=>exact q
  |ret=>exact q
  |panic ch=>exact q
  |outgrown=>exact q
end
end Go.Eng
namespace Go.Eng
open Go.RowKit
section
variable {S R:Type} {body:Nat→S→(S→R)→R} {fin:S→R} {n k:Nat} {s:S}
end
section
variable {f f':Nat→Option (List AV)} {g:Nat→Bool} (h:∀ l,g l=true→f' l=f l)
include h
end
section
variable (k:Nat) (σ:List (Nat×AO))
end
section
variable {P:Program} {inv:Nat→Option Nat} {w0:World} {M:Nat→Prop} {σ:AS}
end
section
variable {P:Program} {inv:Nat→Option Nat} {w0:World} {M:Nat→Prop} {n N:Nat} {φ:AF} {σ:AS}
theorem zaD {x r:ACode} {Q:Exit→AF→AS→Prop} (l:Nat) (hf:ziq x l=some r) (h:AWp P inv w0 M N n x (zgM l (fun _ _=>False) Q) φ σ):AWp P inv w0 M N n (.scope x) Q φ σ :=
 AWp.scope l hf (fun _ _ _=>False) (AWp.mono (fun e φ' σ' q=>by
  cases e with
  |goto l'=>exact q.2.elim
  |normal=>exact q
  |exit id=>exact q
  |ret=>exact q
  |panic ch=>exact q
  |outgrown=>exact q) h) fun _ _ _ h=>h.elim
variable {l:Nat} {J:AF→AS→Prop} {Q:Exit→AF→AS→Prop}
end
section
variable {P:Program} {inv:Nat→Option Nat} {w0:World} {M:Nat→Prop} {n N:Nat} {φ:AF} {σ:AS}
theorem AWp.sqpC (ks:List Nat) {l:List GOp} {c:Opd} {u v y:ACode} {Q:Exit→AF→AS→Prop} (h:∀ K:AF→AS→Prop,Cont K (AWp P inv w0 M N n y Q)→AWp P inv w0 M N n (.seq (.reg l) (.cond c u v)) (zor (pk ks K) Q) φ σ):AWp P inv w0 M N n (.seq (.seq (.reg l) (.cond c u v)) y) Q φ σ:=zaa ks h
theorem AWp.sqpD (ks:List Nat) {k:Nat} {l:List GOp} {c:Opd} {u v y:ACode} {Q:Exit→AF→AS→Prop} (h:∀ K:AF→AS→Prop,Cont K (AWp P inv w0 M N n y Q)→AWp P inv w0 M N n (.seq (.regd k l) (.cond c u v)) (zor (pk ks K) Q) φ σ):AWp P inv w0 M N n (.seq (.seq (.regd k l) (.cond c u v)) y) Q φ σ:=zaa ks h
end
end Go.Eng
namespace Go.Lev
open Go.Eng
set_option maxRecDepth 10000
set_option maxHeartbeats 4000000
variable {P:Program} {inv:Nat→Option Nat} {w0:World} {M:Nat→Prop}
theorem swt_of {p:Pln} {s:State} (h:zak p s=true) {n:Int} (hn:zn1 p n=true):zpG s n:=by
 obtain ⟨x,hx,e⟩:=List.any_eq_true.1 hn
 have e:x.id=n:=by simpa using e
 have:x.id∈s.switches.map Switch.id:=by rw[zd5 h];exact List.mem_map_of_mem hx
 obtain ⟨t,ht,e2⟩:=List.mem_map.1 this
 exact ⟨t,ht,e2.trans e⟩
end Go.Lev
namespace Go.Lev
open Go.Eng
set_option maxRecDepth 10000
set_option maxHeartbeats 4000000
variable {P:Program} {inv:Nat→Option Nat} {w0:World} {M:Nat→Prop}
theorem zpP (hH:HasAll P inv) (l:List Track) (v:Track) (hl:l.length≤1000000000):PC P inv 184 [.sl 2 (l.map Track.c),.agg v.c] (·=.n (zaZ (fun x=>decide (v.id=x.id)&&decide (v.is=x.is)) 0 l)):=by
 refine PC.fn hH cd184 fun w0 M Q hM hE hQ hR=>?_;dsimp only[cd184,qm,ql,qf,qi,qb,qc,qp,qv,qN,qT,qF,qt]at hQ ⊢
 (repeat' first|refine zaa [0,1,3,4,5,7,8,9,16] fun K hK=>?_|(refine hK.go ?_;clear hK K)|with_reducible exact wT|refine wA ?_|(refine wB (fun h=>?_) (fun h=>?_)<;>first|exact wN h|subst (h:(_:Bool)=_)|skip)|(refine wQ ?_;clear hQ hR hE hM)|fail)
 refine zai (ι:=Nat) [0,3,4,7,8] (fun z=>[(8,.n z)]) (fun _=>[]) (fun z=>z) (l.length) (fun z=>(zaZ (fun x=>decide (v.id=x.id)&&decide (v.is=x.is)) z (l.drop z)=zaZ (fun x=>decide (v.id=x.id)&&decide (v.is=x.is)) 0 l)) (0) ?_;rintro k ⟨hk,hg⟩;(try dsimp only at hk hg ⊢);rcases Nat.lt_or_ge k l.length with hlt|hge
 ·rw[zae hlt]at hg
  rw[zaZ]at hg
  cases ht:decide (v.id=(nth l k).id)&&decide (v.is=(nth l k).is) with
  |true =>
   rw[if_pos ht]at hg
   (have hX:=@ht;(repeat' first|refine zaa [0,1,3,4,5,7,8,9,16] fun K hK=>?_|(refine hK.go ?_;clear hK K)|with_reducible exact wT|refine wA ?_|(refine wB (fun h=>?_) (fun h=>?_)<;>first|exact wN h|subst (h:(_:Bool)=_)|skip)|(refine wQ ?_;clear hQ hR hE hM)|fail);all_goals clear hX)
   all_goals first|exact hg|(exfalso;contradiction)
  |false =>
   rw[if_neg (by rw[ht];simp)]at hg
   (have hX:=@ht;(repeat' first|refine zaa [0,1,3,4,5,7,8,9,16] fun K hK=>?_|(refine hK.go ?_;clear hK K)|with_reducible exact wT|refine wA ?_|(refine wB (fun h=>?_) (fun h=>?_)<;>first|exact wN h|subst (h:(_:Bool)=_)|skip)|(refine wQ ?_;clear hQ hR hE hM)|fail);all_goals clear hX)
   all_goals first|(exfalso;contradiction)|exact ⟨k+1,by omega,⟨by omega,hg⟩,by omega⟩
 ·rw[List.drop_eq_nil_of_le hge]at hg
  (repeat' first|refine zaa [0,1,3,4,5,7,8,9,16] fun K hK=>?_|(refine hK.go ?_;clear hK K)|with_reducible exact wT|refine wA ?_|(refine wB (fun h=>?_) (fun h=>?_)<;>first|exact wN h|subst (h:(_:Bool)=_)|skip)|(refine wQ ?_;clear hQ hR hE hM)|fail)
  rw[←hg];rfl
theorem zpU (hH:HasAll P inv) (l:List Track) (v:Track) (hl:l.length≤1000000000):PC P inv 176 [.sl 2 (l.map Track.c),.agg v.c] (·=.b (l.any fun x=>decide (v.id=x.id)&&decide (v.is=x.is))):=by
 have c1:=zpP hH l v hl
 have e:=zpS (fun x:Track=>decide (v.id=x.id)&&decide (v.is=x.is)) l
 revert c1 e
 generalize zaZ (fun x:Track=>decide (v.id=x.id)&&decide (v.is=x.is)) 0 l=i
 generalize (l.any fun x=>decide (v.id=x.id)&&decide (v.is=x.is))=t
 intro c1 e
 refine PC.fn hH cd176 fun w0 M Q hM hE hQ hR=>?_;dsimp only[cd176,qm,ql,qf,qi,qb,qc,qp,qv,qN,qT,qF,qt]at hQ ⊢
 (have hX:=@e;(repeat' first|refine zaa [0,1,3,4] fun K hK=>?_|(refine hK.go ?_;clear hK K)|with_reducible exact wT|refine wA ?_|(refine wB (fun h=>?_) (fun h=>?_)<;>first|exact wN h|subst (h:(_:Bool)=_)|skip)|(refine wQ ?_;clear hQ hR hE hM)|refine wC c1 ?_|fail);all_goals clear hX)
theorem free_pc (hH:HasAll P inv) (s:State) (hs:s.tracks.length≤1000000000) (n:Int):PC P inv 181 [.agg s.c,.n n] (·=.b (frT s n)):=by
 have c1:=zpU hH s.tracks ⟨n,0⟩ hs
 rw[show (s.tracks.any fun x=>decide ((⟨n,0⟩:Track).id=x.id)&&decide ((⟨n,0⟩:Track).is=x.is))=frT s n from rfl]at c1
 refine PC.fn hH cd181 fun w0 M Q hM hE hQ hR=>?_;dsimp only[cd181,qm,ql,qf,qi,qb,qc,qp,qv,qN,qT,qF,qt]at hQ ⊢
 (repeat' first|refine zaa [0,1,2,4] fun K hK=>?_|(refine hK.go ?_;clear hK K)|with_reducible exact wT|refine wA ?_|(refine wB (fun h=>?_) (fun h=>?_)<;>first|exact wN h|subst (h:(_:Bool)=_)|skip)|(refine wQ ?_;clear hQ hR hE hM)|refine wC c1 ?_|fail)
theorem is189_pc (hH:HasAll P inv) (n:Int) (x:Pnt):PC P inv 189 ([.agg x.c]++[.ip 1 [[.n n]] 0 0]) (·=.b (decide (x.id=n))):=by
 refine PC.fn hH cd189 fun w0 M Q hM hE hQ hR=>?_;dsimp only[cd189,qm,ql,qf,qi,qb,qc,qp,qv,qN,qT,qF,qt]at hQ ⊢
 (repeat' first|refine zaa [0,1,2,3] fun K hK=>?_|(refine hK.go ?_;clear hK K)|with_reducible exact wT|refine wA ?_|(refine wB (fun h=>?_) (fun h=>?_)<;>first|exact wN h|subst (h:(_:Bool)=_)|skip)|(refine wQ ?_;clear hQ hR hE hM)|fail)
theorem zm9 (hH:HasAll P inv) (n:Int) (x:Switch):PC P inv 183 ([.agg x.c]++[.ip 1 [[.n n]] 0 0]) (·=.b (decide (x.id=n))):=by
 refine PC.fn hH cd183 fun w0 M Q hM hE hQ hR=>?_;dsimp only[cd183,qm,ql,qf,qi,qb,qc,qp,qv,qN,qT,qF,qt]at hQ ⊢
 (repeat' first|refine zaa [0,1,2,3] fun K hK=>?_|(refine hK.go ?_;clear hK K)|with_reducible exact wT|refine wA ?_|(refine wB (fun h=>?_) (fun h=>?_)<;>first|exact wN h|subst (h:(_:Bool)=_)|skip)|(refine wQ ?_;clear hQ hR hE hM)|fail)
theorem is180_pc (hH:HasAll P inv) (n:Int) (x:Lock):PC P inv 180 ([.agg x.c]++[.ip 1 [[.n n]] 0 0]) (·=.b (decide (x.id=n))):=by
 refine PC.fn hH cd180 fun w0 M Q hM hE hQ hR=>?_;dsimp only[cd180,qm,ql,qf,qi,qb,qc,qp,qv,qN,qT,qF,qt]at hQ ⊢
 (repeat' first|refine zaa [0,1,2,3] fun K hK=>?_|(refine hK.go ?_;clear hK K)|with_reducible exact wT|refine wA ?_|(refine wB (fun h=>?_) (fun h=>?_)<;>first|exact wN h|subst (h:(_:Bool)=_)|skip)|(refine wQ ?_;clear hQ hR hE hM)|fail)
theorem lies_pc (hH:HasAll P inv) (p:Pln) (hl:p.points.length≤1000000000) {k:Nat} (hk:k<p.points.length) {n:Int} (he:zaZ (fun x=>decide (Pnt.id x=n)) 0 p.points=(k:Int)):PC P inv 182 [.agg p.c,.n n] (·=.n (nth p.points k).sec):=by
 have c1:=zmb hH p.points (fun x _=>is189_pc hH n x) hl
 rw[he]at c1
 refine PC.fn hH cd182 fun w0 M Q hM hE hQ hR=>?_;dsimp only[cd182,qm,ql,qf,qi,qb,qc,qp,qv,qN,qT,qF,qt]at hQ ⊢
 (repeat' first|refine zaa [0,1,2,3,4] fun K hK=>?_|(refine hK.go ?_;clear hK K)|with_reducible exact wT|refine wA ?_|(refine wB (fun h=>?_) (fun h=>?_)<;>first|exact wN h|subst (h:(_:Bool)=_)|skip)|(refine wQ ?_;clear hQ hR hE hM)|refine wS c1 ?_|fail)
theorem zqq (hH:HasAll P inv) (s:State) (hl:s.switches.length≤1000000000) {k:Nat} (hk:k<s.switches.length) {n:Int} (he:zaZ (fun x=>decide (Switch.id x=n)) 0 s.switches=(k:Int)):PC P inv 172 [.agg s.c,.n n] (·=.ip 3 (s.switches.map Switch.c) k 2):=by
 have c1:=zpR hH s.switches (fun x _=>zm9 hH n x) hl
 rw[he]at c1
 refine PC.fn hH cd172 fun w0 M Q hM hE hQ hR=>?_;dsimp only[cd172,qm,ql,qf,qi,qb,qc,qp,qv,qN,qT,qF,qt]at hQ ⊢
 (repeat' first|refine zaa [0,1,2,3,4,5] fun K hK=>?_|(refine hK.go ?_;clear hK K)|with_reducible exact wT|refine wA ?_|(refine wB (fun h=>?_) (fun h=>?_)<;>first|exact wN h|subst (h:(_:Bool)=_)|skip)|(refine wQ ?_;clear hQ hR hE hM)|refine wS c1 ?_|fail)
end Go.Lev
namespace Go.Lev
open Go.Eng
set_option maxRecDepth 10000
set_option maxHeartbeats 4000000
variable {P:Program} {inv:Nat→Option Nat} {w0:World} {M:Nat→Prop}
theorem zms (ok:AskR→Bool) {e:Int} (he:¬e=0):∀ l,askE ok e l=e
 |[]=>rfl
 |a::r=>by rw[askE,if_neg he];exact zms ok he r
theorem askE_0 (ok:AskR→Bool):∀ l,askE ok 0 l=if l.all ok=true then 0 else 183
 |[]=>rfl
 |a::r=>by
  rw[askE,if_pos rfl,List.all_cons]
  cases h:ok a with
  |true=>rw[if_pos rfl,askE_0 ok r,Bool.true_and]
  |false=>rw[if_neg (by simp),zms ok (by decide)];simp
theorem setE_ask (p:Pln) (s:State) (i:Nat):setE p s i=askE (zmr p s (zaO p s).2.1) (zdi (zaO p s).1 (frT s) ((zah p (nth p.routes i)).1.path++(zah p (nth p.routes i)).1.over)) (zah p (nth p.routes i)).1.asks:=by
 unfold setE
 split
 ·rename_i h;rw[h,askE_0]
 ·rename_i h;rw[zms _ h]
theorem zpa {p:Pln} (h:OkP p) {k:Nat} (hk:k<p.points.length):zef p (nth p.points k).id=(nth p.points k).sec:=by
 unfold zef
 rw[zjZ Pnt.id (zee h) hk rfl]
theorem ziO (hH:HasAll P inv) (hI:HasIds P inv) (p:Pln) (hp:Sm p) (s:State) (hs:SmS s) (n:Int):PC P inv 171 [.agg p.c,.agg s.c,.n n] (·=.tup [.agg (lkW p s n).c,.n (lkC p s n)]):=by
 have c0:=of_pc hH hI p hp s hs
 have c1:=zmc hH s.locks (fun x _=>is180_pc hH n x) (by have:=hs.2.2;omega)
 have hRl:=zhT p s
 have hRe:=zlY p s
 by_cases hst:zag p s=0
 ·have hok:=zar hst
  have hpa:=(zad hst).2.1
  have hpl:=zan hpa
  have hR:ofR p s=⟨(zaO p s).1,(zaO p s).2.1,zaH p,0⟩:=by unfold ofR;rw[if_pos hst]
  rw[hR]at c0 hRl
  dsimp only at c0 hRl
  have hW:lkW p s n=if zeC s n<0 then WayR.z else if (nth s.locks (zeC s n).toNat).phase=0 then (zah p (nth p.routes (zeC s n).toNat)).1 else WayR.z:=by unfold lkW;rw[if_pos hst]
  have hC:lkC p s n=if zeC s n<0 then 6 else if (nth s.locks (zeC s n).toNat).phase=0 then setE p s (zeC s n).toNat else 180:=by unfold lkC;rw[if_pos hst]
  rw[hW,hC]
  clear hW hC
  obtain ⟨G,Z,hg⟩:=GC.ex
  rw[←hg.eq]at c0
  have hfold:=hg.fold
  have hlen0:=hg.len (.s0 4) hg.zl hg.zl
  have hlen:=hg.len (.sl 4 ((zaH p).map Way.c)) hRl.1 hRl.2
  have hov:=hg.ov (.s0 4) (.sl 4 ((zaH p).map Way.c)) hg.zl hg.zl hRl.1 hRl.2
  have hbd0:=hg.bd0 Z Z
  have hbd:=hg.bd (zaO p s).1 (zaO p s).2.1 ((zaH p).map Way.c)
  have hba:=hg.ba (zaO p s).1 (zaO p s).2.1 ((zaH p).map Way.c)
  have hlix:zeC s n=zaZ (fun x=>decide (Lock.id x=n)) 0 s.locks:=rfl
  rcases zaV Lock.id n s.locks with ⟨h4,_⟩|⟨i,hi,h4,h5⟩
  ·rw[h4]at c1 hlix
   rw[hlix,if_pos (by decide),if_pos (by decide)]
   refine PC.fn hH cd171 fun w0 M Q hM hE hQ hR=>?_;dsimp only[cd171,qm,ql,qf,qi,qb,qc,qp,qv,qN,qT,qF,qt]at hQ ⊢
   (have hX:=zA @hfold (zA @hlen0 (zA @hlen (zA @hov (zA @hbd0 (zA @hbd @hba)))));(repeat' first|refine zaa [0,1,2,3,4,5,6,7,8,9,11,13,15,23,29,37,48,49,50,51,54,55,56,57,60,66,74,75,76,77,106,109] fun K hK=>?_|(refine hK.go ?_;clear hK K)|with_reducible exact wT|refine wA ?_|(refine wB (fun h=>?_) (fun h=>?_)<;>first|exact wN h|subst (h:(_:Bool)=_)|skip)|(refine zaD 0 rfl ?_;try (refine no_implicit_lambda% (st ?_);try with_reducible exact wT))|(refine wQ ?_;clear hQ hR hE hM)|refine wC c0 ?_|refine wS c1 ?_|fail);all_goals clear hX)
   all_goals first|rfl|(exfalso;contradiction)|skip
  ·rw[h4]at c1 hlix
   rw[hlix,if_neg (show ¬((i:Nat):Int)<0 by omega),if_neg (show ¬((i:Nat):Int)<0 by omega),Int.toNat_natCast]
   have hri:i<p.routes.length:=by omega
   have hlk:s.locks.length≤1000:=hs.2.2
   by_cases hph:(nth s.locks i).phase=0
   ·rw[if_pos hph,if_pos hph]
    have hr:=zab hri
    have hwp:=zbC ((zaN (zad hst).1).2.1 _ hr)
    have hwl:=zbH hok hr
    have hsec:∀ m∈(zah p (nth p.routes i)).1.path++(zah p (nth p.routes i)).1.over,0≤m∧m≤99:=fun m hm=>by
     rw[hwp.1,hwp.2.1]at hm
     obtain ⟨q,hq,rfl⟩:=(zcc hok hr).1 m hm
     have:=zdq hok hq
     omega
    have hask:∀ k,k<(zah p (nth p.routes i)).1.asks.length→0≤(nth (zah p (nth p.routes i)).1.asks k).pnt∧(nth (zah p (nth p.routes i)).1.asks k).pnt≤99 ∧
      (∃ j,j<s.switches.length∧PC P inv 172 [.agg s.c,.n (nth (zah p (nth p.routes i)).1.asks k).pnt] (·=.ip 3 (s.switches.map Switch.c) j 2)∧(nth s.switches j).call=zby s (nth (zah p (nth p.routes i)).1.asks k).pnt) ∧
      PC P inv 182 [.agg p.c,.n (nth (zah p (nth p.routes i)).1.asks k).pnt] (·=.n (zef p (nth (zah p (nth p.routes i)).1.asks k).pnt)):=fun k hk=>by
     obtain ⟨⟨x,hx,ex⟩,hb,_⟩:=zbG hok hr (zab hk)
     refine ⟨by omega,by omega, ?_, ?_⟩
     ·obtain ⟨y,hy,ey⟩:=swt_of hpa (n:=(nth (zah p (nth p.routes i)).1.asks k).pnt) (List.any_eq_true.2 ⟨x,hx,by simpa using ex⟩)
      rcases zaV Switch.id (nth (zah p (nth p.routes i)).1.asks k).pnt s.switches with ⟨_,q⟩|⟨j,hj,q1,q2⟩
      ·exact absurd ey (q y hy)
      ·exact ⟨j,hj,zqq hH s (by have:=hs.2.1;omega) hj q1,by rw[←q2];exact (zll hok hpa (zab hj)).symm⟩
     ·rcases zaV Pnt.id (nth (zah p (nth p.routes i)).1.asks k).pnt p.points with ⟨_,q⟩|⟨j,hj,q1,q2⟩
      ·exact absurd ex (q x hx)
      ·have:=lies_pc hH p (by have:=hp.pts;omega) hj q1
       rw[←zpa hok hj,q2]at this
       exact this
    rw[setE_ask]
    have hgw:=hg.get (.sl 4 ((zaH p).map Way.c)) hRl.1 hRl.2
    have hwat:nth (zaH p) i=(zah p (nth p.routes i)).1:=zpo _ hri
    have hwlen:(zaH p).length=p.routes.length:=by simp[zaH]
    have hfr:∀ x,PC P inv 181 [.agg s.c,.n x] (·=.b (frT s x)):=fun x=>free_pc hH s (by have:=hs.1;omega) x
    have hok2:∀ a:AskR,zmr p s (zaO p s).2.1 a=(decide (zby s a.pnt=a.lie)||(decide (nth (zaO p s).2.1 a.pnt.toNat=0)&&frT s (zef p a.pnt))):=fun a=>rfl
    have hg1:∀ k:Nat,k<100→(G (zaO p s).1 (zaO p s).2.1 (.sl 4 ((zaH p).map Way.c)))[k]?=some (.n (nth (zaO p s).1 k)):=fun k hk=>hg.get1 _ hRl.1 hk
    have hg2:∀ k:Nat,k<100→(G (zaO p s).1 (zaO p s).2.1 (.sl 4 ((zaH p).map Way.c)))[100+k]?=some (.n (nth (zaO p s).2.1 k)):=fun k hk=>hg.get2 _ hRl.1 hRl.2 hk
    generalize (zah p (nth p.routes i)).1=w at *
    generalize zaO p s=GR at *
    obtain ⟨H,A,B⟩:=GR
    dsimp only at *
    generalize zaH p=ws at *
    generalize zmr p s A=ok at *
    clear hwp hr hok hst hpa hR h5 hRe hg
    refine PC.fn hH cd171 fun w0 M Q hM hE hQ hR=>?_;dsimp only[cd171,qm,ql,qf,qi,qb,qc,qp,qv,qN,qT,qF,qt]at hQ ⊢
    repeat' (first|(refine zaa [0,1,2,3,4,5,6,7,8,9,11,13,15,23,29,37,48,49,50,51,54,55,56,57,60,66,74,75,76,77,106,109] fun K hK=>cnd2 rfl (fun h=>?_) (fun h=>?_)<;>(try first|exact h.elim|obtain rfl:(_:Bool)=_:=h)<;>first|(exfalso;omega)|skip)|refine AWp.sqpC [0,1,2,3,4,5,6,7,8,9,11,13,15,23,29,37,48,49,50,51,54,55,56,57,60,66,74,75,76,77,106,109] fun K hK=>?_|refine AWp.sqpD [0,1,2,3,4,5,6,7,8,9,11,13,15,23,29,37,48,49,50,51,54,55,56,57,60,66,74,75,76,77,106,109] fun K hK=>?_|refine zaa [0,1,2,3,4,5,6,7,8,9,11,13,15,23,29,37,48,49,50,51,54,55,56,57,60,66,74,75,76,77,106,109] fun K hK=>AWp.label ?_|refine AWp.block ?_|(refine hK.go ?_;clear hK K)|refine Cont.go (by assumption) ?_|(refine cnd2 rfl (fun h=>?_) (fun h=>?_)<;>(try first|exact h.elim|obtain rfl:(_:Bool)=_:=h)<;>first|(exfalso;omega)|skip)|((first|refine zaa [0,1,2,3,4,5,6,7,8,9,11,13,15,23,29,37,48,49,50,51,54,55,56,57,60,66,74,75,76,77,106,109] fun K hK=>AWp.reg hE hM ?_|refine zaa [0,1,2,3,4,5,6,7,8,9,11,13,15,23,29,37,48,49,50,51,54,55,56,57,60,66,74,75,76,77,106,109] fun K hK=>AWp.regd hE hM ?_|refine AWp.reg hE hM ?_|refine AWp.regd hE hM ?_|refine AWp.ret ?_|refine AWp.label ?_|(refine zaD 0 rfl ?_)|refine AWp.skip ?_|refine AWp.exit ?_|(refine pk2 (fun h=>?_) (fun h=>?_)<;>(try first|exact h.elim|obtain rfl:(_:Bool)=_:=h))|refine zjJ (fun h=>?_) ?_|refine zau hM (c0) ?_|(refine zeN hM 4 ( c1) ?_ rfl ?_;(focus (simp -dsimp -implicitDefEqProofs (disch:=omega) only[go_sem,reduceIte,↓reduceIte,Nat.reduceEqDiff,Nat.reduceLT,Nat.reduceLeDiff,Nat.reduceAdd,Nat.reduceSub,Nat.reduceMul,Int.reduceToNat,Int.reduceLT,Int.reduceLE,Int.reduceEq,Int.reduceNeg,Int.reduceNe,reduceCtorEq,hfold,hlen0,hlen,hov,hbd0,hbd,hba,hgw,hwat]<;>fail)))|(refine hQ _ _ _ rfl ?_;clear hQ hR hE hM)|(refine hR _ _ (hQ _ _ _ rfl ?_);clear hQ hR hE hM)|(refine ob_mk ?_ ?_;focus first|omega|(refine zqF ?_;(refine no_implicit_lambda% (st ?_);try with_reducible exact wT);done)))<;>try simp -dsimp -implicitDefEqProofs (disch:=omega) only[go_sem,reduceIte,↓reduceIte,Nat.reduceEqDiff,Nat.reduceLT,Nat.reduceLeDiff,Nat.reduceAdd,Nat.reduceSub,Nat.reduceMul,Int.reduceToNat,Int.reduceLT,Int.reduceLE,Int.reduceEq,Int.reduceNeg,Int.reduceNe,reduceCtorEq,hfold,hlen0,hlen,hov,hbd0,hbd,hba,hgw,hwat]))
    refine AWp.midP [3,4,6,8] [(7,.n (zdi H (frT s) (w.path++w.over)))] (True) ?_ fun hmid=>?_
    ·(have hX:=zA @hfold (zA @hlen0 (zA @hlen (zA @hov (zA @hbd0 (zA @hbd @hba)))));(repeat' first|refine zaa [0,1,2,3,4,5,6,7,8,9,11,13,15,23,29,37,48,49,50,51,54,55,56,57,60,66,74,75,76,77,106,109] fun K hK=>?_|(refine hK.go ?_;clear hK K)|with_reducible exact wT|refine wA ?_|(refine wB (fun h=>?_) (fun h=>?_)<;>first|exact wN h|subst (h:(_:Bool)=_)|skip)|(refine zaD 0 rfl ?_;try (refine no_implicit_lambda% (st ?_);try with_reducible exact wT))|(refine wQ ?_;clear hQ hR hE hM)|fail);all_goals clear hX)
     refine zai (ι:=Nat) [3,4,6,7,8,48,49,50] (fun z=>[(50,.n z)]) (fun _=>[]) (fun z=>z) (2) (fun z=>(zdi H (frT s) ((([w.path,w.over]:List (List Int)).drop z).flatten)=zdi H (frT s) (w.path++w.over))) (0) ?_;rintro k ⟨hk,hg0⟩;(try dsimp only at hk hg0 ⊢);rcases Nat.lt_or_ge k 2 with hlt|hge
     ·have hout:=hg0
      obtain rfl|rfl:k=0∨k=1:=by omega
      ·(repeat' first|refine zaa [0,1,2,3,4,5,6,7,8,9,11,13,15,23,29,37,48,49,50,51,54,55,56,57,60,66,74,75,76,77,106,109] fun K hK=>?_|(refine hK.go ?_;clear hK K)|with_reducible exact wT|refine wA ?_|(refine wB (fun h=>?_) (fun h=>?_)<;>first|exact wN h|subst (h:(_:Bool)=_)|skip)|(refine zaD 0 rfl ?_;try (refine no_implicit_lambda% (st ?_);try with_reducible exact wT))|(refine wQ ?_;clear hQ hR hE hM)|fail)
       refine zai (ι:=Nat) [3,4,6,7,8,48,49,50,54,55,56] (fun z=>[(56,.n z)]) (fun _=>[]) (fun z=>z) (w.path.length) (fun z=>(zdi H (frT s) (w.path.drop z++w.over)=zdi H (frT s) (w.path++w.over))) (0) ?_;rintro j ⟨hk,hj⟩;(try dsimp only at hk hj ⊢);rcases Nat.lt_or_ge j w.path.length with hlt|hge
       ·have hx:=hsec (nth w.path j) (List.mem_append_left _ (zab hlt))
        rw[zae hlt,List.cons_append,zdi]at hj
        by_cases h1:nth H (nth w.path j).toNat=0
        ·rw[if_pos h1]at hj
         have c3:=hfr (nth w.path j)
         cases hf:frT s (nth w.path j) with
         |true =>
          rw[if_pos hf]at hj
          rw[hf]at c3
          (have hX:=zA @hlen (zA @hbd (zA @hba (zA @hg1 @h1)));(repeat' first|refine zaa [0,1,2,3,4,5,6,7,8,9,11,13,15,23,29,37,48,49,50,51,54,55,56,57,60,66,74,75,76,77,106,109] fun K hK=>?_|(refine hK.go ?_;clear hK K)|with_reducible exact wT|refine wA ?_|(refine wB (fun h=>?_) (fun h=>?_)<;>first|exact wN h|subst (h:(_:Bool)=_)|skip)|(refine zaD 0 rfl ?_;try (refine no_implicit_lambda% (st ?_);try with_reducible exact wT))|(refine wQ ?_;clear hQ hR hE hM)|refine wC c3 ?_|fail);all_goals clear hX)
          all_goals first|(exfalso;contradiction)|exact ⟨j+1,by omega,⟨by omega,hj⟩,by omega⟩
         |false =>
          rw[if_neg (by rw[hf];simp)]at hj
          rw[hf]at c3
          (have hX:=zA @hlen (zA @hbd (zA @hba (zA @hg1 @h1)));(repeat' first|refine zaa [0,1,2,3,4,5,6,7,8,9,11,13,15,23,29,37,48,49,50,51,54,55,56,57,60,66,74,75,76,77,106,109] fun K hK=>?_|(refine hK.go ?_;clear hK K)|with_reducible exact wT|refine wA ?_|(refine wB (fun h=>?_) (fun h=>?_)<;>first|exact wN h|subst (h:(_:Bool)=_)|skip)|(refine zaD 0 rfl ?_;try (refine no_implicit_lambda% (st ?_);try with_reducible exact wT))|(refine wQ ?_;clear hQ hR hE hM)|refine wC c3 ?_|fail);all_goals clear hX)
          all_goals first|exact hj|(exfalso;contradiction)
        ·rw[if_neg h1]at hj
         (have hX:=zA @hlen (zA @hbd (zA @hba @hg1));(repeat' first|refine zaa [0,1,2,3,4,5,6,7,8,9,11,13,15,23,29,37,48,49,50,51,54,55,56,57,60,66,74,75,76,77,106,109] fun K hK=>?_|(refine hK.go ?_;clear hK K)|with_reducible exact wT|refine wA ?_|(refine wB (fun h=>?_) (fun h=>?_)<;>first|exact wN h|subst (h:(_:Bool)=_)|skip)|(refine zaD 0 rfl ?_;try (refine no_implicit_lambda% (st ?_);try with_reducible exact wT))|(refine wQ ?_;clear hQ hR hE hM)|fail);all_goals clear hX)
         all_goals first|exact hj|(exfalso;contradiction)
       ·rw[List.drop_eq_nil_of_le hge]at hj
        (repeat' first|refine zaa [0,1,2,3,4,5,6,7,8,9,11,13,15,23,29,37,48,49,50,51,54,55,56,57,60,66,74,75,76,77,106,109] fun K hK=>?_|(refine hK.go ?_;clear hK K)|with_reducible exact wT|refine wA ?_|(refine wB (fun h=>?_) (fun h=>?_)<;>first|exact wN h|subst (h:(_:Bool)=_)|skip)|(refine zaD 0 rfl ?_;try (refine no_implicit_lambda% (st ?_);try with_reducible exact wT))|(refine wQ ?_;clear hQ hR hE hM)|fail)
        exact ⟨1,by omega,⟨by omega,by simpa using hj⟩,rfl⟩
      ·replace hout:zdi H (frT s) (w.over.drop 0)=zdi H (frT s) (w.path++w.over):=by simpa using hout
       (repeat' first|refine zaa [0,1,2,3,4,5,6,7,8,9,11,13,15,23,29,37,48,49,50,51,54,55,56,57,60,66,74,75,76,77,106,109] fun K hK=>?_|(refine hK.go ?_;clear hK K)|with_reducible exact wT|refine wA ?_|(refine wB (fun h=>?_) (fun h=>?_)<;>first|exact wN h|subst (h:(_:Bool)=_)|skip)|(refine zaD 0 rfl ?_;try (refine no_implicit_lambda% (st ?_);try with_reducible exact wT))|(refine wQ ?_;clear hQ hR hE hM)|fail)
       refine zai (ι:=Nat) [3,4,6,7,8,48,49,50,54,55,56] (fun z=>[(56,.n z)]) (fun _=>[]) (fun z=>z) (w.over.length) (fun z=>(zdi H (frT s) (w.over.drop z)=zdi H (frT s) (w.path++w.over))) (0) ?_;rintro j ⟨hk,hj⟩;(try dsimp only at hk hj ⊢);rcases Nat.lt_or_ge j w.over.length with hlt|hge
       ·have hx:=hsec (nth w.over j) (List.mem_append_right _ (zab hlt))
        rw[zae hlt,zdi]at hj
        by_cases h1:nth H (nth w.over j).toNat=0
        ·rw[if_pos h1]at hj
         have c3:=hfr (nth w.over j)
         cases hf:frT s (nth w.over j) with
         |true =>
          rw[if_pos hf]at hj
          rw[hf]at c3
          (have hX:=zA @hlen (zA @hbd (zA @hba (zA @hg1 @h1)));(repeat' first|refine zaa [0,1,2,3,4,5,6,7,8,9,11,13,15,23,29,37,48,49,50,51,54,55,56,57,60,66,74,75,76,77,106,109] fun K hK=>?_|(refine hK.go ?_;clear hK K)|with_reducible exact wT|refine wA ?_|(refine wB (fun h=>?_) (fun h=>?_)<;>first|exact wN h|subst (h:(_:Bool)=_)|skip)|(refine zaD 0 rfl ?_;try (refine no_implicit_lambda% (st ?_);try with_reducible exact wT))|(refine wQ ?_;clear hQ hR hE hM)|refine wC c3 ?_|fail);all_goals clear hX)
          all_goals first|(exfalso;contradiction)|exact ⟨j+1,by omega,⟨by omega,hj⟩,by omega⟩
         |false =>
          rw[if_neg (by rw[hf];simp)]at hj
          rw[hf]at c3
          (have hX:=zA @hlen (zA @hbd (zA @hba (zA @hg1 @h1)));(repeat' first|refine zaa [0,1,2,3,4,5,6,7,8,9,11,13,15,23,29,37,48,49,50,51,54,55,56,57,60,66,74,75,76,77,106,109] fun K hK=>?_|(refine hK.go ?_;clear hK K)|with_reducible exact wT|refine wA ?_|(refine wB (fun h=>?_) (fun h=>?_)<;>first|exact wN h|subst (h:(_:Bool)=_)|skip)|(refine zaD 0 rfl ?_;try (refine no_implicit_lambda% (st ?_);try with_reducible exact wT))|(refine wQ ?_;clear hQ hR hE hM)|refine wC c3 ?_|fail);all_goals clear hX)
          all_goals first|exact hj|(exfalso;contradiction)
        ·rw[if_neg h1]at hj
         (have hX:=zA @hlen (zA @hbd (zA @hba @hg1));(repeat' first|refine zaa [0,1,2,3,4,5,6,7,8,9,11,13,15,23,29,37,48,49,50,51,54,55,56,57,60,66,74,75,76,77,106,109] fun K hK=>?_|(refine hK.go ?_;clear hK K)|with_reducible exact wT|refine wA ?_|(refine wB (fun h=>?_) (fun h=>?_)<;>first|exact wN h|subst (h:(_:Bool)=_)|skip)|(refine zaD 0 rfl ?_;try (refine no_implicit_lambda% (st ?_);try with_reducible exact wT))|(refine wQ ?_;clear hQ hR hE hM)|fail);all_goals clear hX)
         all_goals first|exact hj|(exfalso;contradiction)
       ·rw[List.drop_eq_nil_of_le hge]at hj
        (repeat' first|refine zaa [0,1,2,3,4,5,6,7,8,9,11,13,15,23,29,37,48,49,50,51,54,55,56,57,60,66,74,75,76,77,106,109] fun K hK=>?_|(refine hK.go ?_;clear hK K)|with_reducible exact wT|refine wA ?_|(refine wB (fun h=>?_) (fun h=>?_)<;>first|exact wN h|subst (h:(_:Bool)=_)|skip)|(refine zaD 0 rfl ?_;try (refine no_implicit_lambda% (st ?_);try with_reducible exact wT))|(refine wQ ?_;clear hQ hR hE hM)|fail)
        exact ⟨2,by omega,⟨by omega,by simpa using hj⟩,rfl⟩
     ·obtain rfl:k=2:=by omega
      (repeat' first|refine zaa [0,1,2,3,4,5,6,7,8,9,11,13,15,23,29,37,48,49,50,51,54,55,56,57,60,66,74,75,76,77,106,109] fun K hK=>?_|(refine hK.go ?_;clear hK K)|with_reducible exact wT|refine wA ?_|(refine wB (fun h=>?_) (fun h=>?_)<;>first|exact wN h|subst (h:(_:Bool)=_)|skip)|(refine zaD 0 rfl ?_;try (refine no_implicit_lambda% (st ?_);try with_reducible exact wT))|(refine wQ ?_;clear hQ hR hE hM)|fail)
      all_goals first|exact hg0|(simpa using hg0)
    ·(have hX:=zA @hlen (zA @hbd @hba);(repeat' first|refine zaa [0,1,2,3,4,5,6,7,8,9,11,13,15,23,29,37,48,49,50,51,54,55,56,57,60,66,74,75,76,77,106,109] fun K hK=>?_|(refine hK.go ?_;clear hK K)|with_reducible exact wT|refine wA ?_|(refine wB (fun h=>?_) (fun h=>?_)<;>first|exact wN h|subst (h:(_:Bool)=_)|skip)|(refine zaD 0 rfl ?_;try (refine no_implicit_lambda% (st ?_);try with_reducible exact wT))|(refine wQ ?_;clear hQ hR hE hM)|fail);all_goals clear hX)
     refine zai (ι:=Nat×Int) [3,4,6,7,8,74,75,76] (fun z=>[(7,.n z.2),(76,.n z.1)]) (fun _=>[]) (fun z=>z.1) (w.asks.length) (fun z=>(askE ok z.2 (w.asks.drop z.1)=askE ok (zdi H (frT s) (w.path++w.over)) w.asks)) (0,(zdi H (frT s) (w.path++w.over))) ?_;rintro ⟨k,e⟩ ⟨hk,hq⟩;(try dsimp only at hk hq ⊢);rcases Nat.lt_or_ge k w.asks.length with hlt|hge
     ·obtain ⟨ha1,ha2,⟨j,hj,d1,hcall⟩,d2⟩:=hask k hlt
      have d3:=hfr (zef p (nth w.asks k).pnt)
      have hok3:=hok2 (nth w.asks k)
      rw[zae hlt,askE]at hq
      by_cases he:e=0
      ·subst he
       rw[if_pos rfl]at hq
       by_cases h1:zby s (nth w.asks k).pnt=(nth w.asks k).lie
       ·rw[hok3,decide_eq_true h1,Bool.true_or,if_pos rfl]at hq
        have h2:decide ((nth s.switches j).call=(nth w.asks k).lie)=true:=decide_eq_true (hcall.trans h1)
        (have hX:=zA @hlen (zA @hbd (zA @hba (zA @hg2 @h2)));(repeat' first|refine zaa [0,1,2,3,4,5,6,7,8,9,11,13,15,23,29,37,48,49,50,51,54,55,56,57,60,66,74,75,76,77,106,109] fun K hK=>?_|(refine hK.go ?_;clear hK K)|with_reducible exact wT|refine wA ?_|(refine wB (fun h=>?_) (fun h=>?_)<;>first|exact wN h|subst (h:(_:Bool)=_)|skip)|(refine zaD 0 rfl ?_;try (refine no_implicit_lambda% (st ?_);try with_reducible exact wT))|(refine wQ ?_;clear hQ hR hE hM)|refine wC d1 ?_|refine wC d2 ?_|refine wC d3 ?_|fail);all_goals clear hX)
        all_goals first|(exfalso;contradiction)|exact ⟨(k+1,0),by dsimp only;omega,⟨by dsimp only;omega,hq⟩,rfl,by dsimp only;omega⟩
       ·have h2:decide ((nth s.switches j).call=(nth w.asks k).lie)=false:=decide_eq_false (fun e=>h1 (hcall.symm.trans e))
        rw[hok3,decide_eq_false h1,Bool.false_or]at hq
        by_cases h3:nth A (nth w.asks k).pnt.toNat=0
        ·rw[decide_eq_true h3,Bool.true_and]at hq
         cases hf:frT s (zef p (nth w.asks k).pnt) with
         |true =>
          rw[if_pos hf]at hq
          rw[hf]at d3
          (have hX:=zA @hlen (zA @hbd (zA @hba (zA @hg2 (zA @h2 @h3))));(repeat' first|refine zaa [0,1,2,3,4,5,6,7,8,9,11,13,15,23,29,37,48,49,50,51,54,55,56,57,60,66,74,75,76,77,106,109] fun K hK=>?_|(refine hK.go ?_;clear hK K)|with_reducible exact wT|refine wA ?_|(refine wB (fun h=>?_) (fun h=>?_)<;>first|exact wN h|subst (h:(_:Bool)=_)|skip)|(refine zaD 0 rfl ?_;try (refine no_implicit_lambda% (st ?_);try with_reducible exact wT))|(refine wQ ?_;clear hQ hR hE hM)|refine wC d1 ?_|refine wC d2 ?_|refine wC d3 ?_|fail);all_goals clear hX)
          all_goals first|(exfalso;contradiction)|exact ⟨(k+1,0),by dsimp only;omega,⟨by dsimp only;omega,hq⟩,rfl,by dsimp only;omega⟩
         |false =>
          rw[if_neg (by rw[hf];simp)]at hq
          rw[hf]at d3
          (have hX:=zA @hlen (zA @hbd (zA @hba (zA @hg2 (zA @h2 @h3))));(repeat' first|refine zaa [0,1,2,3,4,5,6,7,8,9,11,13,15,23,29,37,48,49,50,51,54,55,56,57,60,66,74,75,76,77,106,109] fun K hK=>?_|(refine hK.go ?_;clear hK K)|with_reducible exact wT|refine wA ?_|(refine wB (fun h=>?_) (fun h=>?_)<;>first|exact wN h|subst (h:(_:Bool)=_)|skip)|(refine zaD 0 rfl ?_;try (refine no_implicit_lambda% (st ?_);try with_reducible exact wT))|(refine wQ ?_;clear hQ hR hE hM)|refine wC d1 ?_|refine wC d2 ?_|refine wC d3 ?_|fail);all_goals clear hX)
          all_goals first|(exfalso;contradiction)|exact ⟨(k+1,183),by dsimp only;omega,⟨by dsimp only;omega,hq⟩,rfl,by dsimp only;omega⟩
        ·rw[decide_eq_false h3,Bool.false_and,if_neg (by simp)]at hq
         have h4:decide (nth A (nth w.asks k).pnt.toNat=0)=false:=decide_eq_false h3
         (have hX:=zA @hlen (zA @hbd (zA @hba (zA @hg2 (zA @h2 @h4))));(repeat' first|refine zaa [0,1,2,3,4,5,6,7,8,9,11,13,15,23,29,37,48,49,50,51,54,55,56,57,60,66,74,75,76,77,106,109] fun K hK=>?_|(refine hK.go ?_;clear hK K)|with_reducible exact wT|refine wA ?_|(refine wB (fun h=>?_) (fun h=>?_)<;>first|exact wN h|subst (h:(_:Bool)=_)|skip)|(refine zaD 0 rfl ?_;try (refine no_implicit_lambda% (st ?_);try with_reducible exact wT))|(refine wQ ?_;clear hQ hR hE hM)|refine wC d1 ?_|refine wC d2 ?_|refine wC d3 ?_|fail);all_goals clear hX)
         all_goals first|(exfalso;contradiction)|exact ⟨(k+1,183),by dsimp only;omega,⟨by dsimp only;omega,hq⟩,rfl,by dsimp only;omega⟩
      ·rw[if_neg he]at hq
       have hed:decide (e=0)=false:=decide_eq_false he
       (have hX:=zA @hlen (zA @hbd (zA @hba @hed));(repeat' first|refine zaa [0,1,2,3,4,5,6,7,8,9,11,13,15,23,29,37,48,49,50,51,54,55,56,57,60,66,74,75,76,77,106,109] fun K hK=>?_|(refine hK.go ?_;clear hK K)|with_reducible exact wT|refine wA ?_|(refine wB (fun h=>?_) (fun h=>?_)<;>first|exact wN h|subst (h:(_:Bool)=_)|skip)|(refine zaD 0 rfl ?_;try (refine no_implicit_lambda% (st ?_);try with_reducible exact wT))|(refine wQ ?_;clear hQ hR hE hM)|fail);all_goals clear hX)
       all_goals first|(exfalso;contradiction)|exact ⟨(k+1,e),by dsimp only;omega,⟨by dsimp only;omega,hq⟩,rfl,by dsimp only;omega⟩
     ·rw[List.drop_eq_nil_of_le hge,askE]at hq
      (repeat' first|refine zaa [0,1,2,3,4,5,6,7,8,9,11,13,15,23,29,37,48,49,50,51,54,55,56,57,60,66,74,75,76,77,106,109] fun K hK=>?_|(refine hK.go ?_;clear hK K)|with_reducible exact wT|refine wA ?_|(refine wB (fun h=>?_) (fun h=>?_)<;>first|exact wN h|subst (h:(_:Bool)=_)|skip)|(refine zaD 0 rfl ?_;try (refine no_implicit_lambda% (st ?_);try with_reducible exact wT))|(refine wQ ?_;clear hQ hR hE hM)|fail)
      all_goals first|exact hq|rw[hq]|skip
   ·rw[if_neg hph,if_neg hph]
    refine PC.fn hH cd171 fun w0 M Q hM hE hQ hR=>?_;dsimp only[cd171,qm,ql,qf,qi,qb,qc,qp,qv,qN,qT,qF,qt]at hQ ⊢
    (have hX:=zA @hfold (zA @hlen0 (zA @hlen (zA @hov (zA @hbd0 (zA @hbd @hba)))));(repeat' first|refine zaa [0,1,2,3,4,5,6,7,8,9,11,13,15,23,29,37,48,49,50,51,54,55,56,57,60,66,74,75,76,77,106,109] fun K hK=>?_|(refine hK.go ?_;clear hK K)|with_reducible exact wT|refine wA ?_|(refine wB (fun h=>?_) (fun h=>?_)<;>first|exact wN h|subst (h:(_:Bool)=_)|skip)|(refine zaD 0 rfl ?_;try (refine no_implicit_lambda% (st ?_);try with_reducible exact wT))|(refine wQ ?_;clear hQ hR hE hM)|refine wC c0 ?_|refine wS c1 ?_|fail);all_goals clear hX)
    all_goals first|rfl|(exfalso;contradiction)|skip
 ·rw[show lkW p s n=WayR.z by unfold lkW;rw[if_neg hst],show lkC p s n=zag p s by unfold lkC;rw[if_neg hst]]
  rw[←hRe]at hst ⊢
  revert c0 hRl hst
  generalize ofR p s=R
  obtain ⟨G,Z,hg⟩:=GC.ex
  rw[←hg.eq]
  intro c0 hRl hst
  have hfold:=hg.fold
  have hlen0:=hg.len (.s0 4) hg.zl hg.zl
  have hlen:=hg.len (.sl 4 (R.ways.map Way.c)) hRl.1 hRl.2
  have hov:=hg.ov (.s0 4) (.sl 4 (R.ways.map Way.c)) hg.zl hg.zl hRl.1 hRl.2
  have hbd0:=hg.bd0 Z Z
  have hbd:=hg.bd R.hold R.ask (R.ways.map Way.c)
  have hba:=hg.ba R.hold R.ask (R.ways.map Way.c)
  refine PC.fn hH cd171 fun w0 M Q hM hE hQ hR=>?_;dsimp only[cd171,qm,ql,qf,qi,qb,qc,qp,qv,qN,qT,qF,qt]at hQ ⊢
  (have hX:=zA @hfold (zA @hlen0 (zA @hlen (zA @hov (zA @hbd0 (zA @hbd @hba)))));(repeat' first|refine zaa [0,1,2,3,4,5,6,7,8,9,11,13,15,23,29,37,48,49,50,51,54,55,56,57,60,66,74,75,76,77,106,109] fun K hK=>?_|(refine hK.go ?_;clear hK K)|with_reducible exact wT|refine wA ?_|(refine wB (fun h=>?_) (fun h=>?_)<;>first|exact wN h|subst (h:(_:Bool)=_)|skip)|(refine zaD 0 rfl ?_;try (refine no_implicit_lambda% (st ?_);try with_reducible exact wT))|(refine wQ ?_;clear hQ hR hE hM)|refine wC c0 ?_|refine wS c1 ?_|fail);all_goals clear hX)
  all_goals first|rfl|(exfalso;contradiction)|skip
end Go.Lev
namespace Go.Lev
open Go.Eng
set_option maxRecDepth 10000
set_option maxHeartbeats 4000000
variable {P:Program} {inv:Nat→Option Nat} {w0:World} {M:Nat→Prop}
theorem zmn (q:List AskR) (a:AskR) (l:List Switch):zbd (q++[a]) l=zd2 Switch.id a.pnt (fun t=>⟨t.id,t.lie,a.lie⟩) (zbd q l):=by unfold zbd;rw[List.foldl_append];rfl
theorem fget0 {α:Type} {c:α→List AV} {sz:Nat} [Cells c sz] [Inhabited α] {l:List α} {k:Nat} (hk:k<l.length) (hs:0<sz):(l.map c).flatten[k*sz]?=(c (nth l k))[0]?:=by simpa using zfH (c:=c) (i:=0) hk hs
theorem k1At_all (n:Int) (l:List Lock):l.mapIdx (zop n)=zd2 Lock.id n (fun l=>⟨l.id,1,l.gone,l.left⟩) l:=by
 refine List.ext_getElem (by simp[zd2]) fun i h1 h2=>?_
 simp only[List.getElem_mapIdx,zd2,List.getElem_map]
 rfl
theorem znY (hH:HasAll P inv) (hI:HasIds P inv) (p:Pln) (hp:Sm p) (s:State) (hs:SmS s) (n:Int) (he:lkC p s n=0):PO P inv 156 [.agg p.c,.agg s.c,.n n] (.tup [zgN 6 (zgP s n (lkW p s n).asks),.n 0]) (zeZ 6 (zgP s n (lkW p s n).asks)):=by
 have c0:=ziO hH hI p hp s hs n
 rw[he]at c0
 have c1:=zea hH s hs
 have hst:zag p s=0:=by
  unfold lkC at he
  split at he
  ·assumption
  ·rename_i h;exact absurd he h
 have hok:=zar hst
 have hpa:=(zad hst).2.1
 have hpl:=zan hpa
 have hwl:(lkW p s n).asks.length≤1000∧∀ a∈(lkW p s n).asks,zn1 p a.pnt=true:=by
  unfold lkW
  rw[if_pos hst]
  rcases zaV Lock.id n s.locks with ⟨h4,_⟩|⟨i,hi,h4,h5⟩
  ·rw[show zeC s n=-1 from h4,if_pos (by decide)]
   exact ⟨by simp[WayR.z],fun a ha=>by simp[WayR.z]at ha⟩
  ·rw[show zeC s n=(i:Int) from h4,if_neg (by omega),Int.toNat_natCast]
   split
   ·refine ⟨(zbH hok (zab (by omega))).1,fun a ha=>?_⟩
    obtain ⟨⟨x,hx,ex⟩,_⟩:=zbG hok (zab (show i<p.routes.length by omega)) ha
    exact List.any_eq_true.2 ⟨x,hx,by simpa using ex⟩
   ·exact ⟨by simp[WayR.z],fun a ha=>by simp[WayR.z]at ha⟩
 generalize lkW p s n=w at *
 have hno:(s.switches.map Switch.id).Nodup:=by rw[zd5 hpa];exact zee hok
 obtain ⟨h1,h2,h3⟩:=hs
 have hix:∀ (q:List AskR) (k:Nat),k<w.asks.length→∃ j,j<s.switches.length∧zaZ (fun x=>decide (Switch.id x=(nth w.asks k).pnt)) 0 (zbd q s.switches)=(j:Int)∧(nth (zbd q s.switches) j).id=(nth w.asks k).pnt:=fun q k hk=>by
  obtain ⟨y,hy,ey⟩:=swt_of hpa (hwl.2 _ (zab hk))
  have hm:(nth w.asks k).pnt∈(zbd q s.switches).map Switch.id:=by rw[zgm,←ey];exact List.mem_map_of_mem hy
  obtain ⟨z,hz,ez⟩:=List.mem_map.1 hm
  rcases zaV Switch.id (nth w.asks k).pnt (zbd q s.switches) with ⟨_,r⟩|⟨j,hj,q1,q2⟩
  ·exact absurd ez (r z hz)
  ·exact ⟨j,by rw[zdy]at hj;exact hj,q1,q2⟩
 clear hst hok hpa hpl he
 unfold stV stR at c1
 refine PO.fn hH cd156 fun w0 M Q hM hE hQ hR=>?_;dsimp only[cd156,qm,ql,qf,qi,qb,qc,qp,qv,qN,qT,qF,qt]at hQ ⊢
 skip
 (repeat' first|refine zaa [0,1,2,3,4,5,6,7,8,9,11,12,21,27,28,29,30,43,44,45,54] fun K hK=>?_|(refine hK.go ?_;clear hK K)|with_reducible exact wT|refine wA ?_|(refine wB (fun h=>?_) (fun h=>?_)<;>first|exact wN h|subst (h:(_:Bool)=_)|skip)|(refine wQ ?_;clear hQ hR)|refine wC c0 ?_|refine wO c1 ?_|fail)
 have hcl:=fun q=>zdy q s.switches
 refine zai (ι:=Nat) [2,4,6,7,27,28,29] (fun z=>[(29,.n z)]) (fun z=>[(7,.cells ((zbd (w.asks.take z) s.switches).map Switch.c).flatten (decide (0<s.switches.length)))]) (fun z=>z) (w.asks.length) (fun _=>True) (0) ?_;rintro k ⟨hk,-⟩;(try dsimp only at hk ⊢);rcases Nat.lt_or_ge k w.asks.length with hlt|hge
 ·obtain ⟨j,hj,q1,q2⟩:=hix (w.asks.take k) k hlt
  have c2:=zpR hH (zbd (w.asks.take k) s.switches) (fun x _=>zm9 hH (nth w.asks k).pnt x) (by rw[hcl];omega)
  rw[q1]at c2
  have hno2:((zbd (w.asks.take k) s.switches).map Switch.id).Nodup:=by rw[zgm];exact hno
  have e1:=zmD Switch.id (nth w.asks k).pnt (fun t=>(⟨t.id,t.lie,(nth w.asks k).lie⟩:Switch)) hno2 (by rw[hcl];exact hj) q2
  rw[←zmn,zjd hlt]at e1
  have e2:=zbt (c:=Switch.c) (l:=zbd (w.asks.take k) s.switches) (k:=j) (i:=2) (by rw[hcl];exact hj) (by omega) (.i .i64 (nth w.asks k).lie) (⟨(nth (zbd (w.asks.take k) s.switches) j).id,(nth (zbd (w.asks.take k) s.switches) j).lie,(nth w.asks k).lie⟩:Switch) rfl
  rw[e1]at e2
  have e3:=zcw (c:=Switch.c) (zbd (w.asks.take k) s.switches)
  rw[hcl]at e3
  have e4:=hcl (w.asks.take k)
  (have hX:=zA @e2 (zA @e3 @e4);(repeat' first|refine zaa [0,1,2,3,4,5,6,7,8,9,11,12,21,27,28,29,30,43,44,45,54] fun K hK=>?_|(refine hK.go ?_;clear hK K)|with_reducible exact wT|refine wA ?_|(refine wB (fun h=>?_) (fun h=>?_)<;>first|exact wN h|subst (h:(_:Bool)=_)|skip)|(refine wQ ?_;clear hQ hR)|(refine AC.callK 30 (by omega) (by first|omega|exact wF|((refine no_implicit_lambda% (st ?_);try with_reducible exact wT);omega)) (zaq (F:=cd172) (hH.has _ _ rfl) (Nat.le_of_ble_eq_true rfl) fun Q hQ hR=>?_);dsimp only[cd172,qm,ql,qf,qi,qb,qc,qp,qv,qN,qT,qF,qt]at hQ ⊢;try (refine no_implicit_lambda% (st ?_);try with_reducible exact wT))|refine wS c2 ?_|fail);all_goals clear hX)
  all_goals first|exact ⟨k+1,by omega,by omega,by omega,rfl⟩|trace_state
  all_goals sorry
 ·rw[List.take_of_length_le hge]
  (repeat' first|refine zaa [0,1,2,3,4,5,6,7,8,9,11,12,21,27,28,29,30,43,44,45,54] fun K hK=>?_|(refine hK.go ?_;clear hK K)|with_reducible exact wT|refine wA ?_|(refine wB (fun h=>?_) (fun h=>?_)<;>first|exact wN h|subst (h:(_:Bool)=_)|skip)|(refine wQ ?_;clear hQ hR)|fail)
  refine zai (ι:=Nat) [2,4,6,7,43,44] (fun z=>[(44,.n z)]) (fun z=>[(8,.cells ((zb4 (zop n) z s.locks).map Lock.c).flatten (decide (0<s.locks.length)))]) (fun z=>z) (s.locks.length) (fun _=>True) (0) ?_;rintro k2 ⟨hk,-⟩;(try dsimp only at hk ⊢);rcases Nat.lt_or_ge k2 s.locks.length with hlt|hge
  ·have e1:=zbo (zop n) (l:=s.locks) (k:=k2) (by assumption)
   have hg:=fget0 (c:=Lock.c) (l:=zb4 (zop n) k2 s.locks) (k:=k2) (by rw[zaW];assumption) (by omega)
   rw[zbe _ (by assumption)]at hg
   by_cases hid:(nth s.locks k2).id=n
   ·have e2:=zbt (c:=Lock.c) (l:=zb4 (zop n) k2 s.locks) (k:=k2) (i:=1) (by rw[zaW];assumption) (by omega) (.i .u8 1) (zop n k2 (nth s.locks k2)) (by rw[zbe _ (by assumption)];unfold zop;rw[if_pos hid];rfl)
    rw[e1]at e2
    (have hX:=zA @hg @e2;(repeat' first|refine zaa [0,1,2,3,4,5,6,7,8,9,11,12,21,27,28,29,30,43,44,45,54] fun K hK=>?_|(refine hK.go ?_;clear hK K)|with_reducible exact wT|refine wA ?_|(refine wB (fun h=>?_) (fun h=>?_)<;>first|exact wN h|subst (h:(_:Bool)=_)|skip)|(refine wQ ?_;clear hQ hR)|fail);all_goals clear hX)
    all_goals first|(exfalso;contradiction)|exact ⟨k2+1,by omega,by omega,by omega,rfl⟩
   ·rw[show zop n k2 (nth s.locks k2)=nth (zb4 (zop n) k2 s.locks) k2 by rw[zbe _ (by assumption)];unfold zop;rw[if_neg hid]]at e1
    have e3:zb4 (zop n) k2 s.locks=zb4 (zop n) (k2+1) s.locks:=by
     rw[←e1,zaE (by rw[zaW];assumption),List.set_getElem_self]
    (have hX:=@hg;(repeat' first|refine zaa [0,1,2,3,4,5,6,7,8,9,11,12,21,27,28,29,30,43,44,45,54] fun K hK=>?_|(refine hK.go ?_;clear hK K)|with_reducible exact wT|refine wA ?_|(refine wB (fun h=>?_) (fun h=>?_)<;>first|exact wN h|subst (h:(_:Bool)=_)|skip)|(refine wQ ?_;clear hQ hR)|fail);all_goals clear hX)
    all_goals first|(exfalso;contradiction)|exact ⟨k2+1,by omega,by omega,by omega,by rw[←e3]⟩
  ·rw[zfc _ (by assumption),k1At_all]
   (repeat' first|refine zaa [0,1,2,3,4,5,6,7,8,9,11,12,21,27,28,29,30,43,44,45,54] fun K hK=>?_|(refine hK.go ?_;clear hK K)|with_reducible exact wT|refine wA ?_|(refine wB (fun h=>?_) (fun h=>?_)<;>first|exact wN h|subst (h:(_:Bool)=_)|skip)|(refine wQ ?_;clear hQ hR)|fail)
   all_goals (left;unfold zgN zeZ zgP;dsimp only;rw[zdy,zdC];constructor)
   all_goals (refine no_implicit_lambda% (st ?_);try with_reducible exact wT)
end Go.Lev
namespace Go.Lev
open Go.Eng
set_option maxRecDepth 10000
set_option maxHeartbeats 4000000
variable {P:Program} {inv:Nat→Option Nat} {w0:World} {M:Nat→Prop}
section
variable {L:List Lock} {k:Nat} (h:k<L.length)
include h
theorem zl4:(L.map Lock.c).flatten[k*4]?=some (.i .i64 (nth L k).id):=fget0 (c:=Lock.c) (l:=L) h (by omega)
theorem zge:(L.map Lock.c).flatten[k*4+1]?=some (.i .u8 (nth L k).phase):=zfH (c:=Lock.c) (l:=L) (i:=1) h (by omega)
theorem zgd:(L.map Lock.c).flatten[k*4+2]?=some (.i .i64 (nth L k).gone):=zfH (c:=Lock.c) (l:=L) (i:=2) h (by omega)
theorem zjP:(L.map Lock.c).flatten[k*4+3]?=some (.i .i64 (nth L k).left):=zfH (c:=Lock.c) (l:=L) (i:=3) h (by omega)
end
section
variable {L:List Lock} {k:Nat} (h:k<L.length) (x:Lock)
include h
theorem zm7:((L.set k x).map Lock.c).flatten[k*4]?=some (.i .i64 x.id):=by rw[zl4 (by simpa using h),zei h]
theorem zm6:((L.set k x).map Lock.c).flatten[k*4+3]?=some (.i .i64 x.left):=by rw[zjP (by simpa using h),zei h]
end
theorem zgE {α:Type} (f:α→α) (l:List α):l.mapIdx (fun _ x=>f x)=l.map f:=by
 refine List.ext_getElem (by simp) fun i h1 h2=>by simp
theorem zow {α:Type} [Inhabited α] (f:Nat→α→α) {k:Nat} {l:List α} (h:k<l.length) (e:f k (nth l k)=nth l k):zb4 f k l=zb4 f (k+1) l:=by
 have e1:=zbo f h
 rw[e,←zbe f h,zaE (by rw[zaW];exact h),List.set_getElem_self]at e1
 exact e1
theorem zlB (hH:HasAll P inv) (hI:HasIds P inv) (p:Pln) (hp:Sm p) (s:State) (hs:SmS s) (he:zag p s=0):PO P inv 163 [.agg p.c,.agg s.c] (.tup [zgN 5 (zdU s),.n 0]) (zeZ 5 (zdU s)):=by
 have c0:=zeq hH hI p hp s hs
 rw[he]at c0
 have c1:=zea hH s hs
 have hlf:∀ k,k<s.locks.length→0≤(nth s.locks k).left∧(nth s.locks k).left≤9:=fun k hk=>by
  have hpa:=(zad he).2.1
  have hpl:=zan hpa
  have h1:=zpA (zcH hpa hk)
  have h2:=zfd (zar he) (zab (show k<p.routes.length by omega))
  omega
 obtain ⟨h1,h2,h3⟩:=hs
 unfold stV stR at c1
 refine PO.fn hH cd163 fun w0 M Q hM hE hQ hR=>?_;dsimp only[cd163,qm,ql,qf,qi,qb,qc,qp,qv,qN,qT,qF,qt]at hQ ⊢
 (repeat' first|refine zaa [0,1,2,3,4,5,6,7,8,13,20,21,22,32,44] fun K hK=>?_|(refine hK.go ?_;clear hK K)|with_reducible exact wT|refine wA ?_|(refine wB (fun h=>?_) (fun h=>?_)<;>first|exact wN h|subst (h:(_:Bool)=_)|skip)|(refine wR ?_;clear hQ hR hE hM)|refine wC c0 ?_|refine wO c1 ?_|fail)
 all_goals first|(exfalso;contradiction)|skip
 refine zai (ι:=Nat) [3,4,5,20,21] (fun z=>[(21,.n z)]) (fun z=>[(7,.cells ((zb4 (fun _ l=>zb0 l) z s.locks).map Lock.c).flatten (decide (0<s.locks.length)))]) (fun z=>z) (s.locks.length) (fun _=>True) (0) ?_;rintro k ⟨hk,-⟩;(try dsimp only at hk ⊢);rcases Nat.lt_or_ge k s.locks.length with hlt|hge
 ·have e1:=zbo (fun _ l=>zb0 l) hlt
  have en:=zbe (fun _ l=>zb0 l) hlt
  have hlen:(zb4 (fun _ l=>zb0 l) k s.locks).length=s.locks.length:=zaW _ _ _
  have hl9:=hlf k hlt
  have eid:=zow (fun _ l=>zb0 l) hlt
  (try dsimp only at e1);(try dsimp only at eid)
  generalize hU:zb4 (fun _ l=>zb0 l) k s.locks=U at *
  have hk:k<U.length:=by omega
  by_cases h0:(nth s.locks k).left=0
  ·have eid:=eid (by unfold zb0;rw[if_pos h0])
   have hd:decide ((nth s.locks k).left=0)=true:=decide_eq_true h0
   (have hX:=zA (zjP hk) (zA @en (zA @hlen @hd));(repeat' first|refine zaa [0,1,2,3,4,5,6,7,8,13,20,21,22,32,44] fun K hK=>?_|(refine hK.go ?_;clear hK K)|with_reducible exact wT|refine wA ?_|(refine wB (fun h=>?_) (fun h=>?_)<;>first|exact wN h|subst (h:(_:Bool)=_)|skip)|(refine wR ?_;clear hQ hR hE hM)|fail);all_goals clear hX)
   all_goals first|(exfalso;contradiction)|exact ⟨k+1,by omega,by omega,by omega,by rw[eid]⟩|trace_state
  ·have hd:decide ((nth s.locks k).left=0)=false:=decide_eq_false h0
   by_cases hl1:(nth s.locks k).left-1=0
   ·rw[show zb0 (nth s.locks k)=⟨(nth s.locks k).id,0,0,0⟩ by unfold zb0;rw[if_neg h0,if_pos hl1]]at e1
    have hd1:decide ((nth s.locks k).left-1=0)=true:=decide_eq_true hl1
    (have hX:=zA (zl4 hk) (zA (zjP hk) (zA (zm7 hk) (zA (zm6 hk) (zA (zl3 hk) (zA (zg4 hk) (zA (zbs hk) (zA (zbr hk) (zA (zbq hk) (zA @en (zA @hlen (zA @hd @hd1)))))))))));(repeat' first|refine zaa [0,1,2,3,4,5,6,7,8,13,20,21,22,32,44] fun K hK=>?_|(refine hK.go ?_;clear hK K)|with_reducible exact wT|refine wA ?_|(refine wB (fun h=>?_) (fun h=>?_)<;>first|exact wN h|subst (h:(_:Bool)=_)|skip)|(refine wR ?_;clear hQ hR hE hM)|fail);all_goals clear hX)
    all_goals first|(exfalso;contradiction)|exact ⟨k+1,by omega,by omega,by omega,by rw[←e1]⟩|trace_state
   ·rw[show zb0 (nth s.locks k)=⟨(nth s.locks k).id,(nth s.locks k).phase,(nth s.locks k).gone,(nth s.locks k).left-1⟩ by unfold zb0;rw[if_neg h0,if_neg hl1]]at e1
    have hd1:decide ((nth s.locks k).left-1=0)=false:=decide_eq_false hl1
    (have hX:=zA (zl4 hk) (zA (zjP hk) (zA (zm7 hk) (zA (zm6 hk) (zA (zl3 hk) (zA (zg4 hk) (zA (zbs hk) (zA (zbr hk) (zA (zbq hk) (zA @en (zA @hlen (zA @hd @hd1)))))))))));(repeat' first|refine zaa [0,1,2,3,4,5,6,7,8,13,20,21,22,32,44] fun K hK=>?_|(refine hK.go ?_;clear hK K)|with_reducible exact wT|refine wA ?_|(refine wB (fun h=>?_) (fun h=>?_)<;>first|exact wN h|subst (h:(_:Bool)=_)|skip)|(refine wR ?_;clear hQ hR hE hM)|fail);all_goals clear hX)
    all_goals first|(exfalso;contradiction)|exact ⟨k+1,by omega,by omega,by omega,by rw[←e1]⟩|trace_state
 ·rw[zfc _ hge,zgE]
  (repeat' first|refine zaa [0,1,2,3,4,5,6,7,8,13,20,21,22,32,44] fun K hK=>?_|(refine hK.go ?_;clear hK K)|with_reducible exact wT|refine wA ?_|(refine wB (fun h=>?_) (fun h=>?_)<;>first|exact wN h|subst (h:(_:Bool)=_)|skip)|(refine wR ?_;clear hQ hR hE hM)|fail)
  all_goals (left;unfold zgN zeZ zdU;dsimp only;rw[List.length_map];constructor)
  all_goals (refine no_implicit_lambda% (st ?_);try with_reducible exact wT)
theorem tick_pc (hH:HasAll P inv) (hI:HasIds P inv) (p:Pln) (hp:Sm p) (s:State) (hs:SmS s):PC P inv 163 [.agg p.c,.agg s.c] (·=.tup [.agg (zhd p s).c,.n (zag p s)]):=by
 unfold zhd
 by_cases he:zag p s=0
 ·have:=(zlB hH hI p hp s hs he).pc
  rw[zcU]at this
  rw[if_pos he,he]
  exact this
 ·have c0:=zeq hH hI p hp s hs
  rw[if_neg he]
  generalize zag p s=e at c0 he ⊢
  refine PC.fn hH cd163 fun w0 M Q hM hE hQ hR=>?_;dsimp only[cd163,qm,ql,qf,qi,qb,qc,qp,qv,qN,qT,qF,qt]at hQ ⊢
  (repeat' first|refine zaa [0,1,2,3,4,5,6,7,8,13,20,21,22,32,44] fun K hK=>?_|(refine hK.go ?_;clear hK K)|with_reducible exact wT|refine wA ?_|(refine wB (fun h=>?_) (fun h=>?_)<;>first|exact wN h|subst (h:(_:Bool)=_)|skip)|(refine wQ ?_;clear hQ hR hE hM)|refine wC c0 ?_|fail)
  all_goals first|rfl|(exfalso;contradiction)|skip
end Go.Lev
namespace Go.Lev
open Go.Eng
set_option maxRecDepth 10000
set_option maxHeartbeats 4000000
variable {P:Program} {inv:Nat→Option Nat} {w0:World} {M:Nat→Prop}
theorem zna (hH:HasAll P inv) (n:Int) (x:Lock):PC P inv 174 ([.agg x.c]++[.ip 1 [[.n n]] 0 0]) (·=.b (decide (x.id=n))):=by
 refine PC.fn hH cd174 fun w0 M Q hM hE hQ hR=>?_;dsimp only[cd174,qm,ql,qf,qi,qb,qc,qp,qv,qN,qT,qF,qt]at hQ ⊢
 (repeat' first|refine zaa [0,1,2,3] fun K hK=>?_|(refine hK.go ?_;clear hK K)|with_reducible exact wT|refine wA ?_|(refine wB (fun h=>?_) (fun h=>?_)<;>first|exact wN h|subst (h:(_:Bool)=_)|skip)|(refine wQ ?_;clear hQ hR hE hM)|fail)
theorem cn175 (hH:HasAll P inv) (s:State) (hs:s.tracks.length≤1000000000) (m:Int):PC P inv 175 ([.n m]++[.ip 3 [s.c] 0 0]) (·=.b (frT s m)):=by
 have c1:=zpU hH s.tracks ⟨m,0⟩ hs
 rw[show (s.tracks.any fun x=>decide ((⟨m,0⟩:Track).id=x.id)&&decide ((⟨m,0⟩:Track).is=x.is))=frT s m from rfl]at c1
 refine PC.fn hH cd175 fun w0 M Q hM hE hQ hR=>?_;dsimp only[cd175,qm,ql,qf,qi,qb,qc,qp,qv,qN,qT,qF,qt]at hQ ⊢
 (repeat' first|refine zaa [0,1,3] fun K hK=>?_|(refine hK.go ?_;clear hK K)|with_reducible exact wT|refine wA ?_|(refine wB (fun h=>?_) (fun h=>?_)<;>first|exact wN h|subst (h:(_:Bool)=_)|skip)|(refine wQ ?_;clear hQ hR hE hM)|refine wC c1 ?_|fail)
theorem cn178 (hH:HasAll P inv) (s:State) (hs:s.tracks.length≤1000000000) (m:Int):PC P inv 178 ([.n m]++[.ip 1 [[.fn 175 [.ip 3 [s.c] 0 0]]] 0 0]) (·=.b (!frT s m)):=by
 have c1:=cn175 hH s hs m
 refine PC.fn hH cd178 fun w0 M Q hM hE hQ hR=>?_;dsimp only[cd178,qm,ql,qf,qi,qb,qc,qp,qv,qN,qT,qF,qt]at hQ ⊢
 (repeat' first|refine zaa [0,1,3] fun K hK=>?_|(refine hK.go ?_;clear hK K)|with_reducible exact wT|refine wA ?_|(refine wB (fun h=>?_) (fun h=>?_)<;>first|exact wN h|subst (h:(_:Bool)=_)|skip)|(refine wQ ?_;clear hQ hR hE hM)|refine wC c1 ?_|fail)
theorem zlj (hH:HasAll P inv) (hI:HasIds P inv) (p:Pln) (hp:Sm p) (s:State) (hs:SmS s) (n:Int) (he:cnC p s n=0):PO P inv 162 [.agg p.c,.agg s.c,.n n] (.tup [zgN 7 (cnS p s n),.n 0]) (zeZ 7 (cnS p s n)):=by
 have c0:=of_pc hH hI p hp s hs
 have hRl:=zhT p s
 have c1:=zea hH s hs
 have c2:=zmc hH s.locks (fun x _=>zna hH n x) (by have:=hs.2.2;omega)
 have hst:zag p s=0:=by
  unfold cnC at he
  split at he
  ·assumption
  ·rename_i h;exact absurd he h
 have hok:=zar hst
 have hpa:=(zad hst).2.1
 have hpl:=zan hpa
 have hR:ofR p s=⟨(zaO p s).1,(zaO p s).2.1,zaH p,0⟩:=by unfold ofR;rw[if_pos hst]
 rw[hR]at c0 hRl
 dsimp only at c0 hRl
 unfold cnC at he
 rw[if_pos hst]at he
 unfold cnS
 rcases zaV Lock.id n s.locks with ⟨h4,_⟩|⟨i,hi,h4,h5⟩
 ·rw[show zeC s n=-1 from h4,if_pos (by decide)]at he
  cases he
 ·rw[show zeC s n=(i:Int) from h4,if_neg (by omega),Int.toNat_natCast]at he
  rw[show zeC s n=(i:Int) from h4,Int.toNat_natCast]
  rw[h4]at c2
  have hri:i<p.routes.length:=by omega
  have hwat:nth (zaH p) i=(zah p (nth p.routes i)).1:=zpo _ hri
  have hwlen:(zaH p).length=p.routes.length:=by simp[zaH]
  have hwl:=zbH hok (zab hri)
  have hwp:=zbC ((zaN (zad hst).1).2.1 _ (zab hri))
  have hgn:=zeD hok (zab hri) (zcH hpa hi)
  rw[←hwp.1]at hgn
  have h3:=hs.2.2
  have c4:=fun m=>cn175 hH s (by have:=hs.1;omega) m
  have c5:=zpV hH ((zah p (nth p.routes i)).1.path.drop (nth s.locks i).gone.toNat) (fun x _=>cn178 hH s (by have:=hs.1;omega) x) (by simp;omega)
  rw[show (((zah p (nth p.routes i)).1.path.drop (nth s.locks i).gone.toNat).any fun m=>!frT s m)=!zc0 s (zah p (nth p.routes i)).1 (nth s.locks i) by simp[zc0]]at c5
  unfold cnC0 at he
  generalize (zah p (nth p.routes i)).1=w at *
  generalize zaH p=ws at *
  generalize zaO p s=GR at *
  obtain ⟨H,A,B⟩:=GR
  dsimp only at *
  obtain ⟨G,Z,hg⟩:=GC.ex
  rw[←hg.eq]at c0
  have hfold:=hg.fold
  have hlen0:=hg.len (.s0 4) hg.zl hg.zl
  have hlen:=hg.len (.sl 4 (ws.map Way.c)) hRl.1 hRl.2
  have hov:=hg.ov (.s0 4) (.sl 4 (ws.map Way.c)) hg.zl hg.zl hRl.1 hRl.2
  have hbd0:=hg.bd0 Z Z
  have hbd:=hg.bd H A (ws.map Way.c)
  have hba:=hg.ba H A (ws.map Way.c)
  have hgw:=hg.get (.sl 4 (ws.map Way.c)) hRl.1 hRl.2
  clear hg hR hok hpa hst hwp
  unfold stV stR at c1
  have c6:=c4 w.near
  unfold cnL
  by_cases hp1:(nth s.locks i).phase=1
  ·cases hf:frT s w.near with
   |true =>
    rw[if_neg (fun h=>by cases h.2)]
    rw[hf]at c6
    refine PO.fn hH cd162 fun w0 M Q hM hE hQ hR=>?_;dsimp only[cd162,qm,ql,qf,qi,qb,qc,qp,qv,qN,qT,qF,qt]at hQ ⊢
    (have hX:=zA @hfold (zA @hlen0 (zA @hlen (zA @hov (zA @hbd0 (zA @hbd (zA @hba (zA @hgw (zA @hwat (zA @hp1 (zA (zge hi) (zA (zgd hi) (zA (zcg hi) (zA (zbs hi) (zA (zbr hi) (zbq hi)))))))))))))));(repeat' first|refine zaa [0,1,2,3,4,5,6,7,8,9,10,11,12,13,14,15,23,33,54,71,80,84,86,88,97] fun K hK=>?_|(refine hK.go ?_;clear hK K)|with_reducible exact wT|refine wA ?_|(refine wB (fun h=>?_) (fun h=>?_)<;>first|exact wN h|subst (h:(_:Bool)=_)|skip)|(refine wR ?_;clear hQ hR hE hM)|refine wC c0 ?_|refine wO c1 ?_|refine wS c2 ?_|refine wS c6 ?_|fail);all_goals clear hX)
    all_goals first|(exfalso;contradiction)|(exfalso;omega)|skip
    all_goals (left;unfold zgN zeZ;dsimp only;rw[List.length_set];constructor)
    all_goals (refine no_implicit_lambda% (st ?_);try with_reducible exact wT)
   |false =>
    rw[if_pos ⟨hp1,rfl⟩]
    rw[hf]at c6
    refine PO.fn hH cd162 fun w0 M Q hM hE hQ hR=>?_;dsimp only[cd162,qm,ql,qf,qi,qb,qc,qp,qv,qN,qT,qF,qt]at hQ ⊢
    (have hX:=zA @hfold (zA @hlen0 (zA @hlen (zA @hov (zA @hbd0 (zA @hbd (zA @hba (zA @hgw (zA @hwat (zA @hp1 (zA (zge hi) (zA (zgd hi) (zA (zcg hi) (zA (zbs hi) (zA (zbr hi) (zbq hi)))))))))))))));(repeat' first|refine zaa [0,1,2,3,4,5,6,7,8,9,10,11,12,13,14,15,23,33,54,71,80,84,86,88,97] fun K hK=>?_|(refine hK.go ?_;clear hK K)|with_reducible exact wT|refine wA ?_|(refine wB (fun h=>?_) (fun h=>?_)<;>first|exact wN h|subst (h:(_:Bool)=_)|skip)|(refine wR ?_;clear hQ hR hE hM)|refine wC c0 ?_|refine wO c1 ?_|refine wS c2 ?_|refine wS c6 ?_|fail);all_goals clear hX)
    all_goals first|(exfalso;contradiction)|(exfalso;omega)|skip
    all_goals (left;unfold zgN zeZ;dsimp only;rw[List.length_set];constructor)
    all_goals (refine no_implicit_lambda% (st ?_);try with_reducible exact wT)
  ·rw[if_neg (fun h=>hp1 h.1)]
   rw[if_neg hp1]at he
   by_cases hp0:(nth s.locks i).phase=0
   ·rw[if_pos hp0]at he;cases he
   ·rw[if_neg hp0]at he
    by_cases hp2:(nth s.locks i).phase=2∧zc0 s w (nth s.locks i)=true
    ·obtain ⟨hp1,hem⟩:=hp2
     rw[hem,List.map_drop]at c5
     refine PO.fn hH cd162 fun w0 M Q hM hE hQ hR=>?_;dsimp only[cd162,qm,ql,qf,qi,qb,qc,qp,qv,qN,qT,qF,qt]at hQ ⊢
     (have hX:=zA @hfold (zA @hlen0 (zA @hlen (zA @hov (zA @hbd0 (zA @hbd (zA @hba (zA @hgw (zA @hwat (zA @hp1 (zA (zge hi) (zA (zgd hi) (zA (zcg hi) (zA (zbs hi) (zA (zbr hi) (zbq hi)))))))))))))));(repeat' first|refine zaa [0,1,2,3,4,5,6,7,8,9,10,11,12,13,14,15,23,33,54,71,80,84,86,88,97] fun K hK=>?_|(refine hK.go ?_;clear hK K)|with_reducible exact wT|refine wA ?_|(refine wB (fun h=>?_) (fun h=>?_)<;>first|exact wN h|subst (h:(_:Bool)=_)|skip)|(refine wR ?_;clear hQ hR hE hM)|refine wC c0 ?_|refine wO c1 ?_|refine wS c2 ?_|refine wS c5 ?_|fail);all_goals clear hX)
     all_goals first|(exfalso;contradiction)|(exfalso;omega)|skip
     all_goals (left;unfold zgN zeZ;dsimp only;rw[List.length_set];constructor)
     all_goals (refine no_implicit_lambda% (st ?_);try with_reducible exact wT)
    ·rw[if_neg hp2]at he;cases he
end Go.Lev
namespace Go.Lev
open Go.Eng
set_option maxRecDepth 10000
set_option maxHeartbeats 4000000
variable {P:Program} {inv:Nat→Option Nat} {w0:World} {M:Nat→Prop}
theorem lockSet_pc (hH:HasAll P inv) (hI:HasIds P inv) (p:Pln) (hp:Sm p) (s:State) (hs:SmS s) (n:Int):PC P inv 156 [.agg p.c,.agg s.c,.n n] (·=.tup [.agg (lkS p s n).c,.n (lkC p s n)]):=by
 unfold lkS
 by_cases he:lkC p s n=0
 ·have:=(znY hH hI p hp s hs n he).pc
  rw[zcU]at this
  rw[if_pos he,he]
  exact this
 ·have c0:=ziO hH hI p hp s hs n
  rw[if_neg he]
  generalize lkC p s n=e at c0 he ⊢
  generalize lkW p s n=w at c0
  refine PC.fn hH cd156 fun w0 M Q hM hE hQ hR=>?_;dsimp only[cd156,qm,ql,qf,qi,qb,qc,qp,qv,qN,qT,qF,qt]at hQ ⊢
  (repeat' first|refine zaa [0,1,2,3,4,6,7,8,9,11,12,21,27,28,29,30,43,44,45,54] fun K hK=>?_|(refine hK.go ?_;clear hK K)|with_reducible exact wT|refine wA ?_|(refine wB (fun h=>?_) (fun h=>?_)<;>first|exact wN h|subst (h:(_:Bool)=_)|skip)|(refine wQ ?_;clear hQ hR hE hM)|refine wC c0 ?_|fail)
  all_goals first|rfl|(exfalso;contradiction)|skip
theorem zlk (hH:HasAll P inv) (hI:HasIds P inv) (p:Pln) (hp:Sm p) (s:State) (hs:SmS s) (n:Int):PC P inv 162 [.agg p.c,.agg s.c,.n n] (·=.tup [.agg (cnR p s n).c,.n (cnC p s n)]):=by
 unfold cnR
 by_cases he:cnC p s n=0
 ·have:=(zlj hH hI p hp s hs n he).pc
  rw[zcU]at this
  rw[if_pos he,he]
  exact this
 ·rw[if_neg he]
  have c0:=of_pc hH hI p hp s hs
  have hRl:=zhT p s
  have hRe:=zlY p s
  have c1:=zea hH s hs
  have c2:=zmc hH s.locks (fun x _=>zna hH n x) (by have:=hs.2.2;omega)
  unfold stV stR at c1
  by_cases hst:zag p s=0
  ·have hok:=zar hst
   have hpa:=(zad hst).2.1
   have hpl:=zan hpa
   have hR:ofR p s=⟨(zaO p s).1,(zaO p s).2.1,zaH p,0⟩:=by unfold ofR;rw[if_pos hst]
   rw[hR]at c0 hRl
   dsimp only at c0 hRl
   unfold cnC at he ⊢
   rw[if_pos hst]at he ⊢
   have h3:=hs.2.2
   rcases zaV Lock.id n s.locks with ⟨h4,_⟩|⟨i,hi,h4,h5⟩
   ·rw[show zeC s n=-1 from h4,if_pos (by decide)]
    rw[h4]at c2
    generalize zaH p=ws at *
    generalize zaO p s=GR at *
    obtain ⟨H,A,B⟩:=GR
    dsimp only at *
    obtain ⟨G,Z,hg⟩:=GC.ex
    rw[←hg.eq]at c0
    have hfold:=hg.fold
    have hlen0:=hg.len (.s0 4) hg.zl hg.zl
    have hlen:=hg.len (.sl 4 (ws.map Way.c)) hRl.1 hRl.2
    have hov:=hg.ov (.s0 4) (.sl 4 (ws.map Way.c)) hg.zl hg.zl hRl.1 hRl.2
    have hbd0:=hg.bd0 Z Z
    have hbd:=hg.bd H A (ws.map Way.c)
    have hba:=hg.ba H A (ws.map Way.c)
    clear hg hR
    refine PC.fn hH cd162 fun w0 M Q hM hE hQ hR=>?_;dsimp only[cd162,qm,ql,qf,qi,qb,qc,qp,qv,qN,qT,qF,qt]at hQ ⊢
    (have hX:=zA @hfold (zA @hlen0 (zA @hlen (zA @hov (zA @hbd0 (zA @hbd @hba)))));(repeat' first|refine zaa [0,1,2,3,4,5,6,7,8,9,10,11,12,13,14,15,23,33,54,71,80,84,86,88,97] fun K hK=>?_|(refine hK.go ?_;clear hK K)|with_reducible exact wT|refine wA ?_|(refine wB (fun h=>?_) (fun h=>?_)<;>first|exact wN h|subst (h:(_:Bool)=_)|skip)|(refine wQ ?_;clear hQ hR hE hM)|refine wC c0 ?_|refine wO c1 ?_|refine wS c2 ?_|fail);all_goals clear hX)
    all_goals first|rfl|(exfalso;contradiction)|skip
   ·rw[show zeC s n=(i:Int) from h4,if_neg (show ¬((i:Nat):Int)<0 by omega),Int.toNat_natCast]at he ⊢
    rw[h4]at c2
    have hri:i<p.routes.length:=by omega
    have hwat:nth (zaH p) i=(zah p (nth p.routes i)).1:=zpo _ hri
    have hwlen:(zaH p).length=p.routes.length:=by simp[zaH]
    have hwl:=zbH hok (zab hri)
    have hwp:=zbC ((zaN (zad hst).1).2.1 _ (zab hri))
    have hgn:=zeD hok (zab hri) (zcH hpa hi)
    rw[←hwp.1]at hgn
    have c5:=zpV hH ((zah p (nth p.routes i)).1.path.drop (nth s.locks i).gone.toNat) (fun x _=>cn178 hH s (by have:=hs.1;omega) x) (by simp;omega)
    rw[show (((zah p (nth p.routes i)).1.path.drop (nth s.locks i).gone.toNat).any fun m=>!frT s m)=!zc0 s (zah p (nth p.routes i)).1 (nth s.locks i) by simp[zc0]]at c5
    unfold cnC0 at he ⊢
    generalize (zah p (nth p.routes i)).1=w at *
    generalize zaH p=ws at *
    generalize zaO p s=GR at *
    obtain ⟨H,A,B⟩:=GR
    dsimp only at *
    obtain ⟨G,Z,hg⟩:=GC.ex
    rw[←hg.eq]at c0
    have hfold:=hg.fold
    have hlen0:=hg.len (.s0 4) hg.zl hg.zl
    have hlen:=hg.len (.sl 4 (ws.map Way.c)) hRl.1 hRl.2
    have hov:=hg.ov (.s0 4) (.sl 4 (ws.map Way.c)) hg.zl hg.zl hRl.1 hRl.2
    have hbd0:=hg.bd0 Z Z
    have hbd:=hg.bd H A (ws.map Way.c)
    have hba:=hg.ba H A (ws.map Way.c)
    have hgw:=hg.get (.sl 4 (ws.map Way.c)) hRl.1 hRl.2
    clear hg hR hwp hRe
    by_cases hp0:(nth s.locks i).phase=0
    ·rw[if_pos hp0]
     refine PC.fn hH cd162 fun w0 M Q hM hE hQ hR=>?_;dsimp only[cd162,qm,ql,qf,qi,qb,qc,qp,qv,qN,qT,qF,qt]at hQ ⊢
     (have hX:=zA @hfold (zA @hlen0 (zA @hlen (zA @hov (zA @hbd0 (zA @hbd (zA @hba (zA @hgw (zA @hwat (zA (zge hi) (zA (zgd hi) (zA (zcg hi) (zA (zbs hi) (zA (zbr hi) (zA (zbq hi) @hp0))))))))))))));(repeat' first|refine zaa [0,1,2,3,4,5,6,7,8,9,10,11,12,13,14,15,23,33,54,71,80,84,86,88,97] fun K hK=>?_|(refine hK.go ?_;clear hK K)|with_reducible exact wT|refine wA ?_|(refine wB (fun h=>?_) (fun h=>?_)<;>first|exact wN h|subst (h:(_:Bool)=_)|skip)|(refine wQ ?_;clear hQ hR hE hM)|refine wC c0 ?_|refine wO c1 ?_|refine wS c2 ?_|fail);all_goals clear hX)
     all_goals first|rfl|(exfalso;contradiction)|(exfalso;omega)|skip
    ·rw[if_neg hp0]at he ⊢
     by_cases hp1:(nth s.locks i).phase=1
     ·rw[if_pos hp1]at he;exact absurd rfl he
     ·rw[if_neg hp1]at he ⊢
      have e0:decide ((nth s.locks i).phase=0)=false:=decide_eq_false hp0
      have e1:decide ((nth s.locks i).phase=1)=false:=decide_eq_false hp1
      by_cases hp2:(nth s.locks i).phase=2
      ·have hem:zc0 s w (nth s.locks i)=false:=by
        cases h:zc0 s w (nth s.locks i) with
        |false=>rfl
        |true=>rw[if_pos ⟨hp2,h⟩]at he;exact absurd rfl he
       rw[if_neg (fun h=>by rw[hem]at h;cases h.2)]
       rw[hem,List.map_drop]at c5
       refine PC.fn hH cd162 fun w0 M Q hM hE hQ hR=>?_;dsimp only[cd162,qm,ql,qf,qi,qb,qc,qp,qv,qN,qT,qF,qt]at hQ ⊢
       (have hX:=zA @hfold (zA @hlen0 (zA @hlen (zA @hov (zA @hbd0 (zA @hbd (zA @hba (zA @hgw (zA @hwat (zA (zge hi) (zA (zgd hi) (zA (zcg hi) (zA (zbs hi) (zA (zbr hi) (zA (zbq hi) @hp2))))))))))))));(repeat' first|refine zaa [0,1,2,3,4,5,6,7,8,9,10,11,12,13,14,15,23,33,54,71,80,84,86,88,97] fun K hK=>?_|(refine hK.go ?_;clear hK K)|with_reducible exact wT|refine wA ?_|(refine wB (fun h=>?_) (fun h=>?_)<;>first|exact wN h|subst (h:(_:Bool)=_)|skip)|(refine wQ ?_;clear hQ hR hE hM)|refine wC c0 ?_|refine wO c1 ?_|refine wS c2 ?_|refine wS c5 ?_|fail);all_goals clear hX)
       all_goals first|rfl|(exfalso;contradiction)|(exfalso;omega)|skip
      ·rw[if_neg (fun h=>hp2 h.1)]
       have e2:decide ((nth s.locks i).phase=2)=false:=decide_eq_false hp2
       refine PC.fn hH cd162 fun w0 M Q hM hE hQ hR=>?_;dsimp only[cd162,qm,ql,qf,qi,qb,qc,qp,qv,qN,qT,qF,qt]at hQ ⊢
       (have hX:=zA @hfold (zA @hlen0 (zA @hlen (zA @hov (zA @hbd0 (zA @hbd (zA @hba (zA @hgw (zA @hwat (zA (zge hi) (zA (zgd hi) (zA (zcg hi) (zA (zbs hi) (zA (zbr hi) (zA (zbq hi) (zA @e0 (zA @e1 @e2))))))))))))))));(repeat' first|refine zaa [0,1,2,3,4,5,6,7,8,9,10,11,12,13,14,15,23,33,54,71,80,84,86,88,97] fun K hK=>?_|(refine hK.go ?_;clear hK K)|with_reducible exact wT|refine wA ?_|(refine wB (fun h=>?_) (fun h=>?_)<;>first|exact wN h|subst (h:(_:Bool)=_)|skip)|(refine wQ ?_;clear hQ hR hE hM)|refine wC c0 ?_|refine wO c1 ?_|refine wS c2 ?_|fail);all_goals clear hX)
       all_goals first|rfl|(exfalso;contradiction)|(exfalso;omega)|skip
  ·rw[show cnC p s n=zag p s by unfold cnC;rw[if_neg hst]]
   rw[←hRe]at hst ⊢
   revert c0 hRl hst
   generalize ofR p s=R
   obtain ⟨G,Z,hg⟩:=GC.ex
   rw[←hg.eq]
   intro c0 hRl hst
   have hfold:=hg.fold
   have hlen0:=hg.len (.s0 4) hg.zl hg.zl
   have hlen:=hg.len (.sl 4 (R.ways.map Way.c)) hRl.1 hRl.2
   have hov:=hg.ov (.s0 4) (.sl 4 (R.ways.map Way.c)) hg.zl hg.zl hRl.1 hRl.2
   have hbd0:=hg.bd0 Z Z
   have hbd:=hg.bd R.hold R.ask (R.ways.map Way.c)
   have hba:=hg.ba R.hold R.ask (R.ways.map Way.c)
   refine PC.fn hH cd162 fun w0 M Q hM hE hQ hR=>?_;dsimp only[cd162,qm,ql,qf,qi,qb,qc,qp,qv,qN,qT,qF,qt]at hQ ⊢
   (have hX:=zA @hfold (zA @hlen0 (zA @hlen (zA @hov (zA @hbd0 (zA @hbd @hba)))));(repeat' first|refine zaa [0,1,2,3,4,5,6,7,8,9,10,11,12,13,14,15,23,33,54,71,80,84,86,88,97] fun K hK=>?_|(refine hK.go ?_;clear hK K)|with_reducible exact wT|refine wA ?_|(refine wB (fun h=>?_) (fun h=>?_)<;>first|exact wN h|subst (h:(_:Bool)=_)|skip)|(refine wQ ?_;clear hQ hR hE hM)|refine wC c0 ?_|fail);all_goals clear hX)
   all_goals first|rfl|(exfalso;contradiction)|skip
end Go.Lev
namespace Go.Lev
open Go.Eng
section
variable {p:Pln} {s t:State} (h:zag p s=0) (g:OnS p s t)
include h g
end
theorem zmF {l:Lock} {r:Rte} (h:zbJ l r=true):On l (zb0 l)∧zbJ (zb0 l) r=true:=by
 simp only[zbJ,Bool.and_eq_true,decide_eq_true_eq]at h
 unfold zb0
 by_cases h1:l.left=0
 ·rw[if_pos h1]
  exact ⟨.inl rfl,by simp only[zbJ,Bool.and_eq_true,decide_eq_true_eq];exact h⟩
 ·rw[if_neg h1]
  have hph:l.phase=3∨l.phase=4:=by
   have h2:=h.2
   unfold zat at h2
   split at h2
   ·simp at h2;omega
   ·split at h2
    ·simp at h2;omega
    ·split at h2
     ·exact .inl (by assumption)
     ·split at h2
      ·exact .inr (by assumption)
      ·cases h2
  split
  ·refine ⟨.inr ⟨rfl,.inl rfl⟩, ?_⟩
   simp only[zbJ,zat,Bool.and_eq_true,decide_eq_true_eq]
   exact ⟨h.1,by simp⟩
  ·refine ⟨.inr ⟨rfl,.inr ⟨by omega,by dsimp only;omega,Int.le_refl _⟩⟩, ?_⟩
   have h2:=h.2
   simp only[zbJ,Bool.and_eq_true,decide_eq_true_eq]
   refine ⟨h.1, ?_⟩
   rcases hph with e|e
   ·simp only[zat,e]at h2 ⊢
    simp at h2 ⊢
    omega
   ·simp only[zat,e]at h2 ⊢
    simp at h2 ⊢
    omega
theorem zoy {p:Pln} {s:State} (h:zag p s=0):OnS p s (zdU s):=by
 refine ⟨rfl,rfl,by show (s.locks.map zb0).length=_;simp,fun i hi=>?_,fun i hi=>?_⟩
 ·show On _ (nth (s.locks.map zb0) i)
  rw[zpo zb0 hi]
  exact (zmF (zcH (zad h).2.1 hi)).1
 ·show zbJ (nth (s.locks.map zb0) i) _=true
  rw[zpo zb0 hi]
  exact (zmF (zcH (zad h).2.1 hi)).2
end Go.Lev
namespace Go.Lev
open Go.Eng
set_option maxRecDepth 10000
set_option maxHeartbeats 4000000
variable {P:Program} {inv:Nat→Option Nat} {w0:World} {M:Nat→Prop}
theorem zmS (hH:HasAll P inv) (p:Pln) (hl:p.routes.length≤1000000000) (n:Int):PC P inv 334 [.agg p.c,.n n] (·=.n (zaZ (fun x=>decide (Rte.id x=n)) 0 p.routes)):=by
 refine PC.fn hH cd334 fun w0 M Q hM hE hQ hR=>?_;dsimp only[cd334,qm,ql,qf,qi,qb,qc,qp,qv,qN,qT,qF,qt]at hQ ⊢
 (repeat' first|refine zaa [0,1,2,4,5,10,20] fun K hK=>?_|(refine hK.go ?_;clear hK K)|with_reducible exact wT|refine wA ?_|(refine wB (fun h=>?_) (fun h=>?_)<;>first|exact wN h|subst (h:(_:Bool)=_)|skip)|(refine wQ ?_;clear hQ hR hE hM)|fail)
 refine zai (ι:=Nat) [1,2,4,5] (fun z=>[(5,.n z)]) (fun _=>[]) (fun z=>z) (p.routes.length) (fun z=>(zaZ (fun x=>decide (Rte.id x=n)) (z:Int) (p.routes.drop z)=zaZ (fun x=>decide (Rte.id x=n)) 0 p.routes)) (0) ?_;rintro k ⟨hk,hg⟩;(try dsimp only at hk hg ⊢);rcases Nat.lt_or_ge k p.routes.length with hlt|hge
 ·rw[zae hlt,zaZ]at hg
  by_cases e:(nth p.routes k).id=n
  ·have e2:decide ((nth p.routes k).id=n)=true:=decide_eq_true e
   rw[if_pos e2]at hg
   skip
   (have hX:=@e2;(repeat' first|refine zaa [0,1,2,4,5,10,20] fun K hK=>?_|(refine hK.go ?_;clear hK K)|with_reducible exact wT|refine wA ?_|(refine wB (fun h=>?_) (fun h=>?_)<;>first|exact wN h|subst (h:(_:Bool)=_)|skip)|(refine wQ ?_;clear hQ hR hE hM)|fail);all_goals clear hX)
   all_goals first|rfl|exact hg|exact congrArg AV.n hg|(exfalso;contradiction)|(rw[←hg];done)|(rw[←hg];rfl)|(simp[*];done)|trace_state
  ·have e2:decide ((nth p.routes k).id=n)=false:=decide_eq_false e
   rw[if_neg (by simp[e])]at hg
   (have hX:=@e2;(repeat' first|refine zaa [0,1,2,4,5,10,20] fun K hK=>?_|(refine hK.go ?_;clear hK K)|with_reducible exact wT|refine wA ?_|(refine wB (fun h=>?_) (fun h=>?_)<;>first|exact wN h|subst (h:(_:Bool)=_)|skip)|(refine wQ ?_;clear hQ hR hE hM)|fail);all_goals clear hX)
   all_goals first|(exfalso;contradiction)|exact ⟨k+1,by omega,⟨by omega,hg⟩,by omega⟩|trace_state
 ·rw[List.drop_eq_nil_of_le hge,zaZ]at hg
  (repeat' first|refine zaa [0,1,2,4,5,10,20] fun K hK=>?_|(refine hK.go ?_;clear hK K)|with_reducible exact wT|refine wA ?_|(refine wB (fun h=>?_) (fun h=>?_)<;>first|exact wN h|subst (h:(_:Bool)=_)|skip)|(refine wQ ?_;clear hQ hR hE hM)|fail)
  all_goals first|exact hg|(rw[←hg];done)|trace_state
end Go.Lev
namespace Go.Lev
open Go.Eng
set_option maxRecDepth 10000
set_option maxHeartbeats 4000000
variable {P:Program} {inv:Nat→Option Nat} {w0:World} {M:Nat→Prop}
theorem rtl_id {p:Pln} {s:State} (h:zak p s=true) {i:Nat} (hi:i<s.locks.length):(nth p.routes i).id=(nth s.locks i).id:=by
 have hl2:=zcH h hi
 simp only[zbJ,Bool.and_eq_true,decide_eq_true_eq]at hl2
 exact hl2.1.symm
end Go.Lev
namespace Go.Lev
open Go.Eng
theorem cnC_at {p:Pln} {s:State} (h:zag p s=0) {i:Nat} (hi:i<s.locks.length):cnC p s (nth s.locks i).id=cnC0 s (zah p (nth p.routes i)).1 (nth s.locks i):=by
 unfold cnC
 rw[if_pos h,zl5 h hi rfl,if_neg (by omega),Int.toNat_natCast]
theorem cnS_len (p:Pln) (s:State) (n:Int):(cnS p s n).locks.length=s.locks.length:=by unfold cnS;simp
theorem near_sec {p:Pln} {s:State} (h:zag p s=0) {i:Nat} (hi:i<p.routes.length):frT s (zah p (nth p.routes i)).1.near=decide (zc6 s (zah p (nth p.routes i)).1.near=0):=zkX (zar h) (zad h).2.1 _
theorem zqc {p:Pln} {s:State} (h:zag p s=0) (w:WayR) (l:Lock):zc0 s w l=(w.path.drop l.gone.toNat).all fun m=>decide (zc6 s m=0):=by
 unfold zc0
 rw[Bool.eq_iff_iff]
 simp only[Bool.not_eq_true',List.any_eq_false,List.all_eq_true,zkX (zar h) (zad h).2.1,Bool.not_eq_true',Bool.not_eq_false,decide_eq_true_eq,decide_eq_false_iff_not]
 exact ⟨fun g x hx=>Classical.byContradiction fun e=>g x hx e,fun g x hx e=>e (g x hx)⟩
end Go.Lev
namespace Go.Lev
open Go.Eng
theorem cnC_ix {p:Pln} {s:State} {n:Int} (h:zag p s=0) (e:cnC p s n=0):∃ i,i<s.locks.length∧(nth s.locks i).id=n∧zeC s n=(i:Int)∧cnC0 s (zah p (nth p.routes i)).1 (nth s.locks i)=0:=by
 rcases zaV Lock.id n s.locks with ⟨h4,_⟩|⟨i,hi,h4,h5⟩
 ·unfold cnC at e
  rw[if_pos h,show zeC s n=-1 from h4,if_pos (by decide)]at e
  cases e
 ·subst h5
  rw[cnC_at h hi]at e
  exact ⟨i,hi,rfl,h4,e⟩
theorem zqp {p:Pln} {s:State} {n:Int} (h:zag p s=0) (e:cnC p s n=0):OnS p s (cnS p s n):=by
 obtain ⟨i,hi,hid,hix,he⟩:=cnC_ix h e
 have hpa:=(zad h).2.1
 have hrt:nth p.routes i∈p.routes:=zab (by have:=zan hpa;omega)
 have ht:=zfd (zar h) hrt
 have key:∀ j,j<s.locks.length→nth (cnS p s n).locks j=if j=i then cnL s (zah p (nth p.routes i)).1 (nth p.routes i) (nth s.locks i) n else nth s.locks j:=fun j hj=>by
  unfold cnS
  rw[hix,Int.toNat_natCast]
  exact za4 _ _ _ _ hi
 have hli:=zcH hpa hi
 simp only[zbJ,Bool.and_eq_true,decide_eq_true_eq]at hli
 have hL:On (nth s.locks i) (cnL s (zah p (nth p.routes i)).1 (nth p.routes i) (nth s.locks i) n)∧zbJ (cnL s (zah p (nth p.routes i)).1 (nth p.routes i) (nth s.locks i) n) (nth p.routes i)=true:=by
  unfold cnL
  split
  ·rename_i h1
   have h2:=hli.2
   simp only[zat,h1.1]at h2
   simp at h2
   refine ⟨.inr ⟨hid.symm,.inr ⟨by omega,by simp,by dsimp only;omega⟩⟩, ?_⟩
   simp only[zbJ,zat,Bool.and_eq_true,decide_eq_true_eq]
   refine ⟨by rw[←hid];exact hli.1, ?_⟩
   simp;omega
  ·refine ⟨.inr ⟨hid.symm,.inl rfl⟩, ?_⟩
   simp only[zbJ,zat,Bool.and_eq_true,decide_eq_true_eq]
   exact ⟨by rw[←hid];exact hli.1,by simp⟩
 refine ⟨rfl,rfl,cnS_len p s n,fun j hj=>?_,fun j hj=>?_⟩
 ·rw[key j hj]
  split
  ·rename_i e1;subst e1;exact hL.1
  ·exact .inl rfl
 ·rw[key j hj]
  split
  ·rename_i e1;subst e1;exact hL.2
  ·exact zcH hpa hj
end Go.Lev
