/-
  A part of the engine that walks the functions' codes, and of the functions' contracts. Conditions: those that each theorem names.
-/
import Derived.Test.YtnjpcpdmnadadaaGreatL13
import Derived.IntWalk
import Derived.Laws.IdiomCopy
set_option linter.unusedSimpArgs false
set_option linter.unusedVariables false
set_option linter.unusedSectionVars false
namespace Go.Lev
open Go.Eng
set_option maxRecDepth 10000
variable {P:Program} {inv:Nat→Option Nat}
theorem zm5:∀ (l:List TrainD) (n:Nat),l.length≤n→gTrF l n=false→∀ t∈l,t.secs.length≤30
 |[],_,_,_=>fun r hr=>nomatch hr
 |x::l,0,h,_=>by simp at h
 |x::l,n+1,h,hg=>by
  rw[gTrF,Bool.or_eq_false_iff]at hg
  intro r hr
  rcases List.mem_cons.1 hr with e|e
  ·have:=of_decide_eq_false hg.1
   rw[e];omega
  ·exact zm5 l n (by simpa using h) hg.2 r e
theorem sm31 {p:Pln} (hp:Pln.ok p) (h:gPl p=false):Sm p:=by
 unfold gPl at h
 simp only[Bool.or_eq_false_iff,decide_eq_false_iff_not,Int.not_lt]at h
 obtain ⟨h1,h2,h3,h4,h5⟩:=h
 have hs:p.sections.length≤40:=by
  unfold zgv at h2
  simp only[Bool.or_eq_false_iff,decide_eq_false_iff_not,Int.not_lt]at h2
  omega
 obtain ⟨_,_,a3,a4,a5,a6⟩:=hp
 refine ⟨by omega,fun s hs=>?_,by omega,by omega,by omega,fun r hr=>?_⟩
 ·have:=(a3.2 s hs).2.2.1
  exact Nat.le_trans this (by decide)
 ·have:=a6.2 r hr
  exact ⟨Nat.le_trans this.2.2.2.1.1 (by decide),Nat.le_trans this.2.2.2.2.1.1 (by decide),Nat.le_trans this.2.2.2.2.2.1.1 (by decide)⟩
theorem tr31 {l:List TrainD} (h:gTr l=false):l.length≤30∧∀ t∈l,t.secs.length≤30:=by
 unfold gTr at h
 simp only[Bool.or_eq_false_iff,decide_eq_false_iff_not,Int.not_lt]at h
 exact ⟨by omega,zm5 l 30 (by omega) h.1⟩
end Go.Lev
namespace Go.Lev
open Go.Eng
def zcD (l:List TrainD) (n:Int):List Int:=if zcN l n<0 then [] else (nth l (zcN l n).toNat).secs
def oneG (old now:List Int) (A:List (Int×Int)) (m:MoveD):Bool :=
 cond (decide ((A.length:Int)=0)) (cond (decide ((old.length:Int)=(now.length:Int))) (decide (m.kind=4)) false)
  (cond (!decide ((A.length:Int)=1)) false
   (cond (decide ((nth A 0).2=1)) (cond (decide ((now.length:Int)=(old.length:Int)+1)) (decide (nth now 0=(nth A 0).1)) false)
    (cond (decide ((nth A 0).2=0)) (cond (decide ((now.length:Int)=(old.length:Int)-1)) (decide (nth old (old.length-1)=(nth A 0).1)) false) false)))
def oneF (l X:List TrainD) (A:List (Int×Int)) (e:Int) (m:MoveD):Bool :=
 cond (!decide (e=0)) (cond (decide ((X.length:Int)=0)) (decide ((A.length:Int)=0)) false)
  (zbs (fun i (_:Unit) zbf=>cond (!decide ((nth l i).id=m.tr)) (cond (decide (zcN X (nth l i).id<0)) false (cond (!decide (nth X (zcN X (nth l i).id).toNat=nth l i)) false (zbf ()))) (zbf ()))
   (fun _=>oneG (zcD l m.tr) (zcD X m.tr) A m) l.length 0 ())
end Go.Lev
namespace Go.Lev
open Go.Eng
theorem zjo (p:Pln) (s:State) (l:List TrainD) (m:MoveD):(mvR p s l m).2.1.length≤l.length+1:=by
 unfold mvR
 split
 ·split
  ·unfold putR;repeat' split
   all_goals first|(simp;done)|(simp[zjw];done)
  ·split
   ·unfold ze8 zig;repeat' split
    all_goals simp
   ·split
    ·unfold ze8 zoG;repeat' split
     all_goals simp
    ·split
     ·unfold ze8 ziX;repeat' split
      all_goals simp
     ·split
      ·unfold ze8 zl0;repeat' split
       all_goals first|(simp;done)|(dsimp only;exact Nat.le_trans (List.length_eraseIdx_le _ _) (by omega))
      ·simp
 ·simp
end Go.Lev
namespace Go.Lev
open Go.Eng
set_option maxRecDepth 10000
set_option maxHeartbeats 8000000
variable {P:Program} {inv:Nat→Option Nat} {w0:World} {M:Nat→Prop}
attribute [go_sem] zoE
end Go.Lev
namespace Go.Lev
open Go.Eng
def tsH (p:Pln) (s:State) (old now:TrainD):Bool :=
 cond (!decide (stC p (nth old.secs 0) old.ed=0)) false (cond (!decide (sgC p s (ze6 p (nth old.secs 0) old.ed)=0)) false (cond (!decide ((zcK p now.rt).2=0)) false (cond (decide (ze6 p (nth old.secs 0) old.ed=0)) false
  (cond (!decide ((zcK p now.rt).1.entry=ze6 p (nth old.secs 0) old.ed)) false (cond (!decide (now.pl=0)) false (cond (!decide (now.may=0)) false
   (cond (decide (sgC p s (ze6 p (nth old.secs 0) old.ed)=0)&&goB p s (ze6 p (nth old.secs 0) old.ed)) true (cond (decide (0<old.may)) (decide (now.rt=old.nx)) false))))))))
def tsG (p:Pln) (s:State) (old now:TrainD):Bool :=
 cond (decide ((ofW p old.rt).2=0)) (cond (decide (old.pl<((ofW p old.rt).1.path.length:Int)-1)) (cond (decide (now.rt=old.rt)) (decide (now.pl=old.pl+1)) false) (tsH p s old now)) (tsH p s old now)
def tsF (p:Pln) (s:State) (l X:List TrainD) (e n:Int):Bool :=
 cond (!decide (e=0)) true (cond (decide (zcN l n<0)) false (cond (decide (zcN X n<0)) false (tsG p s (nth l (zcN l n).toNat) (nth X (zcN X n).toNat))))
end Go.Lev
namespace Go.Lev
open Go.Eng
set_option maxRecDepth 10000
set_option maxHeartbeats 8000000
variable {P:Program} {inv:Nat→Option Nat} {w0:World} {M:Nat→Prop}
theorem zpB {p:Pln} {s:State} {l:List TrainD} {m:MoveD} (h:(mvR p s l m).1=0):ckC p s l=0:=by
 unfold mvR at h
 split at h
 ·assumption
 ·exact h
end Go.Lev
namespace Go.Lev
open Go.Eng
structure TurnS (p:Pln) (s:State) (l:List TrainD) (n se ed:Int) (k:Nat):Prop where
 lt:k<l.length
 at':zcN l n=(k:Int)
 one:0<(nth l k).secs.length
 r1:mvR p s l ⟨4,n,se,ed⟩=(0,l.set k (zbk (nth l k)),[])
 r2:mvR p s (l.set k (zbk (nth l k))) ⟨4,n,se,ed⟩=(0,l.set k (zbk (zbk (nth l k))),[])
 st:stC p (nth (nth l k).secs 0) (nth l k).fr=0
 hd:ze6 p (nth (nth l k).secs 0) (nth l k).fr=0→mvR p s (l.set k (zbk (nth l k))) ⟨2,n,se,ed⟩=(310,[],[])
 gn:(mvR p s l ⟨5,n,se,ed⟩).1=0→ckC p s (mvR p s l ⟨5,n,se,ed⟩).2.1=0∧((mvR p s l ⟨5,n,se,ed⟩).2.1.length:Int)=(l.length:Int)-1
end Go.Lev
namespace Go.Lev
open Go.Eng
set_option maxRecDepth 10000
set_option maxHeartbeats 4000000
variable {P:Program} {inv:Nat→Option Nat} {w0:World} {M:Nat→Prop}
def zfv:Pln:=⟨1,0,[⟨1,0,[⟨0,0⟩,⟨2,0⟩]⟩,⟨2,2,[⟨1,1⟩,⟨3,0⟩,⟨4,0⟩]⟩,⟨3,0,[⟨2,1⟩,⟨5,1⟩]⟩,⟨4,0,[⟨2,2⟩,⟨5,2⟩]⟩,⟨5,5,[⟨6,0⟩,⟨3,1⟩,⟨4,1⟩]⟩,⟨6,0,[⟨5,0⟩,⟨0,0⟩]⟩],[⟨2,2⟩,⟨5,5⟩],[⟨1,1,1⟩,⟨3,3,1⟩,⟨4,4,1⟩,⟨6,6,0⟩],[⟨1,1,3,[2,3],[5],[],2⟩,⟨3,3,0,[5,6],[],[],1⟩,⟨6,6,0,[5,4,2,1],[],[],1⟩]⟩
theorem smE:Sm zfv:=⟨by decide,by decide,by decide,by decide,by decide,by decide⟩
def stE:State:=⟨[⟨1,2⟩,⟨2,2⟩,⟨3,2⟩,⟨4,2⟩,⟨5,2⟩,⟨6,2⟩],[⟨2,0,0⟩,⟨5,0,0⟩],[⟨1,0,0,0⟩,⟨3,0,0,0⟩,⟨6,0,0,0⟩]⟩
def stE1:State:=⟨[⟨1,0⟩,⟨2,0⟩,⟨3,0⟩,⟨4,0⟩,⟨5,0⟩,⟨6,0⟩],[⟨2,1,1⟩,⟨5,1,1⟩],[⟨1,1,0,0⟩,⟨3,0,0,0⟩,⟨6,0,0,0⟩]⟩
def stE2:State:=⟨[⟨1,1⟩,⟨2,0⟩,⟨3,0⟩,⟨4,0⟩,⟨5,0⟩,⟨6,0⟩],[⟨2,1,1⟩,⟨5,1,1⟩],[⟨1,1,0,0⟩,⟨3,0,0,0⟩,⟨6,0,0,0⟩]⟩
theorem smE1:SmS stE1:=⟨by decide,by decide,by decide⟩
theorem smE2:SmS stE2:=⟨by decide,by decide,by decide⟩
theorem okE:zbE zfv=true:=by decide +kernel
theorem atE:atS zfv=stE:=by decide +kernel
theorem zdZ (hH:HasAll P inv):PC P inv 211 [] (·=.agg zfv.c):=by
 have h:PC P inv 211 [] (·=.agg [.n 1,.n 0,.sl 3 (zfv.sections.map Section.c),.sl 2 (zfv.points.map Pnt.c),.sl 3 (zfv.signals.map Sgn.c),.sl 7 [[.n 1,.n 1,.n 3,.sl 1 [[.n 2],[.n 3]],.sl 1 [[.n 5]],.s0 2,.n 2],[.n 3,.n 3,.n 0,.sl 1 [[.n 5],[.n 6]],.s0 1,.s0 2,.n 1],[.n 6,.n 6,.n 0,.sl 1 [[.n 5],[.n 4],[.n 2],[.n 1]],.s0 1,.s0 2,.n 1]]]):=by
  refine PC.fn hH cd211 fun w0 M Q hM hE hQ hR=>?_;dsimp only[cd211,qm,ql,qf,qi,qb,qc,qp,qv,qN,qT,qF,qt]at hQ ⊢
  (repeat' first|refine zaa [0] fun K hK=>?_|(refine hK.go ?_;clear hK K)|with_reducible exact wT|refine wA ?_|(refine wB (fun h=>?_) (fun h=>?_)<;>first|exact wN h|subst (h:(_:Bool)=_)|skip)|(refine wQ ?_;clear hQ hR hE hM)|fail)
  rfl
 exact h.nzr
theorem zmU (hH:HasAll P inv) (hI:HasIds P inv):PO P inv 209 [] (.tup [.agg [.sm 3 12 0 6 2,.sl 3 (stE1.switches.map Switch.c),.sm 5 12 0 3 4],.b true]) [(3,.cells (stE1.tracks.map Track.c).flatten true),(5,.cells (stE1.locks.map Lock.c).flatten true)]:=by
 have c0:=zdZ hH
 have c1:=sAt_po hH hI zfv smE okE
 rw[atE]at c1
 unfold stV stR at c1
 have e1:stE.tracks.length=6:=rfl
 have e2:stE.switches.length=2:=rfl
 have e3:stE.locks.length=3:=rfl
 have q1:stE.tracks.mapIdx zql=stE1.tracks:=rfl
 have q3:stE.locks.set 0 ⟨1,1,0,0⟩=stE1.locks:=rfl
 have q2:stE1.switches.map Switch.c=[[.n 2,.n 1,.n 1],[.n 5,.n 1,.n 1]]:=rfl
 rw[q2]
 have d3:((((stE.locks.map Lock.c).flatten.set 0 (.n 1)).set 1 (.i .u8 1)).set 2 (.n 0)).set 3 (.n 0)=(stE1.locks.map Lock.c).flatten:=rfl
 have e4:stE1.tracks.length=6:=rfl
 generalize stE=S at *
 generalize stE1=T at *
 rw[e1,e2,e3]at c1
 refine PO.fn hH cd209 fun w0 M Q hM hE hQ hR=>?_;dsimp only[cd209,qm,ql,qf,qi,qb,qc,qp,qv,qN,qT,qF,qt]at hQ ⊢
 (have hX:=zA @e1 (zA @e2 @e3);(repeat' first|refine zaa [0,1,2,3,4,23,29] fun K hK=>?_|(refine hK.go ?_;clear hK K)|with_reducible exact wT|refine wA ?_|(refine wB (fun h=>?_) (fun h=>?_)<;>first|exact wN h|subst (h:(_:Bool)=_)|skip)|(refine wR ?_;clear hQ hR hE hM)|refine wC c0 ?_|refine wO c1 ?_|fail);all_goals clear hX)
 refine zaz (ι:=Nat) [0,1,2,4] (fun z=>[(4,.n z)]) (fun z=>[(3,.cells ((zh9 zql z S.tracks).map Track.c).flatten true)]) (fun z=>z) (6) (fun _=>True) (0) ?_;rintro k ⟨hk,-⟩;(try dsimp only at hk ⊢);rcases Nat.lt_or_ge k 6 with hlt|hge
 ·have hk:k<S.tracks.length:=by omega
  have d1:=zms zql hk
  have d2:=zey (c:=Track.c) (l:=zh9 zql k S.tracks) (k:=k) (i:=1) (by rw[zdG];exact hk) (by omega) (.i .u8 0) (zql k (nth S.tracks k)) (by rw[zmt _ hk];rfl)
  rw[d1]at d2
  (have hX:=@d2;(repeat' first|refine zaa [0,1,2,3,4,23,29] fun K hK=>?_|(refine hK.go ?_;clear hK K)|with_reducible exact wT|refine wA ?_|(refine wB (fun h=>?_) (fun h=>?_)<;>first|exact wN h|subst (h:(_:Bool)=_)|skip)|(refine wR ?_;clear hQ hR hE hM)|fail);all_goals clear hX)
  exact ⟨k+1,by omega,by omega,by omega,rfl⟩
 ·rw[zmu _ (by omega),q1]
  (have hX:=zA @e4 @d3;(repeat' first|refine zaa [0,1,2,3,4,23,29] fun K hK=>?_|(refine hK.go ?_;clear hK K)|with_reducible exact wT|refine wA ?_|(refine wB (fun h=>?_) (fun h=>?_)<;>first|exact wN h|subst (h:(_:Bool)=_)|skip)|(refine wR ?_;clear hQ hR hE hM)|fail);all_goals clear hX)
  all_goals first|(exfalso;omega)|skip
  left
  constructor
  ·(try (refine no_implicit_lambda% (st ?_);try with_reducible exact wT))
   first|rfl|trace_state
  ·(try (refine no_implicit_lambda% (st ?_);try with_reducible exact wT))
   first|rfl|trace_state
end Go.Lev
namespace Go.Eng
open Go.RowKit
section
variable {P:Program} {inv:Nat→Option Nat} {w0:World} {M:Nat→Prop} {n N:Nat} {φ:AF} {σ:AS}
def snF (k:Nat) (σ:AS):AF→AF
 |[]=>[]
 |(i,v)::r=>(i,zdU k σ v)::snF k σ r
theorem snF_0 (k:Nat) (σ:AS):snF k σ []=[]:=rfl
theorem snF_s (k:Nat) (σ:AS) (i:Nat) (v:AV) (r:AF):snF k σ ((i,v)::r)=(i,zdU k σ v)::snF k σ r:=rfl
attribute [go_sem] snF_0 snF_s
theorem zoP (k:Nat) (σ:AS) (i:Nat):∀ φ:AF,za3 (snF k σ φ) i=zdU k σ (za3 φ i)
 |[]=>rfl
 |(j,v)::r=>by
  rw[snF_s]
  unfold za3
  split
  ·rfl
  ·exact zoP k σ i r
theorem zq0 (k:Nat) (hM:∀ b,M b→b<w0.heap.size) {c:ACode} {Q:Exit→AF→AS→Prop} (h:AWp P inv w0 M N n c Q (snF k σ φ) []):AWp P inv w0 M N n c Q φ σ:=by
 intro c₀ hc β a w hs
 have hd:=fun N=>hs.mem.drop (σ':=[]) (by intro l o e;simp[zax]at e) N
 have hf:=zc7 hs.mem hM (A':=M) (fun _ h=>h) k
 have hle:(⟨inv,w,M,fun _=>none⟩:Ctx).Le (ctx inv M [] β w):=⟨rfl,Nat.le_refl _,fun _ _ _=>rfl,fun b _ h=>by
  rcases h with h|⟨l,o,e,_⟩
  ·exact h
  ·simp[zax]at e⟩
 have hS:(ctx inv M [] β w).S=fun _=>none:=by funext l;simp[ctx,zah,zax]
 have hs':St inv w0 M n (snF k σ φ) [] β a w:=⟨⟨fun i=>by
  rw[zoP]
  exact zbS (N:=0) hle _ _ (.inr hS) (zdo hs.mem hM (fun _ h=>h) hf _ _ (hs.slots i)),(hd 0).1⟩,hs.size,hs.defers⟩
 exact Code.wp_mono (fun _ _ _ ⟨φ2,σ2,β2,q2,hst2,hext2⟩=>⟨φ2,σ2,β2,q2,hst2,(hd N).2.trans hext2⟩) (h c₀ hc β a w hs')
end
end Go.Eng
namespace Go.Eng
open Go.RowKit
def PX (P:Program) (inv:Nat→Option Nat) (j:Nat) (a0 a1:AV) (as:List AV) (r:AV):Prop :=
 ∀ g,inv g=some j→∀ (M:Nat→Prop) (w:World) (vs:Array Value) (v0 v1:Value) (ys:List Value),(∀ b,M b→b<w.heap.size)→vs.toList=v0::v1::ys→rel ⟨inv,w,M,fun _=>none⟩ a0 v0→rel ⟨inv,w,fun _=>False,fun _=>none⟩ a1 v1→zbz ⟨inv,w,M,fun _=>none⟩ as ys →
  Calls P g vs w fun e w'=>∃ v,e=.returned v∧Below w.heap.size w w'∧r.bare=true∧rel ⟨inv,w',M,fun _=>none⟩ r v
inductive SubC (E:Value→AV→Prop):List AV→List AV→Prop
 |nil:SubC E [] []
 |exch {y:Value} {X:AV} {xs ys:List AV}:E y X→SubC E xs ys→SubC E (.v y::xs) (X::ys)
 |nz {sz:Nat} {xs ys:List AV}:SubC E xs ys→SubC E (.s0 sz::xs) (.sl sz []::ys)
 |keep {x:AV} {xs ys:List AV}:x.bare=true→SubC E xs ys→SubC E (x::xs) (x::ys)
inductive SubL (E:Value→AV→Prop):List AV→List AV→Prop
 |nil:SubL E [] []
 |agg {cs ds xs ys:List AV}:SubC E cs ds→SubL E xs ys→SubL E (.agg cs::xs) (.agg ds::ys)
 |keep {x:AV} {xs ys:List AV}:x.bare=true→SubL E xs ys→SubL E (x::xs) (x::ys)
section
variable {P:Program} {inv:Nat→Option Nat} {w0:World} {M:Nat→Prop} {n N:Nat} {φ:AF} {σ:AS} {β:Nat→Nat} {w:World} {E:Value→AV→Prop}
theorem zpH:Ctx.Le (ctx inv M σ β w) ⟨inv,w,fun _=>False,fun _=>none⟩:=⟨rfl,Nat.le_refl _,fun _ _ _=>rfl,fun _ _ h=>h.elim⟩
theorem le_free2 (hb:Below w0.heap.size w0 w):Ctx.Le ⟨inv,w0,fun _=>False,fun _=>none⟩ ⟨inv,w,fun _=>False,fun _=>none⟩:=⟨rfl,hb.size,fun b h _=>hb.block b h,fun _ _ h=>h.elim⟩
theorem SubC.rel (hE:∀ y X,E y X→rel ⟨inv,w0,fun _=>False,fun _=>none⟩ X y) (hb:Below w0.heap.size w0 w) {xs ys:List AV} (h:SubC E xs ys):∀ vs,relCs (ctx inv M σ β w) xs vs→relCs ⟨inv,w,fun _=>False,fun _=>none⟩ ys vs:=by
 induction h with
 |nil=>intro vs r;simpa only[relCs] using r
 |exch e _ ih =>
  intro vs r
  simp only[relCs,Go.Eng.rel]at r ⊢
  obtain ⟨y,ys',e1,e2,e3,e4⟩:=r
  subst e3
  exact ⟨_,ys',e1,e2,zbS (N:=0) (le_free2 hb) _ _ (.inr rfl) (hE _ _ e),ih _ e4⟩
 |nz _ ih =>
  intro vs r
  simp only[relCs,Go.Eng.rel]at r ⊢
  obtain ⟨y,ys',e1,e2,⟨ad,e3⟩,e4⟩:=r
  exact ⟨_,ys',e1,e2,⟨ad,0,e3,Nat.le_refl _,fun h=>absurd rfl h⟩,ih _ e4⟩
 |keep hx _ ih =>
  intro vs r
  simp only[relCs]at r ⊢
  obtain ⟨y,ys',e1,e2,e3,e4⟩:=r
  exact ⟨_,ys',e1,e2,zbS (N:=0) zpH _ _ (.inr rfl) e3,ih _ e4⟩
theorem SubL.rel (hE:∀ y X,E y X→rel ⟨inv,w0,fun _=>False,fun _=>none⟩ X y) (hb:Below w0.heap.size w0 w) {xs ys:List AV} (h:SubL E xs ys):∀ vs,zbz (ctx inv M σ β w) xs vs→zbz ⟨inv,w,fun _=>False,fun _=>none⟩ ys vs:=by
 induction h with
 |nil=>intro vs r;simpa only[zbz] using r
 |agg hc _ ih =>
  intro vs r
  simp only[zbz,Go.Eng.rel]at r ⊢
  obtain ⟨y,ys',e1,⟨zs,e2,e3⟩,e4⟩:=r
  exact ⟨_,ys',e1,⟨zs,e2,hc.rel hE hb _ e3⟩,ih _ e4⟩
 |keep hx _ ih =>
  intro vs r
  simp only[zbz]at r ⊢
  obtain ⟨y,ys',e1,e3,e4⟩:=r
  exact ⟨_,ys',e1,zbS (N:=0) zpH _ _ (.inr rfl) e3,ih _ e4⟩
theorem zjT (hE:∀ y X,E y X→rel ⟨inv,w0,fun _=>False,fun _=>none⟩ X y) {j:Nat} {args args':List AV} {r:AV} (h:PC P inv j args' (·=r)) (hs:r.scalar=true) (hx:SubL E args args'):AC P inv w0 M N j args σ fun r' σ'=>r'=r∧σ'=σ:=by
 intro g hg β w vs hm ha
 refine (h g hg (fun _=>False) w vs (fun _ h=>h.elim) (hx.rel hE hm.below _ ha)).mono ?_
 rintro e w' ⟨v,r',rfl,rfl,hb,hbare,hrel⟩
 have hc:=hm.call hb N
 exact ⟨v,_,σ,β,rfl,⟨rfl,rfl⟩,hc.1,hc.2,zen _ v hs hrel⟩
theorem PX.intro {j:Nat} {F:AFn} (hF:Has P inv j F) {a0:AV} {es as:List AV} {r:AV} (hl:as.length+2≤F.ntmps)
  (h:∀ (w0:World) (M:Nat→Prop) (Q:Exit→AF→AS→Prop) (ys:List Value),(∀ b,M b→b<w0.heap.size)→relCs ⟨inv,w0,fun _=>False,fun _=>none⟩ es ys→(∀ φ σ r',zdP φ σ F.res=some r'→zdU 4 σ r'=r→Q .ret φ σ)→(∀ φ σ,Q .ret φ σ→Q .normal φ σ)→AWp P inv w0 M 0 F.ntmps F.body Q (zk5 0 (a0::.agg (ys.map .v)::as)) []):PX P inv j a0 (.agg es) as r:=by
 intro g hg M w vs v0 v1 vs' hM hvs h0 h1 h2
 simp only[Go.Eng.rel]at h1
 obtain ⟨xs,rfl,h1⟩:=h1
 have hm:Mem inv w M [] (fun _=>0) w:=⟨.refl _ _,by intro l l' o o' e;simp[zax]at e,by intro l o e;simp[zax]at e,by intro l cs e;simp[zax]at e,by intro l cs e;simp[zax]at e,by intro l kvs e;simp[zax]at e⟩
 have hle:(⟨inv,w,M,fun _=>none⟩:Ctx).Le (ctx inv M [] (fun _=>0) w):=⟨rfl,Nat.le_refl _,fun _ _ _=>rfl,fun b _ h=>by
  rcases h with h|⟨l,o,e,_⟩
  ·exact h
  ·simp[zax]at e⟩
 have hS:(ctx inv M [] (fun _=>0) w).S=fun _=>none:=by funext l;simp[ctx,zah,zax]
 have hv:∀ (c c':Ctx) (es:List AV) (ys:List Value),relCs c es ys→relCs c' (ys.map AV.v) ys:=by
  intro c c' es
  induction es with
  |nil=>intro ys h;simp only[relCs]at h;subst h;simp only[List.map_nil,relCs]
  |cons x es ih =>
   intro ys h
   simp only[relCs]at h
   obtain ⟨y,ys',rfl,e2,_,e4⟩:=h
   simp only[List.map_cons,relCs,Go.Eng.rel]
   exact ⟨_,_,rfl,e2,rfl,ih _ e4⟩
 refine (AC.body hF (args:=a0::.agg (xs.toList.map .v)::as) (by simpa using hl) (h w M _ xs.toList hM h1 (fun φ σ r' e1 e2=>⟨r',e1,e2⟩) fun _ _ h=>h) g hg (fun _=>0) w vs hm ?_).mono ?_
 ·rw[hvs]
  simp only[zbz]
  refine ⟨v0,_,rfl,zbS (N:=0) hle _ _ (.inr hS) h0,_,vs',rfl, ?_,zbI (N:=0) hle _ _ (.inr hS) h2⟩
  simp only[Go.Eng.rel]
  exact ⟨xs,rfl,hv _ _ _ _ h1⟩
 ·rintro e w' ⟨v,r',σ',β',rfl,rfl,hm',_,hr⟩
  have hf:=zc7 hm' hM (A':=M) (fun _ h=>h) 4
  exact ⟨v,rfl,hm'.below,zel hf r',zdo hm' hM (fun _ h=>h) hf r' v hr⟩
theorem PX.pure (hM:∀ b,M b→b<w0.heap.size) {j:Nat} {a0 a1 a1':AV} {as:List AV} {r:AV} (h:PX P inv j a0 a1' as r) (he:zby 4 σ [a1]=[a1']) (hok:oks 4 σ [a1]=true) (hb:zad (a0::as)=true) {K:AV→Prop} (hk:K r):zqS P inv w0 M σ j (a0::a1::as) K:=by
 refine ⟨r,fun N' φ' σ' hle=>⟨mx N' (zaC φ'),zaF _ _,zal _ _,fun g hg β w vs hm ha=>?_⟩,hk⟩
 simp only[zbz]at ha
 obtain ⟨v0,_,e0,r0,v1,ys,e1,r1,r2⟩:=ha
 subst e1
 have hle1:(ctx inv M σ' β w).Le ⟨inv,w,avoid M σ' β,fun _=>none⟩:=⟨rfl,Nat.le_refl _,fun _ _ _=>rfl,fun _ _ h=>h⟩
 have hf:=zc7 hm hM (A':=fun _=>False) (fun _ h=>h.elim) 4
 have q1:=zdp hm hM (A':=fun _=>False) (fun _ h=>h.elim) hf [a1] [v1] (by simp only[zbz];exact ⟨_,_,rfl,r1,rfl⟩)
 have q2:zbn (zfZ 4 σ') [a1]=[a1']:=by rw[←he];exact zcV (fun l=>zg7 hle 4 l) [a1] hok
 rw[q2]at q1
 simp only[zbz]at q1
 obtain ⟨_,_,q3,q4,q5⟩:=q1
 subst q5
 cases q3
 refine (h g hg (avoid M σ' β) w vs v0 v1 ys (zjN hm hM) e0 (zbS (N:=0) hle1 _ _ (.inr rfl) r0) q4 (zbI (N:=0) hle1 _ _ (.inr rfl) r2)).mono ?_
 rintro e w' ⟨v,rfl,hbl,hbare,hrel⟩
 have hc:=hm.call hbl (mx N' (zaC φ'))
 exact ⟨v,r,σ',β,rfl,⟨rfl,rfl⟩,hc.1,hc.2,zfr (S:=zah β w' σ') r v hbare hrel⟩
theorem wPX {C G G':Prop} (c:C) (g:G') (h:C→G'→G:=by (intro c g;refine Go.Eng.PX.pure hM c ?_ ?_ rfl ?_;(focus exact wF);(focus exact wF);(first|(refine no_implicit_lambda% (st ?_);exact g)|exact g))):G:=h c g
end
end Go.Eng
namespace Go.Lev
open Go.Eng
set_option maxRecDepth 10000
set_option maxHeartbeats 8000000
variable {P:Program} {inv:Nat→Option Nat} {w0:World} {M:Nat→Prop}
theorem put0X (hH:HasAll P inv) (hI:HasIds P inv) (hIn:HasIns P inv) (p:Pln) (hp:Sm p) (s:State) (hs:SmS s) (S:Section) (tr se ed:Int) (hc:ckC p s []=0) (hf:zaw p.sections se=(S,0)) (hpt:S.pt≤0) (hed:0≤ed∧ed≤1) (hh:zhH p s S.id=(0,0)) (hi:zdj s S.id=0) (htr:1≤tr∧tr≤99) :
  PX P inv 210 (.agg p.c) (.agg s.c) [.agg [.s0 8],.agg [.i .u8 1,.n tr,.n se,.n ed]] (zcm 0 [⟨tr,[S.id],1-ed,ed,0,0,0,0⟩] [(S.id,1)]):=by
 have hst:=((zbr p s []).1 hc).1
 have hen:∀ x∈p.sections,x.ends.length≤3:=fun x hx=>(zbd (zaH hst).sec x hx).2.2.2.2
 have c0:=zbD hH hI p hp s hs [] (by decide) (by decide)
 rw[hc]at c0
 have c1:=zdn hH [] (by decide) (by decide)
 have c2:=zdB hH [] (by decide) tr
 rw[show zcN [] tr=-1 from rfl]at c2
 have c3:=zez hH p.sections se (Nat.le_trans hp.sec (by omega)) (fun x hx=>Nat.le_trans (hen x hx) (by omega))
 rw[hf]at c3
 have c4:=zkz hH hI p hp s hs S.id
 rw[hh]at c4
 have c5:=zg5 hH [] (by decide) (by decide) S
 rw[show stdT [] S.id=false from rfl]at c5
 have c6:=zgd hH p s hs hst S.id
 rw[hi]at c6
 have c7:=bsT_pc hH [] tr (by decide) (by decide) (by omega)
 rw[show bsT [] tr 0 ([]:List TrainD).length=0 from zjL,show fndT [] tr=false by unfold fndT;simp]at c7
 have c8:=zdX hH S.id 1 (by decide)
 have hn:nmR [(2,AO.cells [] (decide (0<0)))]=true:=rfl
 clear hc hst hen hf hh hi
 unfold wld at c0 c1
 dsimp only[List.map,List.length,List.flatten]at c0 c1 c2 c5 c7
 unfold State.c stn Pln.c at *
 dsimp only[List.cons_append,List.nil_append]at c6
 clear hp hs
 refine PX.intro (F:=cd210) (hH.has _ _ rfl) (Nat.le_of_ble_eq_true rfl) fun w0 M Q ys hM hX hQ hR=>?_;have hE:=hH.callable;dsimp only[cd210,qm,ql,qf,qi,qb,qc,qp,qv,qN,qT,qF,qt]at hQ ⊢
 simp only[relCs]at hX
 obtain ⟨ya,_,rfl,-,ra,yb,_,rfl,-,rb,yc,_,rfl,-,rc,rfl⟩:=hX
 dsimp only[List.map]
 have hEX:∀ y X,((y=ya∧X=.sl 2 (s.tracks.map Track.c))∨(y=yb∧X=.sl 3 (s.switches.map Switch.c))∨(y=yc∧X=.sl 4 (s.locks.map Lock.c)))→rel ⟨inv,w0,fun _=>False,fun _=>none⟩ X y:=by
  rintro y X (⟨rfl,rfl⟩|⟨rfl,rfl⟩|⟨rfl,rfl⟩)<;>assumption
 have d0:∀ N σ,AC P inv w0 M N 225 [.agg [.n p.version,.n p.parent,.sl 3 (p.sections.map Section.c),.sl 2 (p.points.map Pnt.c),.sl 3 (p.signals.map Sgn.c),.sl 7 (p.routes.map Rte.c)],.agg [.v ya,.v yb,.v yc],.agg [.s0 8]] σ fun r' σ'=>r'=.n 0∧σ'=σ:=fun N σ =>
  zjT hEX c0 rfl (.keep rfl (.agg (.exch (.inl ⟨rfl,rfl⟩) (.exch (.inr (.inl ⟨rfl,rfl⟩)) (.exch (.inr (.inr ⟨rfl,rfl⟩)) .nil))) (.agg (.nz .nil) .nil)))
 have d4:∀ N σ,AC P inv w0 M N 67 [.agg [.n p.version,.n p.parent,.sl 3 (p.sections.map Section.c),.sl 2 (p.points.map Pnt.c),.sl 3 (p.signals.map Sgn.c),.sl 7 (p.routes.map Rte.c)],.agg [.v ya,.v yb,.v yc],.n S.id] σ fun r' σ'=>r'=.tup [.n 0,.n 0]∧σ'=σ:=fun N σ =>
  zjT hEX c4 rfl (.keep rfl (.agg (.exch (.inl ⟨rfl,rfl⟩) (.exch (.inr (.inl ⟨rfl,rfl⟩)) (.exch (.inr (.inr ⟨rfl,rfl⟩)) .nil))) (.keep rfl .nil)))
 have d6:∀ N σ,AC P inv w0 M N 249 [.agg [.n p.version,.n p.parent,.sl 3 (p.sections.map Section.c),.sl 2 (p.points.map Pnt.c),.sl 3 (p.signals.map Sgn.c),.sl 7 (p.routes.map Rte.c),.v ya,.v yb,.v yc],.n S.id] σ fun r' σ'=>r'=.i .u8 0∧σ'=σ:=fun N σ =>
  zjT hEX c6 rfl (.agg (.keep rfl (.keep rfl (.keep rfl (.keep rfl (.keep rfl (.keep rfl (.exch (.inl ⟨rfl,rfl⟩) (.exch (.inr (.inl ⟨rfl,rfl⟩)) (.exch (.inr (.inr ⟨rfl,rfl⟩)) .nil))))))))) (.keep rfl .nil))
 clear hEX ra rb rc c0 c4 c6
 skip
 (repeat' first|refine zaa [0,1,2,3,4,5,6,7,8,9,10,11,12,14,18,28,33,44,47,48,61,75,101,103,112,133,134] fun K hK=>?_|(refine hK.go ?_;clear hK K)|with_reducible exact wT|refine wA ?_|(refine wB (fun h=>?_) (fun h=>?_)<;>first|exact wN h|subst (h:(_:Bool)=_)|skip)|(refine wQ ?_;clear hQ hR)|(refine zb1 1000 ((d0 _ _)) (by omega) (by first|omega|exact wF|((refine no_implicit_lambda% (st ?_);try with_reducible exact wT);omega)) ?_;try (refine no_implicit_lambda% (st ?_);try with_reducible exact wT))|(refine AC.callK 1100 (by omega) (by first|omega|exact wF|((refine no_implicit_lambda% (st ?_);try with_reducible exact wT);omega)) (zac (F:=cd226) (hH.has _ _ rfl) (Nat.le_of_ble_eq_true rfl) fun Q hQ hR=>?_);dsimp only[cd226,qm,ql,qf,qi,qb,qc,qp,qv,qN,qT,qF,qt]at hQ ⊢;try (refine no_implicit_lambda% (st ?_);try with_reducible exact wT))|refine wV c1 ?_|(refine AC.callK 1200 (by omega) (by first|omega|exact wF|((refine no_implicit_lambda% (st ?_);try with_reducible exact wT);omega)) (zac (F:=cd230) (hH.has _ _ rfl) (Nat.le_of_ble_eq_true rfl) fun Q hQ hR=>?_);dsimp only[cd230,qm,ql,qf,qi,qb,qc,qp,qv,qN,qT,qF,qt]at hQ ⊢;try (refine no_implicit_lambda% (st ?_);try with_reducible exact wT))|(refine AC.callK 1300 (by omega) (by first|omega|exact wF|((refine no_implicit_lambda% (st ?_);try with_reducible exact wT);omega)) (zac (F:=cd252) (hH.has _ _ rfl) (Nat.le_of_ble_eq_true rfl) fun Q hQ hR=>?_);dsimp only[cd252,qm,ql,qf,qi,qb,qc,qp,qv,qN,qT,qF,qt]at hQ ⊢;try (refine no_implicit_lambda% (st ?_);try with_reducible exact wT))|refine wS c2 ?_|refine wU c3 ?_|(refine zb1 1400 ((d4 _ _)) (by omega) (by first|omega|exact wF|((refine no_implicit_lambda% (st ?_);try with_reducible exact wT);omega)) ?_;try (refine no_implicit_lambda% (st ?_);try with_reducible exact wT))|refine wS c5 ?_|(refine zb1 1400 ((d6 _ _)) (by omega) (by first|omega|exact wF|((refine no_implicit_lambda% (st ?_);try with_reducible exact wT);omega)) ?_;try (refine no_implicit_lambda% (st ?_);try with_reducible exact wT))|refine wS c7 ?_|refine wC c8 ?_|(refine zb1 1500 ((zpV (n:=0) (i:=0) hIn.trn (by omega) rfl rfl (by decide) rfl rfl rfl (by omega) (by omega))) (by omega) (by first|omega|exact wF|((refine no_implicit_lambda% (st ?_);try with_reducible exact wT);omega)) ?_;try (refine no_implicit_lambda% (st ?_);try with_reducible exact wT))|fail)
 all_goals first|rfl|(exfalso;contradiction)|(exfalso;omega)|trace_state
end Go.Lev
namespace Go.Lev
open Go.Eng
set_option maxRecDepth 10000
set_option maxHeartbeats 8000000
variable {P:Program} {inv:Nat→Option Nat} {w0:World} {M:Nat→Prop}
def trE1:TrainD:=⟨1,[1],0,1,0,0,0,0⟩
def trE2:TrainD:=⟨1,[2,1],0,1,1,0,0,0⟩
theorem mv31b:mvR zfv stE2 [trE1] ⟨2,1,0,0⟩=(0,[trE2],[(2,1)]):=by decide +kernel
theorem frz30 {n N:Nat} {φ:AF} {σ:AS} {Q:Exit→AF→AS→Prop} {as:List Opd} {ops:List GOp} (hM:∀ b,M b→b<w0.heap.size) (hσ:σ.isEmpty=false) (h:AWp P inv w0 M N n (.regd 1 ((none,.callp 30 211 as)::ops)) Q (snF 4 σ φ) []):AWp P inv w0 M N n (.regd 1 ((none,.callp 30 211 as)::ops)) Q φ σ:=zq0 4 hM h
theorem zdD (hH:HasAll P inv) (hI:HasIds P inv) (hIn:HasIns P inv):PC P inv 212 [] (·=.b true):=by
 have c0:=zdZ hH
 have c1:=zmU hH hI
 have x0:=put0X hH hI hIn zfv smE stE1 smE1 ⟨1,0,[⟨0,0⟩,⟨2,0⟩]⟩ 1 1 1 (by decide +kernel) (by decide +kernel) (by decide) (by decide) (by decide +kernel) (by decide +kernel) (by decide)
 have c3:=zbK hH hI hIn zfv smE stE2 smE2 [trE1] (by decide) (by decide) ⟨2,1,0,0⟩ (by decide)
 rw[mv31b]at c3
 unfold zoj zcm wld trE1 at c3
 unfold trE2 at c3
 unfold zcm wld at x0
 have e1:stE1.tracks.length=6:=rfl
 have e2:stE2.tracks.length=6:=rfl
 have e3:stE1.locks.length=3:=rfl
 have e4:(stE1.tracks.map Track.c).flatten.set 1 (.i .u8 1)=(stE2.tracks.map Track.c).flatten:=rfl
 have e5:stE2.switches=stE1.switches:=rfl
 have e6:stE2.locks=stE1.locks:=rfl
 have c3':PC P inv 210 [.agg zfv.c,.agg [.sl 2 (stE2.tracks.map Track.c),.sl 3 (stE1.switches.map Switch.c),.sl 4 (stE1.locks.map Lock.c)],_,_] _:=c3
 replace c3:=c3'
 clear c3'
 have l1:=za6 (c:=Track.c) stE1.tracks
 have l2:=za6 (c:=Track.c) stE2.tracks
 have l3:=za6 (c:=Lock.c) stE1.locks
 have m1:=zbm (c:=Track.c) stE1.tracks
 have m2:=zbm (c:=Track.c) stE2.tracks
 have m3:=zbm (c:=Lock.c) stE1.locks
 rw[e1]at l1 m1
 rw[e2]at l2 m2
 rw[e3]at l3 m3
 clear e1 e2 e3 e5 e6
 generalize stE1=S at *
 generalize stE2=T at *
 dsimp only[List.map,List.length,List.flatten,zoE]at x0 c3
 simp -dsimp -implicitDefEqProofs (disch:=omega) only[go_sem,reduceIte,↓reduceIte,Nat.reduceEqDiff,Nat.reduceLT,Nat.reduceLeDiff,Nat.reduceAdd,Nat.reduceSub,Nat.reduceMul,Int.reduceToNat,Int.reduceLT,Int.reduceLE,Int.reduceEq,Int.reduceNeg,Int.reduceNe,reduceCtorEq]at l1 l2 l3
 refine PC.fn hH cd212 fun w0 M Q hM hE hQ hR=>?_;dsimp only[cd212,qm,ql,qf,qi,qb,qc,qp,qv,qN,qT,qF,qt]at hQ ⊢
 (have hX:=zA @l1 (zA @l2 (zA @l3 (zA @m1 (zA @m2 (zA @m3 @e4)))));(repeat' first|(refine frz30 hM rfl ?_;try dsimp only[snF])|refine zaa [0,1,2,3,4,5,6,7,8,9,15,63] fun K hK=>?_|(refine hK.go ?_;clear hK K)|with_reducible exact wT|refine wA ?_|(refine wB (fun h=>?_) (fun h=>?_)<;>first|exact wN h|subst (h:(_:Bool)=_)|skip)|(refine wQ ?_;clear hQ hR hE hM)|refine wO c1 ?_|refine wU c0 ?_|refine wPX x0 ?_|refine wU c3 ?_|fail);all_goals clear hX)
 all_goals first|rfl|(exfalso;contradiction)|trace_state
end Go.Lev
namespace Go.Lev
open Go.Eng
set_option maxRecDepth 10000
set_option maxHeartbeats 8000000
variable {P:Program} {inv:Nat→Option Nat} {w0:World} {M:Nat→Prop}
def trE6:TrainD:=⟨1,[6],1,0,0,0,0,0⟩
def stE3:State:=⟨[⟨1,0⟩,⟨2,0⟩,⟨3,0⟩,⟨4,0⟩,⟨5,0⟩,⟨6,1⟩],[⟨2,1,1⟩,⟨5,1,1⟩],[⟨1,1,0,0⟩,⟨3,0,0,0⟩,⟨6,0,0,0⟩]⟩
end Go.Lev
namespace Go.Lev
open Go.Eng
set_option maxRecDepth 10000
set_option maxHeartbeats 8000000
variable {P:Program} {inv:Nat→Option Nat} {w0:World} {M:Nat→Prop}
def f9 (n:Int) (_:Nat) (t:Track):Track:=if t.id=n then ⟨t.id,1⟩ else t
end Go.Lev
namespace Go.Lev
open Go.Eng
def zi5:Sh:=.st [.i .i64,.s 1 (.i .i64),.i .i64,.i .i64,.i .i64,.i .i64,.i .i64,.i .i64]
def zlh:Sh:=.st [.s 8 zi5]
def zoS:Sh:=.st [.i .u8,.i .i64,.i .i64,.i .i64]
theorem of_train (d:D) (h:Sh.ok zi5 d):∃ t:TrainD,Sh.av zi5 d=t.c∧True:=by
 obtain ⟨l,rfl,h⟩:=zfw h
 obtain ⟨d1,l,rfl,h1,h⟩:=zau h
 obtain ⟨d2,l,rfl,h2,h⟩:=zau h
 obtain ⟨d3,l,rfl,h3,h⟩:=zau h
 obtain ⟨d4,l,rfl,h4,h⟩:=zau h
 obtain ⟨d5,l,rfl,h5,h⟩:=zau h
 obtain ⟨d6,l,rfl,h6,h⟩:=zau h
 obtain ⟨d7,l,rfl,h7,h⟩:=zau h
 obtain ⟨d8,l,rfl,h8,h⟩:=zau h
 obtain rfl:=zda h
 obtain ⟨a,rfl,-⟩:=zaY h1
 obtain ⟨p,ep,-⟩:=zlz h2
 obtain ⟨b3,rfl,-⟩:=zaY h3
 obtain ⟨b4,rfl,-⟩:=zaY h4
 obtain ⟨b5,rfl,-⟩:=zaY h5
 obtain ⟨b6,rfl,-⟩:=zaY h6
 obtain ⟨b7,rfl,-⟩:=zaY h7
 obtain ⟨b8,rfl,-⟩:=zaY h8
 exact ⟨⟨a,p,b3,b4,b5,b6,b7,b8⟩,by simp only[zi5,Sh.av,zcp,ep,TrainD.c];rfl,trivial⟩
theorem arg_world {d:D} (h:Sh.ok zlh d):∃ l:List TrainD,Sh.arg zlh d=.agg (wld l):=by
 obtain ⟨l,rfl,h⟩:=zfw h
 obtain ⟨d1,l,rfl,h1,h⟩:=zau h
 obtain rfl:=zda h
 obtain ⟨s,es,-⟩:=zes of_train h1
 exact ⟨s,by simp only[zlh,Sh.arg,Sh.av,zcp,es,wld];rfl⟩
theorem arg_move {d:D} (h:Sh.ok zoS d):∃ m:MoveD,Sh.arg zoS d=.agg m.c∧0≤m.kind∧m.kind≤255:=by
 obtain ⟨l,rfl,h⟩:=zfw h
 obtain ⟨d1,l,rfl,h1,h⟩:=zau h
 obtain ⟨d2,l,rfl,h2,h⟩:=zau h
 obtain ⟨d3,l,rfl,h3,h⟩:=zau h
 obtain ⟨d4,l,rfl,h4,h⟩:=zau h
 obtain rfl:=zda h
 obtain ⟨a,rfl,ha⟩:=of_u8 h1
 obtain ⟨b,rfl,-⟩:=zaY h2
 obtain ⟨c,rfl,-⟩:=zaY h3
 obtain ⟨e,rfl,-⟩:=zaY h4
 exact ⟨⟨a,b,c,e⟩,by simp only[zoS,Sh.arg,Sh.av,zcp,MoveD.c];rfl,ha.1,ha.2⟩
end Go.Lev
