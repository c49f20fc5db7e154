/-
  A part of the engine that walks the functions' codes, and of the functions' contracts. Conditions: those that each theorem names.
-/
import Derived.Test.YtmmojdgcannacaaL4
import Derived.IntWalk
set_option linter.unusedSimpArgs false
set_option linter.unusedVariables false
set_option linter.unusedSectionVars false
namespace Go.Lev
open Go.Eng
set_option maxRecDepth 10000
set_option maxHeartbeats 4000000
variable {P:Program} {inv:Nat→Option Nat} {w0:World} {M:Nat→Prop}
theorem zdG (hH:HasAll P inv) (hI:HasIds P inv) (p:Pln) (hp:Sm p) (s:State) (hs:SmS s):PC P inv 69 [.agg p.c,.agg s.c] (·=.n (zam p s)):=by
 have c0:=of_pc hH hI p hp s hs
 have hRl:=zgF p s
 have hRe:=zj2 p s
 rw[←hRe]
 revert c0 hRl
 generalize ofR p s=R
 obtain ⟨G,Z,hg⟩:=zhn
 rw[←hg.eq]
 intro c0 hRl
 have hfold:=hg.fold
 have hlen0:=hg.len (.s0 4) hg.zl hg.zl
 have hlen:=hg.len (.sl 4 (R.ways.map Way.c)) hRl.1 hRl.2
 have hov:=hg.ov (.s0 4) (.sl 4 (R.ways.map Way.c)) hg.zl hg.zl hRl.1 hRl.2
 have hbd0:=hg.bd0 Z Z
 have hbd:=hg.bd R.hold R.ask (R.ways.map Way.c)
 have hba:=hg.ba R.hold R.ask (R.ways.map Way.c)
 refine PC.fn hH cd69 fun w0 M Q hM hE hQ hR=>?_;dsimp only[cd69,qm,ql,qf,qi,qb,qc,qp,qv,qN,qT,qF,qt]at hQ ⊢
 (have hX:=zA @hfold (zA @hlen0 (zA @hlen (zA @hov (zA @hbd0 (zA @hbd @hba)))));(repeat' first|refine zaa [0,1,2,3,4,6] fun K hK=>?_|(refine hK.go ?_;clear hK K)|with_reducible exact wT|refine wA ?_|(refine wB (fun h=>?_) (fun h=>?_)<;>first|exact wN h|subst (h:(_:Bool)=_)|skip)|(refine wQ ?_;clear hQ hR hE hM)|refine wC c0 ?_|fail);all_goals clear hX)
theorem zns {α:Type} (q:α→Bool) (l:List α):decide (0≤zbN q 0 l)=l.any q:=by
 have:∀ (l:List α) (k:Int),0≤k→(decide (0≤zbN q k l)=l.any q):=by
  intro l
  induction l with
  |nil=>intro k _;simp[zbN]
  |cons x r ih =>
   intro k hk
   rw[zbN,List.any_cons]
   cases h:q x with
   |true=>simp[hk]
   |false=>simpa using ih (k+1) (by omega)
 exact this l 0 (Int.le_refl _)
def isSec (p:Pln) (n:Int):Bool:=p.sections.any fun x=>decide (x.id=n)
def zlQ (p:Pln) (n:Int):Bool:=p.points.any fun x=>decide (x.id=n)
def holderR (p:Pln) (s:State) (n:Int):Int×Int:=if zam p s=0 then (if isSec p n=true then (nth (zaJ p s).1 n.toNat,0) else (0,6)) else (0,zam p s)
def askedR (p:Pln) (s:State) (n:Int):Int×Int:=if zam p s=0 then (if zlQ p n=true then (nth (zaJ p s).2.1 n.toNat,0) else (0,6)) else (0,zam p s)
theorem zaQ {p:Pln} {s:State} (h:zam p s=0):OkP p:=by
 unfold zam at h
 split at h
 ·rename_i ho
  simp only[zbq,Bool.and_eq_true]at ho
  exact zhy ho.1
 ·cases h
theorem GC.get1 {G:List Int→List Int→AV→List AV} {Z:List Int} (hg:GC G Z) {H A:List Int} (W:AV) (h:H.length=100) {i:Nat} (hi:i<100):(G H A W)[i]?=some (.n (nth H i)):=by rw[hg.eq];exact znA h hi
theorem GC.get2 {G:List Int→List Int→AV→List AV} {Z:List Int} (hg:GC G Z) {H A:List Int} (W:AV) (h:H.length=100) (h':A.length=100) {i:Nat} (hi:i<100):(G H A W)[100+i]?=some (.n (nth A i)):=by rw[hg.eq];exact gc_get2 h h' hi
end Go.Lev
namespace Go.Lev
open Go.Eng
set_option maxRecDepth 10000
set_option maxHeartbeats 4000000
variable {P:Program} {inv:Nat→Option Nat}
def kept (a b:State):Bool:=zaI keptSw a.switches b.switches&&zaI keptLk a.locks b.locks
end Go.Lev
namespace Go.Lev
open Go.Eng
set_option maxRecDepth 10000
set_option maxHeartbeats 4000000
variable {P:Program} {inv:Nat→Option Nat}
theorem sTwin_po (hH:HasAll P inv) (s:State) (h1:s.tracks.length≤1000000) (h2:s.switches.length≤1000000) (h3:s.locks.length≤1000000):PO P inv 9 [.agg s.c] (.agg [.sm 2 (s.tracks.length*2) 0 s.tracks.length 2,.sm 3 (s.switches.length*3) 0 s.switches.length 3,.sm 4 (s.locks.length*4) 0 s.locks.length 4])
  [(2,.cells (s.tracks.map Track.c).flatten (decide (0<s.tracks.length))),(3,.cells (s.switches.map Switch.c).flatten (decide (0<s.switches.length))),(4,.cells (s.locks.map Lock.c).flatten (decide (0<s.locks.length)))]:=by
 have c1:=zio hH s.tracks h1
 have c2:=zhj hH s.switches h2
 have c3:=zjt hH s.locks h3
 refine PO.fn hH cd9 fun w0 M Q hM hE hQ hR=>?_;dsimp only[cd9,qm,ql,qf,qi,qb,qc,qp,qv,qN,qT,qF,qt]at hQ ⊢
 (repeat' first|refine zaa [0,1,2,11] fun K hK=>?_|(refine hK.go ?_;clear hK K)|with_reducible exact wT|refine wA ?_|(refine wB (fun h=>?_) (fun h=>?_)<;>first|exact wN h|subst (h:(_:Bool)=_)|skip)|(refine wR ?_;clear hQ hR hE hM)|refine wO c1 ?_|refine wO c2 ?_|refine wO c3 ?_|fail)
 left
 constructor
 ·(refine no_implicit_lambda% (st ?_);try with_reducible exact wT)
 ·(refine no_implicit_lambda% (st ?_);try with_reducible exact wT)
end Go.Lev
namespace Go.Lev
open Go.Eng
set_option maxRecDepth 10000
set_option maxHeartbeats 4000000
variable {P:Program} {inv:Nat→Option Nat} {w0:World} {M:Nat→Prop}
def stV (s:State):AV:=.agg [.sm 2 (s.tracks.length*2) 0 s.tracks.length 2,.sm 3 (s.switches.length*3) 0 s.switches.length 3,.sm 4 (s.locks.length*4) 0 s.locks.length 4]
def stR (s:State):List (Nat×AO):=[(2,.cells (s.tracks.map Track.c).flatten (decide (0<s.tracks.length))),(3,.cells (s.switches.map Switch.c).flatten (decide (0<s.switches.length))),(4,.cells (s.locks.map Lock.c).flatten (decide (0<s.locks.length)))]
def zkJ (b:Nat) (s:State):AV:=.agg [.sm b (s.tracks.length*2) 0 s.tracks.length 2,.sm (b+1) (s.switches.length*3) 0 s.switches.length 3,.sm (b+2) (s.locks.length*4) 0 s.locks.length 4]
def zkK (b:Nat) (s:State):List (Nat×AO):=[(b,.cells (s.tracks.map Track.c).flatten (decide (0<s.tracks.length))),(b+1,.cells (s.switches.map Switch.c).flatten (decide (0<s.switches.length))),(b+2,.cells (s.locks.map Lock.c).flatten (decide (0<s.locks.length)))]
theorem ziD (b:Nat) (s:State):zdm 4 (zkK b s) (zkJ b s)=.agg s.c:=by
 have h1:(b+1=b)=False:=by simp
 have h2:(b+2=b)=False:=by simp
 have h3:(b+2=b+1)=False:=by simp
 unfold zkK zkJ
 simp -dsimp -implicitDefEqProofs (disch:=omega) only[go_sem,reduceIte,↓reduceIte,Nat.reduceEqDiff,Nat.reduceLT,Nat.reduceLeDiff,Nat.reduceAdd,Nat.reduceSub,Nat.reduceMul,Int.reduceToNat,Int.reduceLT,Int.reduceLE,Int.reduceEq,Int.reduceNeg,Int.reduceNe,reduceCtorEq,h1,h2,h3,if_false]
theorem ze0 (b:Nat) (s:State) (e:Int):zdm 4 (zkK b s) (.tup [zkJ b s,.n e])=.tup [.agg s.c,.n e]:=by
 rw[zdZ,zbD,zbD,zc9,ziD,sn_i]
theorem zeu (hH:HasAll P inv) (s:State) (hs:SmS s):PO P inv 9 [.agg s.c] (stV s) (stR s):=by
 have:=hs.1
 have:=hs.2.1
 have:=hs.2.2
 exact sTwin_po hH s (by omega) (by omega) (by omega)
def State.z:State:=⟨[],[],[]⟩
def atS (p:Pln):State:=⟨p.sections.map fun x=>⟨x.id,2⟩,p.points.map fun x=>⟨x.id,0,0⟩,p.routes.map fun x=>⟨x.id,0,0,0⟩⟩
def atR (p:Pln):State:=if zbq p=true then atS p else State.z
theorem sAt_po (hH:HasAll P inv) (hI:HasIds P inv) (p:Pln) (hp:Sm p) (ho:zbq p=true):PO P inv 65 [.agg p.c] (.tup [stV (atS p),.n 0]) (stR (atS p)):=by
 have c0:=zel hH hI p hp
 rw[show zdl p=0 by unfold zdl;rw[if_pos ho]]at c0
 have h1:=hp.sec
 have h2:=hp.pts
 have h3:=hp.rte
 refine PO.fn hH cd65 fun w0 M Q hM hE hQ hR=>?_;dsimp only[cd65,qm,ql,qf,qi,qb,qc,qp,qv,qN,qT,qF,qt]at hQ ⊢
 (repeat' first|refine zaa [0,1,2,3,5,7,9,13,15,16,17,18,31,32,33,34,47,48,49,50] fun K hK=>?_|(refine hK.go ?_;clear hK K)|with_reducible exact wT|refine wA ?_|(refine wB (fun h=>?_) (fun h=>?_)<;>first|exact wN h|subst (h:(_:Bool)=_)|skip)|(refine wR ?_;clear hQ hR hE hM)|refine wC c0 ?_|fail)
 all_goals first|(exfalso;contradiction)|skip
 refine zcU 1 0 2 2 rfl rfl (Nat.zero_le _) (by (refine no_implicit_lambda% (st ?_);try with_reducible exact wT)) (by (refine no_implicit_lambda% (st ?_);try with_reducible exact wT)) ?_
 refine zcU 1 1 3 3 rfl rfl (Nat.zero_le _) (by (refine no_implicit_lambda% (st ?_);try with_reducible exact wT)) (by (refine no_implicit_lambda% (st ?_);try with_reducible exact wT)) ?_
 refine zcU 1 2 4 4 rfl rfl (Nat.zero_le _) (by (refine no_implicit_lambda% (st ?_);try with_reducible exact wT)) (by (refine no_implicit_lambda% (st ?_);try with_reducible exact wT)) ?_
 (refine no_implicit_lambda% (st ?_);try with_reducible exact wT)
 refine zas (ι:=Nat×(List Track)) [1,2,3,15,16,17] (fun z=>[(17,.n z.1)]) (fun z=>[(1,.cells [.sm 2 (z.2.length*2) 0 z.2.length 2,.sm 3 0 0 0 3,.sm 4 0 0 0 4] true),(2,.cells (z.2.map Track.c).flatten (decide (0<z.2.length)))]) (fun z=>z.1) (p.sections.length) (fun z=>(z.2.length=z.1)∧(z.2++(p.sections.drop z.1).map (fun x=>(⟨x.id,2⟩:Track))=(atS p).tracks)) (0,([]:List Track)) ?_;rintro ⟨k,ts⟩ ⟨hk,hl,hg⟩;(try dsimp only at hk hl hg ⊢);rcases Nat.lt_or_ge k p.sections.length with hlt|hge
 ·rw[zak hlt,List.map_cons]at hg
  (repeat' first|refine zaa [0,1,2,3,5,7,9,13,15,16,17,18,31,32,33,34,47,48,49,50] fun K hK=>?_|(refine hK.go ?_;clear hK K)|with_reducible exact wT|refine wA ?_|(refine wB (fun h=>?_) (fun h=>?_)<;>first|exact wN h|subst (h:(_:Bool)=_)|skip)|(refine wR ?_;clear hQ hR hE hM)|fail)
  exact nY (k+1,ts++[⟨(nth p.sections k).id,2⟩]) ⟨by (try dsimp only);omega,by (try dsimp only);simp[hl],by (try dsimp only);rw[←hg];simp⟩
 ·rw[List.drop_eq_nil_of_le hge,List.map_nil,List.append_nil]at hg
  (repeat' first|refine zaa [0,1,2,3,5,7,9,13,15,16,17,18,31,32,33,34,47,48,49,50] fun K hK=>?_|(refine hK.go ?_;clear hK K)|with_reducible exact wT|refine wA ?_|(refine wB (fun h=>?_) (fun h=>?_)<;>first|exact wN h|subst (h:(_:Bool)=_)|skip)|(refine wR ?_;clear hQ hR hE hM)|fail)
  refine zas (ι:=Nat×(List Switch)) [1,2,3,31,32,33] (fun z=>[(33,.n z.1)]) (fun z=>[(1,.cells [.sm 2 (ts.length*2) 0 ts.length 2,.sm 3 (z.2.length*3) 0 z.2.length 3,.sm 4 0 0 0 4] true),(3,.cells (z.2.map Switch.c).flatten (decide (0<z.2.length)))]) (fun z=>z.1) (p.points.length) (fun z=>(z.2.length=z.1)∧(z.2++(p.points.drop z.1).map (fun x=>(⟨x.id,0,0⟩:Switch))=(atS p).switches)) (0,([]:List Switch)) ?_;rintro ⟨k2,ss⟩ ⟨hk,hl2,hg2⟩;(try dsimp only at hk hl2 hg2 ⊢);rcases Nat.lt_or_ge k2 p.points.length with hlt|hge
  ·rw[zak (by assumption),List.map_cons]at hg2
   (repeat' first|refine zaa [0,1,2,3,5,7,9,13,15,16,17,18,31,32,33,34,47,48,49,50] fun K hK=>?_|(refine hK.go ?_;clear hK K)|with_reducible exact wT|refine wA ?_|(refine wB (fun h=>?_) (fun h=>?_)<;>first|exact wN h|subst (h:(_:Bool)=_)|skip)|(refine wR ?_;clear hQ hR hE hM)|fail)
   exact nY (k2+1,ss++[⟨(nth p.points k2).id,0,0⟩]) ⟨by (try dsimp only);omega,by (try dsimp only);simp[hl2],by (try dsimp only);rw[←hg2];simp⟩
  ·rw[List.drop_eq_nil_of_le (by assumption),List.map_nil,List.append_nil]at hg2
   (repeat' first|refine zaa [0,1,2,3,5,7,9,13,15,16,17,18,31,32,33,34,47,48,49,50] fun K hK=>?_|(refine hK.go ?_;clear hK K)|with_reducible exact wT|refine wA ?_|(refine wB (fun h=>?_) (fun h=>?_)<;>first|exact wN h|subst (h:(_:Bool)=_)|skip)|(refine wR ?_;clear hQ hR hE hM)|fail)
   refine zas (ι:=Nat×(List Lock)) [2,3,47,48,49] (fun z=>[(49,.n z.1)]) (fun z=>[(1,.cells [.sm 2 (ts.length*2) 0 ts.length 2,.sm 3 (ss.length*3) 0 ss.length 3,.sm 4 (z.2.length*4) 0 z.2.length 4] true),(4,.cells (z.2.map Lock.c).flatten (decide (0<z.2.length)))]) (fun z=>z.1) (p.routes.length) (fun z=>(z.2.length=z.1)∧(z.2++(p.routes.drop z.1).map (fun x=>(⟨x.id,0,0,0⟩:Lock))=(atS p).locks)) (0,([]:List Lock)) ?_;rintro ⟨k3,ls⟩ ⟨hk,hl3,hg3⟩;(try dsimp only at hk hl3 hg3 ⊢);rcases Nat.lt_or_ge k3 p.routes.length with hlt|hge
   ·rw[zak (by assumption),List.map_cons]at hg3
    (repeat' first|refine zaa [0,1,2,3,5,7,9,13,15,16,17,18,31,32,33,34,47,48,49,50] fun K hK=>?_|(refine hK.go ?_;clear hK K)|with_reducible exact wT|refine wA ?_|(refine wB (fun h=>?_) (fun h=>?_)<;>first|exact wN h|subst (h:(_:Bool)=_)|skip)|(refine wR ?_;clear hQ hR hE hM)|fail)
    exact nY (k3+1,ls++[⟨(nth p.routes k3).id,0,0,0⟩]) ⟨by (try dsimp only);omega,by (try dsimp only);simp[hl3],by (try dsimp only);rw[←hg3];simp⟩
   ·rw[List.drop_eq_nil_of_le (by assumption),List.map_nil,List.append_nil]at hg3
    (repeat' first|refine zaa [0,1,2,3,5,7,9,13,15,16,17,18,31,32,33,34,47,48,49,50] fun K hK=>?_|(refine hK.go ?_;clear hK K)|with_reducible exact wT|refine wA ?_|(refine wB (fun h=>?_) (fun h=>?_)<;>first|exact wN h|subst (h:(_:Bool)=_)|skip)|(refine wR ?_;clear hQ hR hE hM)|fail)
    left
    unfold stV stR
    rw[←hg,←hg2,←hg3]
    constructor
    ·(refine no_implicit_lambda% (st ?_);try with_reducible exact wT)
    ·(refine no_implicit_lambda% (st ?_);try with_reducible exact wT)
end Go.Lev
namespace Go.Lev
open Go.Eng
set_option maxRecDepth 10000
set_option maxHeartbeats 4000000
variable {P:Program} {inv:Nat→Option Nat} {w0:World} {M:Nat→Prop}
section upd
variable {α:Type} [Inhabited α]
def zfO (f:Nat→α→α) (k:Nat) (l:List α):List α:=(l.mapIdx f).take k++l.drop k
theorem zcq (f:Nat→α→α) (k:Nat) (l:List α):(zfO f k l).length=l.length:=by simp[zfO];omega
theorem zmo (f:Nat→α→α) (l:List α):zfO f 0 l=l:=by simp[zfO]
theorem zhN (f:Nat→α→α) {k:Nat} {l:List α} (h:l.length≤k):zfO f k l=l.mapIdx f:=by
 unfold zfO
 rw[List.take_of_length_le (by simpa using h),List.drop_eq_nil_of_le h,List.append_nil]
theorem zdF (f:Nat→α→α) {k:Nat} {l:List α} (h:k<l.length):nth (zfO f k l) k=nth l k:=by
 rw[zaW (by rw[zcq];exact h),zaW h]
 unfold zfO
 rw[List.getElem_append_right (by simp;omega)]
 simp[Nat.min_eq_left (Nat.le_of_lt h)]
theorem zfN (f:Nat→α→α) {k:Nat} {l:List α} (h:k<l.length):(zfO f k l).set k (f k (nth l k))=zfO f (k+1) l:=by
 unfold zfO
 rw[List.set_append_right _ _ (by simp;omega),List.length_take,List.length_mapIdx,Nat.min_eq_left (Nat.le_of_lt h),Nat.sub_self,zak h,List.set_cons_zero]
 rw[show (l.mapIdx f).take (k+1)=(l.mapIdx f).take k++[f k (nth l k)] by
  rw[List.take_succ_eq_append_getElem (by simpa using h),List.getElem_mapIdx,zaW h]]
 simp
attribute [go_sem] zmo zcq
end upd
def imgT (_:Nat) (t:Track):Track:=⟨t.id,2⟩
def imgW (_:Nat) (x:Switch):Switch:=⟨x.id,0,x.call⟩
def imgK (p:Pln) (i:Nat) (l:Lock):Lock:=if 0<l.left then ⟨l.id,l.phase,l.gone,(nth p.routes i).timer⟩ else l
def imgS (p:Pln) (s:State):State:=⟨s.tracks.mapIdx imgT,s.switches.mapIdx imgW,s.locks.mapIdx (imgK p)⟩
theorem zaw {p:Pln} {s:State} (h:zan p s=true):s.tracks.length=p.sections.length∧s.switches.length=p.points.length∧s.locks.length=p.routes.length:=by
 simp only[zan,Bool.and_eq_true]at h
 exact ⟨zbx h.1,zbx h.2.1,zbx h.2.2⟩
theorem zaf {p:Pln} {s:State} (h:zam p s=0):zbq p=true∧zan p s=true∧(zaJ p s).2.2=true:=by
 unfold zam at h
 split at h
 ·rename_i h1
  split at h
  ·rename_i h2;exact ⟨h1,h2⟩
  ·cases h
 ·cases h
def imageR (p:Pln) (s:State):State:=if zam p s=0 then imgS p s else State.z
end Go.Lev
namespace Go.Lev
open Go.Eng
abbrev WL:=WayR×Lock
def hdl (z:WL):List Int:=zbm z.1 z.2
def asl (z:WL):List AskR:=(zbw z.1 z.2).filter (zcS z.2)
theorem zhB (n:Int) (hn:n≠0):∀ (l H:List Int) (t:Bool),H.length=100→(∀ s∈l,0≤s∧s≤99) →
  ((zbl n l H t).2=true↔t=true∧(∀ s∈l,nth H s.toNat=0)∧l.Nodup) ∧
  ((zbl n l H t).2=true→(∀ s∈l,nth (zbl n l H t).1 s.toNat=n)∧∀ k:Nat,(∀ s∈l,s.toNat≠k)→nth (zbl n l H t).1 k=nth H k)
 |[],H,t,_,_=>by simp[zbl]
 |s::r,H,t,hH,hs=>by
  rw[zbl]
  have h0:=hs s (by simp)
  split
  ·rename_i hc
   obtain ⟨rfl,hc⟩:=hc
   have ih:=zhB n hn r (H.set s.toNat n) true (by simpa using hH) fun x hx=>hs x (by simp[hx])
   have key:(∀ x∈r,nth (H.set s.toNat n) x.toNat=0)↔(∀ x∈r,nth H x.toNat=0)∧s∉r:=by
    constructor
    ·intro h
     have hne:∀ x∈r,x≠s:=fun x hx e=>by
      have:=h x hx
      rw[e,zbk _ _ _ _ (by omega),if_pos rfl]at this
      exact hn this
     refine ⟨fun x hx=>?_,fun hx=>hne s hx rfl⟩
     have h1:=h x hx
     have h2:=hs x (by simp[hx])
     rw[zbk _ _ _ _ (by omega),if_neg (by have:=hne x hx;omega)]at h1
     exact h1
    ·rintro ⟨h1,h2⟩ x hx
     have h3:=hs x (by simp[hx])
     rw[zbk _ _ _ _ (by omega),if_neg (fun e=>h2 (by rw[show s=x by omega];exact hx))]
     exact h1 x hx
   refine ⟨?_, ?_⟩
   ·rw[ih.1,key]
    simp only[List.mem_cons,forall_eq_or_imp,List.nodup_cons,true_and]
    constructor
    ·rintro ⟨⟨h1,h2⟩,h3⟩;exact ⟨⟨hc,h1⟩,h2,h3⟩
    ·rintro ⟨⟨_,h1⟩,h2,h3⟩;exact ⟨⟨h1,h2⟩,h3⟩
   ·intro ht
    have h2:=ih.2 ht
    have h3:=(ih.1.1 ht).2
    rw[key]at h3
    refine ⟨fun x hx=>?_,fun k hk=>?_⟩
    ·rcases List.mem_cons.1 hx with rfl|hx
     ·rw[h2.2 _ (fun y hy e=>h3.1.2 (by have:=hs y (by simp[hy]);rw[show x=y by omega];exact hy)),zbk _ _ _ _ (by omega),if_pos rfl]
     ·exact h2.1 x hx
    ·rw[h2.2 k fun y hy=>hk y (by simp[hy]),zbk _ _ _ _ (by omega),if_neg (fun e=>hk s (by simp) e.symm)]
  ·rename_i hc
   refine ⟨?_,fun h=>by cases h⟩
   simp only[Bool.false_eq_true,false_iff,not_and]
   intro ht h1
   exact absurd ⟨ht,h1 s (by simp)⟩ hc
theorem zeT (l:Lock) (C:List (Int×Int)):∀ (q:List AskR) (A:List Int) (t:Bool),A.length=100→(∀ a∈q,0≤a.pnt∧a.pnt≤99) →
  ((zd6 l C q A t).2=true↔t=true∧∀ a∈q.filter (zcS l),zeW C a.pnt=a.lie) ∧
  ((zd6 l C q A t).2=true→(∀ a∈q.filter (zcS l),nth (zd6 l C q A t).1 a.pnt.toNat=a.lie)∧∀ k:Nat,(∀ a∈q.filter (zcS l),a.pnt.toNat≠k)→nth (zd6 l C q A t).1 k=nth A k)
 |[],A,t,_,_=>by simp[zd6]
 |a::r,A,t,hA,hs=>by
  rw[zd6]
  have h0:=hs a (by simp)
  by_cases ho:zcS l a=true
  ·rw[if_pos ho,List.filter_cons_of_pos ho]
   split
   ·rename_i hc
    obtain ⟨rfl,hc⟩:=hc
    have ih:=zeT l C r (A.set a.pnt.toNat a.lie) true (by simpa using hA) fun x hx=>hs x (by simp[hx])
    refine ⟨?_, ?_⟩
    ·rw[ih.1]
     simp only[List.mem_cons,forall_eq_or_imp,true_and]
     exact ⟨fun h=>⟨hc,h⟩,fun h=>h.2⟩
    ·intro ht
     have h2:=ih.2 ht
     have h3:=(ih.1.1 ht).2
     refine ⟨fun x hx=>?_,fun k hk=>?_⟩
     ·rcases List.mem_cons.1 hx with rfl|hx
      ·rcases Classical.em (∃ y∈r.filter (zcS l),y.pnt.toNat=x.pnt.toNat) with ⟨y,hy,e⟩|h4
       ·have h5:=hs y (by simp[(List.mem_filter.1 hy).1])
        have h6:=h2.1 y hy
        rw[e]at h6
        rw[h6,←h3 y hy,←hc,show y.pnt=x.pnt by omega]
       ·rw[h2.2 _ (fun y hy e=>h4 ⟨y,hy,e⟩),zbk _ _ _ _ (by omega),if_pos rfl]
      ·exact h2.1 x hx
     ·rw[h2.2 k fun y hy=>hk y (by simp[hy]),zbk _ _ _ _ (by omega),if_neg (fun e=>hk a (by simp) e.symm)]
   ·rename_i hc
    refine ⟨?_,fun h=>by cases h⟩
    simp only[Bool.false_eq_true,false_iff,not_and]
    intro ht h1
    exact absurd ⟨ht,h1 a (by simp)⟩ hc
  ·rw[if_neg ho,List.filter_cons_of_neg ho]
   exact zeT l C r A t hA fun x hx=>hs x (by simp[hx])
def zed (C:List (Int×Int)):List WL→List Int→List Int→Bool→List Int×List Int×Bool
 |[],H,A,t=>(H,A,t)
 |z::r,H,A,t=>zed C r (zbl z.2.id (zbm z.1 z.2) H t).1 (zd6 z.2 C (zbw z.1 z.2) A (zbl z.2.id (zbm z.1 z.2) H t).2).1 (zd6 z.2 C (zbw z.1 z.2) A (zbl z.2.id (zbm z.1 z.2) H t).2).2
theorem znv (ws:List WayR) (C:List (Int×Int)):∀ (l:List Lock) (i:Nat) (H A:List Int) (t:Bool),i+l.length=ws.length→zdu ws C i l H A t=zed C ((ws.drop i).zip l) H A t
 |[],i,H,A,t,_=>by rw[zdu,List.zip_nil_right,zed]
 |x::r,i,H,A,t,h=>by
  simp only[List.length_cons]at h
  rw[zdu,zak (show i<ws.length by omega),List.zip_cons_cons,zed,znv ws C r (i+1) _ _ _ (by omega)]
structure ZOk (Z:List WL):Prop where
 id:∀ z∈Z,z.2.id≠0
 sec:∀ z∈Z,∀ n∈hdl z,0≤n∧n≤99
 pnt:∀ z∈Z,∀ a∈zbw z.1 z.2,0≤a.pnt∧a.pnt≤99
theorem zki (C:List (Int×Int)):∀ (Z:List WL) (H A:List Int),(zed C Z H A false).2.2=false
 |[],H,A=>rfl
 |z::r,H,A=>by
  rw[zed]
  have h1:(zbl z.2.id (zbm z.1 z.2) H false).2=false:=by
   cases zbm z.1 z.2 with
   |nil=>rfl
   |cons s q=>rw[zbl,if_neg (by simp)]
  have h2:∀ q:List AskR,(zd6 z.2 C q A false).2=false:=by
   intro q
   induction q with
   |nil=>rfl
   |cons a q ih =>
    rw[zd6]
    split
    ·rw[if_neg (by simp)]
    ·exact ih
  rw[h1,h2]
  exact zki C r _ _
theorem zdO (C:List (Int×Int)):∀ (Z:List WL) (H A:List Int),ZOk Z→H.length=100→A.length=100 →
  ((zed C Z H A true).2.2=true↔(∀ z∈Z,(∀ n∈hdl z,nth H n.toNat=0)∧(hdl z).Nodup∧∀ a∈asl z,zeW C a.pnt=a.lie)∧Z.Pairwise fun z z'=>∀ n∈hdl z,n∉hdl z') ∧
  ((zed C Z H A true).2.2=true→(∀ z∈Z,(∀ n∈hdl z,nth (zed C Z H A true).1 n.toNat=z.2.id)∧∀ a∈asl z,nth (zed C Z H A true).2.1 a.pnt.toNat=a.lie) ∧
   (∀ k:Nat,(∀ z∈Z,∀ n∈hdl z,n.toNat≠k)→nth (zed C Z H A true).1 k=nth H k)∧(∀ k:Nat,(∀ z∈Z,∀ a∈asl z,a.pnt.toNat≠k)→nth (zed C Z H A true).2.1 k=nth A k))
 |[],H,A,_,_,_=>by simp[zed]
 |z::r,H,A,hZ,hH,hA=>by
  have hZr:ZOk r:=⟨fun y hy=>hZ.id y (by simp[hy]),fun y hy=>hZ.sec y (by simp[hy]),fun y hy=>hZ.pnt y (by simp[hy])⟩
  have hs:=zhB z.2.id (hZ.id z (by simp)) (zbm z.1 z.2) H true hH (hZ.sec z (by simp))
  have hse:∀ n∈hdl z,0≤n∧n≤99:=hZ.sec z (by simp)
  have hlen:=zeJ z.2.id (zbm z.1 z.2) H true
  rw[zed]
  rw[show zbm z.1 z.2=hdl z from rfl]at hs hlen ⊢
  revert hs hlen
  generalize zbl z.2.id (hdl z) H true=HT
  intro hs hlen
  cases ht:HT.2 with
  |false =>
   have hf:(zd6 z.2 C (zbw z.1 z.2) A false).2=false:=by
    have:=(zeT z.2 C (zbw z.1 z.2) A false hA (hZ.pnt z (by simp))).1
    cases h:(zd6 z.2 C (zbw z.1 z.2) A false).2 with
    |false=>rfl
    |true=>have:=(this.1 h).1;cases this
   rw[hf,zki]
   refine ⟨?_,fun h=>by cases h⟩
   simp only[Bool.false_eq_true,false_iff,not_and]
   intro h1 _
   have h2:=h1 z (by simp)
   have h3:=hs.1.2 ⟨rfl,h2.1,h2.2.1⟩
   rw[ht]at h3
   cases h3
  |true =>
   have hs1:=(hs.1.1 ht).2
   have hs2:=hs.2 ht
   have ha:=zeT z.2 C (zbw z.1 z.2) A true hA (hZ.pnt z (by simp))
   have hpn:=hZ.pnt z (by simp)
   have halen:=zeU z.2 C (zbw z.1 z.2) A true
   rw[show (zbw z.1 z.2).filter (zcS z.2)=asl z from rfl]at ha
   revert ha halen
   generalize zd6 z.2 C (zbw z.1 z.2) A true=AT
   intro ha halen
   cases hat:AT.2 with
   |false =>
    rw[zki]
    refine ⟨?_,fun h=>by cases h⟩
    simp only[Bool.false_eq_true,false_iff,not_and]
    intro h1 _
    have h3:=ha.1.2 ⟨rfl,(h1 z (by simp)).2.2⟩
    rw[hat]at h3
    cases h3
   |true =>
    have ha1:=(ha.1.1 hat).2
    have ha2:=ha.2 hat
    have ih:=zdO C r HT.1 AT.1 hZr (by omega) (by omega)
    have key:∀ y∈r,((∀ n∈hdl y,nth HT.1 n.toNat=0)↔(∀ n∈hdl y,nth H n.toNat=0)∧∀ n∈hdl z,n∉hdl y):=by
     intro y hy
     constructor
     ·intro h
      have hne:∀ n∈hdl z,n∉hdl y:=fun n hn hny=>by
       have:=h n hny
       rw[hs2.1 n hn]at this
       exact hZ.id z (by simp) this
      refine ⟨fun n hn=>?_,hne⟩
      have:=h n hn
      rw[hs2.2 _ (fun m hm e=>hne m hm (by have:=hse m hm;have:=hZ.sec y (by simp[hy]) n hn;rw[show m=n by omega];exact hn))]at this
      exact this
     ·rintro ⟨h1,h2⟩ n hn
      rw[hs2.2 _ (fun m hm e=>h2 m hm (by have:=hse m hm;have:=hZ.sec y (by simp[hy]) n hn;rw[show m=n by omega];exact hn))]
      exact h1 n hn
    refine ⟨?_, ?_⟩
    ·rw[ih.1]
     simp only[List.mem_cons,forall_eq_or_imp,List.pairwise_cons]
     constructor
     ·rintro ⟨h1,h2⟩
      refine ⟨⟨⟨hs1.1,hs1.2,ha1⟩,fun y hy=>⟨((key y hy).1 (h1 y hy).1).1,(h1 y hy).2⟩⟩,fun y hy=>((key y hy).1 (h1 y hy).1).2,h2⟩
     ·rintro ⟨⟨_,h1⟩,h3,h2⟩
      exact ⟨fun y hy=>⟨(key y hy).2 ⟨(h1 y hy).1,h3 y hy⟩,(h1 y hy).2⟩,h2⟩
    ·intro hg
     have h1:=ih.2 hg
     have h2:=ih.1.1 hg
     refine ⟨?_, ?_, ?_⟩
     ·intro y hy
      rcases List.mem_cons.1 hy with rfl|hy
      ·refine ⟨fun n hn=>?_,fun a haa=>?_⟩
       ·rw[h1.2.1 n.toNat fun x hx m hm e=>?_]
        ·exact hs2.1 n hn
        ·have h5:=((key x hx).1 (h2.1 x hx).1).2 n hn
         have:=hse n hn
         have:=hZ.sec x (by simp[hx]) m hm
         exact h5 (by rw[show n=m by omega];exact hm)
       ·have hpa:=hpn a (List.mem_filter.1 haa).1
        rcases Classical.em (∃ x∈r,∃ b∈asl x,b.pnt.toNat=a.pnt.toNat) with ⟨x,hx,b,hb,e⟩|h4
        ·have hpb:=hZ.pnt x (by simp[hx]) b (List.mem_filter.1 hb).1
         rw[←e,(h1.1 x hx).2 b hb,←(h2.1 x hx).2.2 b hb,←ha1 a haa,show b.pnt=a.pnt by omega]
        ·rw[h1.2.2 _ fun x hx b hb e=>h4 ⟨x,hx,b,hb,e⟩]
         exact ha2.1 a haa
      ·exact h1.1 y hy
     ·intro k hk
      rw[h1.2.1 k fun y hy=>hk y (by simp[hy])]
      exact hs2.2 k fun n hn=>hk z (by simp) n hn
     ·intro k hk
      rw[h1.2.2 k fun y hy=>hk y (by simp[hy])]
      exact ha2.2 k fun a haa=>hk z (by simp) a haa
end Go.Lev
namespace Go.Lev
open Go.Eng
theorem zeF (C:List (Int×Int)) (k v k':Int):zeW (zj6 C k v) k'=if k'=k then v else zeW C k':=by
 induction C with
 |nil=>simp[zj6,zeW]
 |cons q r ih =>
  rw[zj6]
  split
  ·rename_i h;subst h;simp only[zeW];split<;>rfl
  ·rename_i h
   simp only[zeW,ih]
   by_cases h1:k'=q.1
   ·rw[if_pos h1,if_pos h1,if_neg (by omega)]
   ·rw[if_neg h1,if_neg h1]
theorem zhz:∀ (l:List Switch) (C:List (Int×Int)) (k:Int),(∀ x∈l,x.id≠k)→zeW (zfV C l) k=zeW C k
 |[],_,_,_=>rfl
 |x::r,C,k,h=>by
  rw[zfV,zhz r _ k fun y hy=>h y (by simp[hy]),zeF,if_neg (fun e=>h x (by simp) e.symm)]
theorem zj8:∀ (l:List Switch) (C:List (Int×Int)),(l.map Switch.id).Nodup→∀ x∈l,zeW (zfV C l) x.id=x.call
 |[],_,_,x,h=>by cases h
 |y::r,C,hn,x,hx=>by
  simp only[List.map_cons,List.nodup_cons]at hn
  rw[zfV]
  rcases List.mem_cons.1 hx with rfl|hx
  ·rw[zhz r _ _ fun z hz e=>hn.1 (by rw[←e];exact List.mem_map_of_mem hz),zeF,if_pos rfl]
  ·exact zj8 r _ hn.2 x hx
def zb6 (s:State) (n:Int):Int:=zeW (zfV [] s.switches) n
def zof (p:Pln) (s:State):List WL:=(zaD p).zip s.locks
theorem zdD {α β:Type} {q:α→β→Bool} {f:α→Int} {g:β→Int} (hq:∀ x y,q x y=true→f x=g y):∀ {a:List α} {b:List β},zaI q a b=true→a.map f=b.map g
 |[],[],_=>rfl
 |[],_::_,h=>by simp[zaI]at h
 |_::_,[],h=>by simp[zaI]at h
 |x::xs,y::ys,h=>by
  simp only[zaI,Bool.and_eq_true]at h
  simp only[List.map_cons,zdD hq h.2,hq x y h.1]
theorem trk_ids {p:Pln} {s:State} (h:zan p s=true):s.tracks.map Track.id=p.sections.map Section.id:=by
 simp only[zan,Bool.and_eq_true]at h
 exact zdD (fun x y h=>by simp only[zix,Bool.and_eq_true,decide_eq_true_eq]at h;exact h.1) h.1
theorem zdk {p:Pln} {s:State} (h:zan p s=true):s.switches.map Switch.id=p.points.map Pnt.id:=by
 simp only[zan,Bool.and_eq_true]at h
 exact zdD (fun x y h=>by simp only[ziA,Bool.and_eq_true,decide_eq_true_eq]at h;exact h.1) h.2.1
theorem lck_ids {p:Pln} {s:State} (h:zan p s=true):s.locks.map Lock.id=p.routes.map Rte.id:=by
 simp only[zan,Bool.and_eq_true]at h
 exact zdD (fun x y h=>by simp only[zcj,Bool.and_eq_true,decide_eq_true_eq]at h;exact h.1) h.2.2
theorem zdo {p:Pln} (h:OkP p):(p.points.map Pnt.id).Nodup:=by
 have hp:=h.pts
 simp only[points,Bool.and_eq_true]at hp
 exact zhZ hp.1
theorem zmM {p:Pln} (h:OkP p):(p.routes.map Rte.id).Nodup:=zhZ h.rise
theorem zmK {p:Pln} (h:OkP p):(p.sections.map Section.id).Nodup:=zia (secIds h.sec)
theorem ziP {p:Pln} (h:OkP p) {r:Rte} (hr:r∈p.routes):1≤r.id∧r.id≤99:=((zfS _ _).1 h.rise).1 r.id (List.mem_map_of_mem hr)
theorem zbf {p:Pln} (h:zbq p=true):OkP p∧(∀ r∈p.routes,(zah p r).2.2=0)∧∀ r∈p.routes,zct p r=true:=by
 simp only[zbq,Bool.and_eq_true]at h
 refine ⟨zhy h.1,fun r hr=>?_,fun r hr=>?_⟩
 ·simpa using (List.all_eq_true.1 h.2.1) r hr
 ·exact (List.all_eq_true.1 h.2.2) r hr
theorem znZ {p:Pln} {s:State} (ho:OkP p) (h:zan p s=true) {x:Switch} (hx:x∈s.switches):zb6 s x.id=x.call :=
 zj8 _ _ (by rw[zdk h];exact zdo ho) x hx
theorem zeX {p:Pln} {s:State} (h:zan p s=true) {z:WL} (hz:z∈zof p s):∃ i,∃ r∈p.routes,i<p.routes.length∧nth p.routes i=r∧nth s.locks i=z.2∧z.2∈s.locks∧z.1=(zah p r).1∧zcj z.2 r=true:=by
 have hl:=zaw h
 simp only[zan,Bool.and_eq_true]at h
 obtain ⟨i,hi,e⟩:=List.mem_iff_getElem.1 hz
 have hi1:i<p.routes.length:=by simp only[zof,List.length_zip,zaD,List.length_map]at hi;omega
 have hi2:i<s.locks.length:=by omega
 have e1:z.1=(zah p (nth p.routes i)).1:=by
  rw[←e];simp[zof,zaD,zaW hi1]
 have e2:nth s.locks i=z.2:=by
  rw[←e];simp[zof,zaW hi2]
 refine ⟨i,nth p.routes i,zai hi1,hi1,rfl,e2,by rw[←e2];exact zai hi2,e1, ?_⟩
 rw[←e2]
 exact zeh h.2.2 hi2
theorem zof_at {p:Pln} {s:State} (h:zan p s=true) {i:Nat} (hi:i<p.routes.length):((zah p (nth p.routes i)).1,nth s.locks i)∈zof p s:=by
 have hl:=zaw h
 have hi2:i<s.locks.length:=by omega
 rw[List.mem_iff_getElem]
 refine ⟨i,by simp[zof,zaD];omega, ?_⟩
 simp[zof,zaD,zaW hi,zaW hi2]
theorem zkB {p:Pln} {s:State} (ho:zbq p=true) (h:zan p s=true):ZOk (zof p s):=by
 obtain ⟨hok,hw,_⟩:=zbf ho
 refine ⟨fun z hz=>?_,fun z hz n hn=>?_,fun z hz a ha=>?_⟩
 ·obtain ⟨i,r,hr,_,_,_,_,_,hl⟩:=zeX h hz
  simp only[zcj,Bool.and_eq_true,decide_eq_true_eq]at hl
  have:=ziP hok hr
  omega
 ·obtain ⟨i,r,hr,_,_,_,_,e,hl⟩:=zeX h hz
  have hp:=zbP (hw r hr)
  unfold hdl zbm at hn
  split at hn
  ·simp at hn
  ·have h1:n∈r.path++r.over:=by
    rw[e,hp.1,hp.2.1]at hn
    rcases List.mem_append.1 hn with h2|h2
    ·exact List.mem_append.2 (.inl (List.mem_of_mem_drop h2))
    ·exact List.mem_append.2 (.inr h2)
   obtain ⟨q,hq,rfl⟩:=(zew hok hr).1 n h1
   have:=zet hok hq
   omega
 ·obtain ⟨i,r,hr,_,_,_,_,e,hl⟩:=zeX h hz
  unfold zbw at ha
  split at ha
  ·simp at ha
  ·rw[e]at ha
   have:=zbt hok hr ha
   omega
theorem znt {p:Pln} {s:State} (ho:zbq p=true) (h:zan p s=true) {z:WL} (hz:z∈zof p s):(hdl z).Nodup:=by
 obtain ⟨hok,hw,_⟩:=zbf ho
 obtain ⟨i,r,hr,_,_,_,_,e,_⟩:=zeX h hz
 have hp:=zbP (hw r hr)
 unfold hdl zbm
 split
 ·simp
 ·rw[e,hp.1,hp.2.1]
  have:=(zew hok hr).2
  exact List.Nodup.sublist (List.Sublist.append (List.drop_sublist _ _) (List.Sublist.refl _)) this
theorem zkh {p:Pln} {s:State} (h:zan p s=true):zaJ p s=zed (zfV [] s.switches) (zof p s) zcB zcB true:=by
 unfold zaJ zof
 rw[znv _ _ _ _ _ _ _ (by have:=zaw h;simp[zaD];omega),List.drop_zero]
theorem zhL (k:Nat):nth zcB k=0:=by
 rcases Nat.lt_or_ge k 100 with h|h
 ·exact zgG _ _ _ h
 ·unfold zcB nth;rw[getElem!_neg _ _ (by simp;omega)];rfl
def zkA (Z:List WL):Prop:=Z.Pairwise fun z z'=>∀ n∈hdl z,n∉hdl z'
def zlo (s:State) (Z:List WL):Prop:=∀ z∈Z,∀ a∈asl z,zb6 s a.pnt=a.lie
theorem ze1 (p:Pln) (s:State):zam p s=0↔zbq p=true∧zan p s=true∧zkA (zof p s)∧zlo s (zof p s):=by
 constructor
 ·intro h
  obtain ⟨h1,h2,h3⟩:=zaf h
  rw[zkh h2]at h3
  have:=((zdO _ _ _ _ (zkB h1 h2) zbb zbb).1).1 h3
  exact ⟨h1,h2,this.2,fun z hz a ha=>(this.1 z hz).2.2 a ha⟩
 ·rintro ⟨h1,h2,h3,h4⟩
  unfold zam
  have h5:(zaJ p s).2.2=true:=by
   rw[zkh h2]
   exact ((zdO _ _ _ _ (zkB h1 h2) zbb zbb).1).2 ⟨fun z hz=>⟨fun n _=>zhL _,znt h1 h2 hz,h4 z hz⟩,h3⟩
  rw[if_pos h1,if_pos ⟨h2,h5⟩]
section
variable {p:Pln} {s:State} (h:zam p s=0)
include h
theorem zgJ:(∀ z∈zof p s,(∀ n∈hdl z,nth (zaJ p s).1 n.toNat=z.2.id)∧∀ a∈asl z,nth (zaJ p s).2.1 a.pnt.toNat=a.lie) ∧
  (∀ k:Nat,(∀ z∈zof p s,∀ n∈hdl z,n.toNat≠k)→nth (zaJ p s).1 k=0)∧(∀ k:Nat,(∀ z∈zof p s,∀ a∈asl z,a.pnt.toNat≠k)→nth (zaJ p s).2.1 k=0):=by
 obtain ⟨h1,h2,h3⟩:=zaf h
 rw[zkh h2]at h3 ⊢
 have:=(zdO _ _ _ _ (zkB h1 h2) zbb zbb).2 h3
 refine ⟨this.1,fun k hk=>?_,fun k hk=>?_⟩
 ·rw[this.2.1 k hk];exact zhL k
 ·rw[this.2.2 k hk];exact zhL k
theorem zkg {z:WL} (hz:z∈zof p s) {n:Int} (hn:n∈hdl z):nth (zaJ p s).1 n.toNat=z.2.id:=((zgJ h).1 z hz).1 n hn
theorem hold_no {n:Int} (h0:0≤n) (hn:∀ z∈zof p s,n∉hdl z):nth (zaJ p s).1 n.toNat=0:=(zgJ h).2.1 _ fun z hz m hm e=>by
 have:=(zkB (zaf h).1 (zaf h).2.1).sec z hz m hm
 exact hn z hz (by rw[show n=m by omega];exact hm)
theorem zlT {n:Int} (h0:0≤n):(∃ z∈zof p s,n∈hdl z∧nth (zaJ p s).1 n.toNat=z.2.id)∨((∀ z∈zof p s,n∉hdl z)∧nth (zaJ p s).1 n.toNat=0):=by
 rcases Classical.em (∃ z∈zof p s,n∈hdl z) with ⟨z,hz,hn⟩|h1
 ·exact .inl ⟨z,hz,hn,zkg h hz hn⟩
 ·exact .inr ⟨fun z hz hn=>h1 ⟨z,hz,hn⟩,hold_no h h0 fun z hz hn=>h1 ⟨z,hz,hn⟩⟩
theorem ask_at {z:WL} (hz:z∈zof p s) {a:AskR} (ha:a∈asl z):nth (zaJ p s).2.1 a.pnt.toNat=a.lie:=((zgJ h).1 z hz).2 a ha
end
end Go.Lev
namespace Go.Lev
open Go.Eng
set_option maxRecDepth 10000
set_option maxHeartbeats 4000000
variable {P:Program} {inv:Nat→Option Nat} {w0:World} {M:Nat→Prop}
def minK (n:Int):Int:=if 1000<n then 1000 else n
def sumS:Int→List Section→Int
 |t,[]=>t
 |t,s::r=>sumS (t+minK s.ends.length) r
def sumR:Int→List Rte→Int
 |t,[]=>t
 |t,r::l=>sumR (t+minK r.path.length+minK r.over.length+minK r.flanks.length) l
def zcO (p:Pln):Bool:=decide (100<(p.sections.length:Int))||(decide (100<(p.points.length:Int))||(decide (100<(p.signals.length:Int))||decide (100<(p.routes.length:Int))))
def zja (p:Pln):Bool:=zcO p||decide (1000<sumR (sumS 0 p.sections) p.routes)
theorem zk1 (n:Nat):0≤minK n∧minK n≤1000:=by unfold minK;split<;>omega
theorem zi9 (hH:HasAll P inv) (p:Pln):PC P inv 71 [.agg p.c] (·=.b (zja p)):=by
 unfold zja
 cases hg0:zcO p with
 |true =>
  rw[Bool.true_or]
  refine PC.fn hH cd71 fun w0 M Q hM hE hQ hR=>?_;dsimp only[cd71,qm,ql,qf,qi,qb,qc,qp,qv,qN,qT,qF,qt]at hQ ⊢
  (repeat' first|refine zaa [0,1,2,3,4,5,27,32,49] fun K hK=>?_|(refine hK.go ?_;clear hK K)|with_reducible exact wT|refine wA ?_|(refine wB (fun h=>?_) (fun h=>?_)<;>first|exact wN h|subst (h:(_:Bool)=_)|skip)|(refine wQ ?_;clear hQ hR hE hM)|fail)
  all_goals first|rfl|(exfalso;simp[zcO]at hg0;omega)
 |false =>
  rw[Bool.false_or]
  have hb:p.sections.length≤100∧p.points.length≤100∧p.signals.length≤100∧p.routes.length≤100:=by
   simp[zcO]at hg0;omega
  refine PC.fn hH cd71 fun w0 M Q hM hE hQ hR=>?_;dsimp only[cd71,qm,ql,qf,qi,qb,qc,qp,qv,qN,qT,qF,qt]at hQ ⊢
  (repeat' first|refine zaa [0,1,2,3,4,5,27,32,49] fun K hK=>?_|(refine hK.go ?_;clear hK K)|with_reducible exact wT|refine wA ?_|(refine wB (fun h=>?_) (fun h=>?_)<;>first|exact wN h|subst (h:(_:Bool)=_)|skip)|(refine wQ ?_;clear hQ hR hE hM)|fail)
  all_goals first|(exfalso;omega)|skip
  refine zas (ι:=Nat×Int) [1,2,3,4] (fun z=>[(3,.n z.2),(4,.n z.1)]) (fun _=>[]) (fun z=>z.1) (p.sections.length) (fun z=>(0≤z.2∧z.2≤1000*z.1)∧(sumS z.2 (p.sections.drop z.1)=sumS 0 p.sections)) (0,0) ?_;rintro ⟨k,t⟩ ⟨hk,ht,hg⟩;(try dsimp only at hk ht hg ⊢);rcases Nat.lt_or_ge k p.sections.length with hlt|hge
  ·rw[zak hlt]at hg
   rw[sumS]at hg
   have hm:=zk1 (nth p.sections k).ends.length
   unfold minK at hg hm
   (repeat' first|refine zaa [0,1,2,3,4,5,27,32,49] fun K hK=>?_|(refine hK.go ?_;clear hK K)|with_reducible exact wT|refine wA ?_|(refine wB (fun h=>?_) (fun h=>?_)<;>first|exact wN h|subst (h:(_:Bool)=_)|skip)|(refine wQ ?_;clear hQ hR hE hM)|fail)
   exact nY (k+1,_) ⟨by (try dsimp only);omega,by (try dsimp only);omega,hg⟩
  ·rw[List.drop_eq_nil_of_le hge,sumS]at hg
   (repeat' first|refine zaa [0,1,2,3,4,5,27,32,49] fun K hK=>?_|(refine hK.go ?_;clear hK K)|with_reducible exact wT|refine wA ?_|(refine wB (fun h=>?_) (fun h=>?_)<;>first|exact wN h|subst (h:(_:Bool)=_)|skip)|(refine wQ ?_;clear hQ hR hE hM)|fail)
   refine zas (ι:=Nat×Int) [1,2,3,5] (fun z=>[(3,.n z.2),(5,.n z.1)]) (fun _=>[]) (fun z=>z.1) (p.routes.length) (fun z=>(0≤z.2∧z.2≤100000+3000*z.1)∧(sumR z.2 (p.routes.drop z.1)=sumR t p.routes)) (0,t) ?_;rintro ⟨k2,u⟩ ⟨hk,hu,hg2⟩;(try dsimp only at hk hu hg2 ⊢);rcases Nat.lt_or_ge k2 p.routes.length with hlt|hge
   ·rw[zak (by assumption),sumR]at hg2
    have hm1:=zk1 (nth p.routes k2).path.length
    have hm2:=zk1 (nth p.routes k2).over.length
    have hm3:=zk1 (nth p.routes k2).flanks.length
    unfold minK at hg2 hm1 hm2 hm3
    (repeat' first|refine zaa [0,1,2,3,4,5,27,32,49] fun K hK=>?_|(refine hK.go ?_;clear hK K)|with_reducible exact wT|refine wA ?_|(refine wB (fun h=>?_) (fun h=>?_)<;>first|exact wN h|subst (h:(_:Bool)=_)|skip)|(refine wQ ?_;clear hQ hR hE hM)|fail)
    exact nY (k2+1,_) ⟨by (try dsimp only);omega,by (try dsimp only);omega,hg2⟩
   ·rw[List.drop_eq_nil_of_le (by assumption),sumR]at hg2
    (repeat' first|refine zaa [0,1,2,3,4,5,27,32,49] fun K hK=>?_|(refine hK.go ?_;clear hK K)|with_reducible exact wT|refine wA ?_|(refine wB (fun h=>?_) (fun h=>?_)<;>first|exact wN h|subst (h:(_:Bool)=_)|skip)|(refine wQ ?_;clear hQ hR hE hM)|fail)
    rw[hg2,hg]
theorem sm_of {p:Pln} (hp:Pln.ok p) (hg:zja p=false):Sm p:=by
 have h1:zcO p=false:=by
  unfold zja at hg
  simp only[Bool.or_eq_false_iff]at hg
  exact hg.1
 have hb:p.sections.length≤100∧p.points.length≤100∧p.signals.length≤100∧p.routes.length≤100:=by
  simp[zcO]at h1;omega
 obtain ⟨_,_,h3,h4,h5,h6⟩:=hp
 refine ⟨by omega,fun s hs=>?_,by omega,by omega,by omega,fun r hr=>?_⟩
 ·have:=(h3.2 s hs).2.2.1
  exact Nat.le_trans this (by decide)
 ·have:=h6.2 r hr
  exact ⟨Nat.le_trans this.2.2.2.1.1 (by decide),Nat.le_trans this.2.2.2.2.1.1 (by decide),Nat.le_trans this.2.2.2.2.2.1.1 (by decide)⟩
theorem smS_of {s:State} (h:zjb s=false):SmS s:=by
 unfold zjb at h;unfold SmS;simp at h;omega
end Go.Lev
namespace Go.Lev
open Go.Eng
set_option maxRecDepth 10000
set_option maxHeartbeats 4000000
variable {P:Program} {inv:Nat→Option Nat} {w0:World} {M:Nat→Prop}
def zdh {α:Type} (f:α→Int) (n:Int) (g:α→α) (l:List α):List α:=l.map fun x=>if f x=n then g x else x
theorem zkC {α:Type} [Inhabited α] (f:α→Int) (n:Int) (g:α→α):∀ {l:List α},(l.map f).Nodup→∀ {k:Nat},k<l.length→f (nth l k)=n→l.set k (g (nth l k))=zdh f n g l
 |[],_,k,h,_=>by simp at h
 |x::r,hn,0,_,e=>by
  simp only[List.map_cons,List.nodup_cons]at hn
  have e:f x=n:=e
  unfold zdh
  rw[List.set_cons_zero,List.map_cons,if_pos e]
  congr 1
  symm
  refine (List.map_congr_left fun y hy=>?_).trans (List.map_id r)
  rw[if_neg (fun h=>hn.1 (by rw[e,←h];exact List.mem_map_of_mem hy))]
  rfl
 |x::r,hn,k+1,h,e=>by
  simp only[List.map_cons,List.nodup_cons]at hn
  have hk:k<r.length:=by simpa using h
  have e:f (nth r k)=n:=e
  have ih:=zkC f n g hn.2 hk e
  unfold zdh at ih ⊢
  rw[List.set_cons_succ,List.map_cons,if_neg (fun h=>hn.1 (by rw[h,←e];exact List.mem_map_of_mem (zai hk)))]
  exact congrArg (x::·) ih
theorem zcV {α:Type} (f:α→Int) (n:Int) (g:α→α) (l:List α):(zdh f n g l).length=l.length:=by simp[zdh]
theorem zbr {α:Type} [Inhabited α] (f:α→Int) (n:Int) (l:List α):(zbN (fun x=>decide (f x=n)) 0 l=-1∧∀ x∈l,f x≠n)∨∃ i:Nat,i<l.length∧zbN (fun x=>decide (f x=n)) 0 l=(i:Int)∧f (nth l i)=n:=by
 rcases zbH (fun x:α=>decide (f x=n)) l 0 with ⟨h1,h2⟩|⟨i,h1,h2,h3⟩
 ·exact .inl ⟨h1,znI h2⟩
 ·exact .inr ⟨i,h1,by omega,(zgR (f:=f) h3).2⟩
end Go.Lev
namespace Go.Lev
open Go.Eng
set_option maxRecDepth 10000
set_option maxHeartbeats 4000000
variable {P:Program} {inv:Nat→Option Nat} {w0:World} {M:Nat→Prop}
def setT (s:State) (n v:Int):State:=⟨zdh Track.id n (fun t=>⟨t.id,v⟩) s.tracks,s.switches,s.locks⟩
def setL (s:State) (n v:Int):State:=⟨s.tracks,zdh Switch.id n (fun t=>⟨t.id,v,t.call⟩) s.switches,s.locks⟩
def isTrk (s:State) (n:Int):Prop:=∃ t∈s.tracks,t.id=n
def isSwt (s:State) (n:Int):Prop:=∃ t∈s.switches,t.id=n
instance (s:State) (n:Int):Decidable (isTrk s n):=by unfold isTrk;infer_instance
instance (s:State) (n:Int):Decidable (isSwt s n):=by unfold isSwt;infer_instance
def secCode (p:Pln) (s:State) (n v:Int):Int:=if zam p s=0 then (if isTrk s n then (if v=0∨v=1 then 0 else 2) else 6) else zam p s
def detCode (p:Pln) (s:State) (n v:Int):Int:=if zam p s=0 then (if isSwt s n then (if 0≤v∧v≤2 then 0 else 2) else 6) else zam p s
def secR (p:Pln) (s:State) (n v:Int):State:=if secCode p s n v=0 then setT s n v else State.z
def detR (p:Pln) (s:State) (n v:Int):State:=if detCode p s n v=0 then setL s n v else State.z
end Go.Lev
namespace Go.Lev
open Go.Eng
theorem zdE {α β:Type} [Inhabited α] [Inhabited β] (q:α→β→Bool):∀ (a:List α) (b:List β),zaI q a b=true↔a.length=b.length∧∀ i,i<a.length→q (nth a i) (nth b i)=true
 |[],[]=>by simp[zaI]
 |[],_::_=>by simp[zaI]
 |_::_,[]=>by simp[zaI]
 |x::xs,y::ys=>by
  simp only[zaI,Bool.and_eq_true,zdE q xs ys,List.length_cons,Nat.add_right_cancel_iff]
  constructor
  ·rintro ⟨h1,h2,h3⟩
   refine ⟨h2,fun i hi=>?_⟩
   cases i with
   |zero=>exact h1
   |succ i=>exact h3 i (by omega)
  ·rintro ⟨h2,h3⟩
   exact ⟨h3 0 (by omega),h2,fun i hi=>h3 (i+1) (by omega)⟩
theorem zfD {p:Pln} {s:State} (h:zan p s=true) {i:Nat} (hi:i<s.locks.length):zcj (nth s.locks i) (nth p.routes i)=true:=by
 simp only[zan,Bool.and_eq_true]at h
 exact zeh h.2.2 hi
theorem zkE {p:Pln} (h:OkP p) {r:Rte} (hr:r∈p.routes):1≤r.timer∧r.timer≤9:=by
 have h1:=h.rte r hr
 simp only[zfI,zex,Bool.and_eq_true,Bool.not_eq_true',decide_eq_false_iff_not]at h1
 omega
theorem znf {l:Lock} {r:Rte} (h:zcj l r=true):(l.left=0∧(l.phase=0∨l.phase=1∨l.phase=2))∨(1≤l.left∧l.left≤r.timer∧(l.phase=3∨l.phase=4)):=by
 simp only[zcj,zb9,Bool.and_eq_true]at h
 obtain ⟨_,h⟩:=h
 repeat' split at h
 all_goals (simp at h;try omega)
theorem zhO {α:Type} (f:α→Int) (n:Int) (g:α→α) (hg:∀ x,f (g x)=f x) (l:List α):(zdh f n g l).map f=l.map f:=by
 unfold zdh
 rw[List.map_map]
 refine List.map_congr_left fun x _=>?_
 simp only[Function.comp]
 split
 ·exact hg x
 ·rfl
end Go.Lev
namespace Go.Lev
open Go.Eng
theorem zkc {p:Pln} {s:State} (h:zam p s=0) {i j:Nat} (hi:i<s.locks.length) (hj:j<s.locks.length) (e:(nth s.locks i).id=(nth s.locks j).id):i=j:=by
 obtain ⟨h1,h2,_⟩:=zaf h
 have hn:(s.locks.map Lock.id).Nodup:=by rw[lck_ids h2];exact zmM (zbf h1).1
 have:=(List.nodup_iff_pairwise_ne.1 hn)
 rcases Nat.lt_trichotomy i j with hlt|he|hlt
 ·have:=List.pairwise_iff_getElem.1 this i j (by simpa using hi) (by simpa using hj) hlt
  simp only[List.getElem_map]at this
  rw[←zaW hi,←zaW hj]at this
  exact absurd e this
 ·exact he
 ·have:=List.pairwise_iff_getElem.1 this j i (by simpa using hj) (by simpa using hi) hlt
  simp only[List.getElem_map]at this
  rw[←zaW hi,←zaW hj]at this
  exact absurd e.symm this
theorem zkb {p:Pln} {s:State} (h:zam p s=0) {i:Nat} (hi:i<s.locks.length):1≤(nth s.locks i).id∧(nth s.locks i).id≤99:=by
 obtain ⟨h1,h2,_⟩:=zaf h
 have hl:=zaw h2
 have hl2:=zfD h2 hi
 simp only[zcj,Bool.and_eq_true,decide_eq_true_eq]at hl2
 rw[hl2.1]
 exact ziP (zbf h1).1 (zai (by omega))
def zmj (p:Pln) (s:State) (i:Nat):List Int:=zbm (zah p (nth p.routes i)).1 (nth s.locks i)
def zn6 (p:Pln) (s:State) (i:Nat):List AskR:=(zbw (zah p (nth p.routes i)).1 (nth s.locks i)).filter (zcS (nth s.locks i))
theorem ziw {p:Pln} {s:State} (h:zam p s=0) {z:WL} (hz:z∈zof p s):∃ i,i<s.locks.length∧z=((zah p (nth p.routes i)).1,nth s.locks i):=by
 have h2:=(zaf h).2.1
 have hl:=zaw h2
 obtain ⟨i,r,hr,hi,e1,e2,_,e3,_⟩:=zeX h2 hz
 refine ⟨i,by omega, ?_⟩
 rw[e1,e2,←e3]
theorem zgz {p:Pln} {s:State} (h:zam p s=0) {i:Nat} (hi:i<s.locks.length):((zah p (nth p.routes i)).1,nth s.locks i)∈zof p s:=by
 have h2:=(zaf h).2.1
 have hl:=zaw h2
 exact zof_at h2 (by omega)
theorem hold_iff {p:Pln} {s:State} (h:zam p s=0) {i:Nat} (hi:i<s.locks.length) {n:Int} (hn:0≤n):nth (zaJ p s).1 n.toNat=(nth s.locks i).id↔n∈zmj p s i:=by
 constructor
 ·intro e
  rcases zlT h hn with ⟨z,hz,hm,e2⟩|⟨_,e2⟩
  ·obtain ⟨j,hj,rfl⟩:=ziw h hz
   rw[e2]at e
   obtain rfl:=zkc h hj hi e
   exact hm
  ·have:=zkb h hi
   omega
 ·intro hm
  exact zkg h (zgz h hi) hm
theorem ask_is {p:Pln} {s:State} (h:zam p s=0) {i:Nat} (hi:i<s.locks.length) {a:AskR} (ha:a∈zn6 p s i):nth (zaJ p s).2.1 a.pnt.toNat=a.lie:=ask_at h (zgz h hi) ha
theorem znd {p:Pln} {s:State} (h:zam p s=0) {i:Nat} (hi:i<s.locks.length) {a:AskR} (ha:a∈zn6 p s i):a.lie=1∨a.lie=2:=by
 obtain ⟨h1,h2,_⟩:=zaf h
 have hl:=zaw h2
 have h3:=(List.mem_filter.1 ha).1
 unfold zbw at h3
 split at h3
 ·simp at h3
 ·exact (zbt (zbf h1).1 (zai (by omega)) h3).2.2
def pathG (g n:Int):Nat→List Int→Bool
 |_,[]=>false
 |k,x::r=>(decide (x=n)&&decide (g≤k))||pathG g n (k+1) r
end Go.Lev
namespace Go.Eng
mutual
def nz:AV→AV
 |.s0 sz=>.sl sz []
 |.agg cs=>.agg (nzL cs)
 |.tup cs=>.tup (nzL cs)
 |.fn j cs=>.fn j (nzL cs)
 |.sl sz es=>.sl sz (nzR es)
 |.ip sz es i k=>.ip sz (nzR es) i k
 |.i k n=>.i k n
 |.b t=>.b t
 |.v x=>.v x
 |.u=>.u
 |.ptr l ver off=>.ptr l ver off
 |.sm l ver off n sz=>.sm l ver off n sz
 |.mp l=>.mp l
 |.top=>.top
def nzL:List AV→List AV
 |[]=>[]
 |x::xs=>nz x::nzL xs
def nzR:List (List AV)→List (List AV)
 |[]=>[]
 |r::rs=>nzL r::nzR rs
end
theorem zm7:∀ xs:List AV,(nzL xs).length=xs.length
 |[]=>by simp only[nzL]
 |x::xs=>by simp only[nzL,List.length_cons,zm7 xs]
theorem zj4:∀ xs:List (List AV),(nzR xs).length=xs.length
 |[]=>by simp only[nzR]
 |x::xs=>by simp only[nzR,List.length_cons,zj4 xs]
mutual
theorem zj3:∀ x:AV,x.bare=true→(nz x).bare=true
 |.s0 sz,_=>by simp only[nz,AV.bare]
 |.agg cs,h=>by simp only[nz,AV.bare]at h ⊢;exact zfU cs h
 |.tup cs,h=>by simp only[nz,AV.bare]at h ⊢;exact zfU cs h
 |.fn j cs,h=>by simp only[nz,AV.bare]at h ⊢;exact zfU cs h
 |.sl sz es,_=>by simp only[nz,AV.bare]
 |.ip sz es i k,_=>by simp only[nz,AV.bare]
 |.i k n,_=>by simp only[nz,AV.bare]
 |.b t,_=>by simp only[nz,AV.bare]
 |.v x,_=>by simp only[nz,AV.bare]
 |.u,_=>by simp only[nz,AV.bare]
 |.ptr l ver off,h=>by simp only[nz];exact h
 |.sm l ver off n sz,h=>by simp only[nz];exact h
 |.mp l,h=>by simp only[nz];exact h
 |.top,_=>by simp only[nz,AV.bare]
theorem zfU:∀ xs:List AV,zac xs=true→zac (nzL xs)=true
 |[],_=>by simp only[nzL,zac]
 |x::xs,h=>by
  simp only[zac,Bool.and_eq_true]at h
  simp only[nzL,zac,zj3 x h.1,zfU xs h.2,Bool.and_self]
end
mutual
theorem zkR:∀ (c:Ctx) (x:AV) (y:Value),rel c x y→rel c (nz x) y
 |c,.s0 sz,y,r=>by
  simp only[nz,rel]at r ⊢
  obtain ⟨ad,e⟩:=r
  exact ⟨ad,0,e,Nat.le_refl _,fun h=>absurd rfl h⟩
 |c,.agg cs,y,r=>by
  simp only[nz,rel]at r ⊢
  obtain ⟨xs,e,r⟩:=r
  exact ⟨xs,e,zkU c cs _ r⟩
 |c,.tup cs,y,r=>by
  simp only[nz,rel]at r ⊢
  obtain ⟨xs,e,r⟩:=r
  exact ⟨xs,e,zjW c cs _ r⟩
 |c,.fn j cs,y,r=>by
  simp only[nz,rel]at r ⊢
  obtain ⟨g,xs,e,hi,r⟩:=r
  exact ⟨g,xs,e,hi,zjW c cs _ r⟩
 |c,.sl sz es,y,r=>by
  simp only[nz,rel]at r ⊢
  obtain ⟨ad,cap,e,h,r⟩:=r
  refine ⟨ad,cap,by rw[zj4];exact e,by rw[zj4];exact h,fun hne=>?_⟩
  have hne':es≠[]:=fun e0=>hne (by rw[e0];simp only[nzR])
  obtain ⟨a,e1,h1,h2,h3⟩:=r hne'
  exact ⟨a,e1,h1,h2,ze7 c sz a 0 es h3⟩
 |c,.ip sz es i k,y,r=>by
  simp only[nz,rel]at r ⊢
  obtain ⟨a,e,h1,h2,h3⟩:=r
  exact ⟨a,e,h1,h2,ze7 c sz a 0 es h3⟩
 |c,.i k n,y,r=>by simp only[nz];exact r
 |c,.b t,y,r=>by simp only[nz];exact r
 |c,.v x,y,r=>by simp only[nz];exact r
 |c,.u,y,r=>by simp only[nz];exact r
 |c,.ptr l ver off,y,r=>by simp only[nz];exact r
 |c,.sm l ver off n sz,y,r=>by simp only[nz];exact r
 |c,.mp l,y,r=>by simp only[nz];exact r
 |c,.top,y,r=>by simp only[nz];exact r
theorem zjW:∀ (c:Ctx) (xs:List AV) (ys:List Value),zbs c xs ys→zbs c (nzL xs) ys
 |c,[],ys,r=>by simp only[nzL];exact r
 |c,x::xs,ys,r=>by
  simp only[nzL,zbs]at r ⊢
  obtain ⟨y,ys',e,r1,r2⟩:=r
  exact ⟨y,ys',e,zkR c x y r1,zjW c xs ys' r2⟩
theorem zkU:∀ (c:Ctx) (xs:List AV) (ys:List Value),relCs c xs ys→relCs c (nzL xs) ys
 |c,[],ys,r=>by simp only[nzL];exact r
 |c,x::xs,ys,r=>by
  simp only[nzL,relCs]at r ⊢
  obtain ⟨y,ys',e,ho,r1,r2⟩:=r
  exact ⟨y,ys',e,ho,zkR c x y r1,zkU c xs ys' r2⟩
theorem ziR:∀ (c:Ctx) (a:Addr) (k:Nat) (xs:List AV),zbi c a k xs→zbi c a k (nzL xs)
 |c,a,k,[],r=>by simp only[nzL];exact r
 |c,a,k,x::xs,r=>by
  simp only[nzL,zbi]at r ⊢
  obtain ⟨⟨y,h1,h2,h3,h4⟩,r⟩:=r
  exact ⟨⟨y,h1,h2,zj3 x h3,zkR _ x y h4⟩,ziR c a (k+1) xs r⟩
theorem ze7:∀ (c:Ctx) (sz:Nat) (a:Addr) (k:Nat) (es:List (List AV)),zau c sz a k es→zau c sz a k (nzR es)
 |c,sz,a,k,[],r=>by simp only[nzR];exact r
 |c,sz,a,k,x::xs,r=>by
  simp only[nzR,zau]at r ⊢
  exact ⟨by rw[zm7];exact r.1,ziR c a k x r.2.1,ze7 c sz a (k+sz) xs r.2.2⟩
end
theorem PC.nzr {P:Program} {inv:Nat→Option Nat} {j:Nat} {args:List AV} {r:AV} (h:PC P inv j args (·=r)):PC P inv j args (·=nz r) :=
 fun g hg M w vs hM ha=>(h g hg M w vs hM ha).mono fun _ _ ⟨v,r',e,h1,h2,h3,h4⟩=>⟨v,nz r',e,by rw[h1],h2,zj3 r' h3,zkR _ r' v h4⟩
attribute [go_sem] nz nzL nzR
end Go.Eng
namespace Go.Eng
open Go.RowKit
section
variable {P:Program} {inv:Nat→Option Nat} {w0:World} {M:Nat→Prop} {n N:Nat} {φ:AF} {σ:AS}
theorem AWp.midP (ks:List Nat) (m:List (Nat×AV)) (A:Prop) {x y:ACode} {Q:Exit→AF→AS→Prop} (h1:AWp P inv w0 M N n x (zmk (midK A (zgN m (zdX ks φ)) σ) Q) φ σ) (h2:A→AWp P inv w0 M N n y Q (zgN m (zdX ks φ)) σ):AWp P inv w0 M N n (.seq x y) Q φ σ :=
 AWp.seq fun K hK=>by
  refine AWp.mono ?_ h1
  intro e φ' σ' q
  cases e with
  |normal=>exact hK _ _ ((h2 q.1).sub q.2.1 q.2.2)
  |exit id=>exact q
  |goto l=>exact q
  |ret=>exact q
  |panic ch=>exact q
  |outgrown=>exact q
end
end Go.Eng
namespace Go.Eng
open Go.RowKit
def zfe {S R:Type} (body:Nat→S→(S→R)→R) (fin:S→R):Nat→Nat→S→R
 |0,_,s=>fin s
 |m+1,k,s=>body k s fun s'=>zfe body fin m (k+1) s'
section
variable {S R:Type} {body:Nat→S→(S→R)→R} {fin:S→R} {n k:Nat} {s:S}
end
mutual
def okS (g:Nat→Bool):AV→Bool
 |.agg cs=>zmf g cs
 |.tup cs=>zmf g cs
 |.fn _ cs=>zmf g cs
 |.ptr l _ _=>g l
 |.sm l _ _ _ _=>g l
 |.i _ _=>true|.b _=>true|.v _=>true|.u=>true|.s0 _=>true|.sl _ _=>true|.ip _ _ _ _=>true|.mp _=>true|.top=>true
def zmf (g:Nat→Bool):List AV→Bool
 |[]=>true
 |x::xs=>okS g x&&zmf g xs
end
def okF:Nat→AS→Nat→Bool
 |0,_,_=>false
 |k+1,σ,l=>match zay σ l with
  |some (.cells cs _)=>zmf (okF k σ) cs
  |_=>false
section
variable {f f':Nat→Option (List AV)} {g:Nat→Bool} (h:∀ l,g l=true→f' l=f l)
include h
mutual
theorem zmx:∀ x:AV,okS g x=true→zaN f' x=zaN f x
 |.agg cs,e=>by simp only[okS]at e;simp only[zaN,zcF cs e]
 |.tup cs,e=>by simp only[okS]at e;simp only[zaN,zcF cs e]
 |.fn j cs,e=>by simp only[okS]at e;simp only[zaN,zcF cs e]
 |.ptr l ver off,e=>by simp only[okS]at e;simp only[zaN,h l e]
 |.sm l ver off n sz,e=>by simp only[okS]at e;simp only[zaN,h l e]
 |.i _ _,_=>by simp only[zaN]
 |.b _,_=>by simp only[zaN]
 |.v _,_=>by simp only[zaN]
 |.u,_=>by simp only[zaN]
 |.s0 _,_=>by simp only[zaN]
 |.sl _ _,_=>by simp only[zaN]
 |.ip _ _ _ _,_=>by simp only[zaN]
 |.mp _,_=>by simp only[zaN]
 |.top,_=>by simp only[zaN]
theorem zcF:∀ xs:List AV,zmf g xs=true→zbC f' xs=zbC f xs
 |[],_=>by simp only[zbC]
 |x::xs,e=>by
  simp only[zmf,Bool.and_eq_true]at e
  simp only[zbC,zmx x e.1,zcF xs e.2]
end
end
theorem ziF {σ σ':AS} (hle:SLe σ σ'):∀ (k l:Nat),okF k σ l=true→zf6 k σ' l=zf6 k σ l
 |0,_,e=>by simp[okF]at e
 |k+1,l,e=>by
  simp only[okF]at e
  split at e
  ·rename_i cs r hg
   simp only[zf6,hg,hle l _ hg (by intro h;cases h),zcF (fun l=>ziF hle k l) cs e]
  ·cases e
def oks (k:Nat) (σ:List (Nat×AO)) (xs:List AV):Bool:=zmf (okF k σ) xs
def ok1 (k:Nat) (σ:List (Nat×AO)) (x:AV):Bool:=okS (okF k σ) x
def okR (o:Option AO) (l:Nat) (K:List AV→Bool) (_:l=l):Bool:=match o with|some (.cells cs _)=>K cs|_=>false
theorem okR_c (cs:List AV) (r:Bool) (l:Nat) (K:List AV→Bool) (h:l=l):okR (some (.cells cs r)) l K h=K cs:=rfl
section
variable (k:Nat) (σ:List (Nat×AO))
theorem ok_i (q:IntKind) (n:Int):ok1 k σ (.i q n)=true:=by simp only[ok1,okS]
theorem ok_b (t:Bool):ok1 k σ (.b t)=true:=by simp only[ok1,okS]
theorem ok_v (x:Value):ok1 k σ (.v x)=true:=by simp only[ok1,okS]
theorem ok_u:ok1 k σ .u=true:=by simp only[ok1,okS]
theorem ok_s0 (sz:Nat):ok1 k σ (.s0 sz)=true:=by simp only[ok1,okS]
theorem ok_sl (sz:Nat) (es:List (List AV)):ok1 k σ (.sl sz es)=true:=by simp only[ok1,okS]
theorem ok_ip (sz:Nat) (es:List (List AV)) (i j:Nat):ok1 k σ (.ip sz es i j)=true:=by simp only[ok1,okS]
theorem ok_agg (cs:List AV):ok1 k σ (.agg cs)=oks k σ cs:=by simp only[ok1,okS,oks]
theorem ok_tup (cs:List AV):ok1 k σ (.tup cs)=oks k σ cs:=by simp only[ok1,okS,oks]
theorem ok_fn (j:Nat) (cs:List AV):ok1 k σ (.fn j cs)=oks k σ cs:=by simp only[ok1,okS,oks]
theorem ok_nil:oks k σ []=true:=by simp only[oks,zmf]
theorem ok_cons (x:AV) (xs:List AV):oks k σ (x::xs)=(ok1 k σ x&&oks k σ xs):=by simp only[ok1,zmf,oks]
theorem ok_ptr (l ver off:Nat):ok1 (k+1) σ (.ptr l ver off)=okR (zay σ l) l (fun cs=>oks k σ cs) rfl:=by
 simp only[ok1,okS,okF,okR,oks]
theorem ok_sm (l ver off n sz:Nat):ok1 (k+1) σ (.sm l ver off n sz)=okR (zay σ l) l (fun cs=>oks k σ cs) rfl:=by
 simp only[ok1,okS,okF,okR,oks]
end
mutual
theorem plain_ok (g:Nat→Bool):∀ x:AV,x.plain=true→okS g x=true
 |.agg cs,h=>by simp only[AV.plain]at h;simp only[okS];exact zdq g cs h
 |.i _ _,_=>rfl|.b _,_=>rfl|.v _,_=>rfl|.sl _ _,_=>rfl|.ip _ _ _ _,_=>rfl
 |.tup _,h=>by simp[AV.plain]at h
 |.u,h=>by simp[AV.plain]at h
 |.s0 _,h=>by simp[AV.plain]at h
 |.ptr _ _ _,h=>by simp[AV.plain]at h
 |.sm _ _ _ _ _,h=>by simp[AV.plain]at h
 |.fn _ _,h=>by simp[AV.plain]at h
 |.mp _,h=>by simp[AV.plain]at h
 |.top,h=>by simp[AV.plain]at h
theorem zdq (g:Nat→Bool):∀ xs:List AV,zat xs=true→zmf g xs=true
 |[],_=>rfl
 |x::xs,h=>by
  simp only[zat,Bool.and_eq_true]at h
  simp only[zmf,plain_ok g x h.1,zdq g xs h.2,Bool.and_self]
end
theorem ok_flat {α:Type} {c:α→List AV} {sz:Nat} [h:Cells c sz] (k:Nat) (σ:AS) (l:List α):oks k σ (l.map c).flatten=true:=zdq _ _ (zbX l)
theorem ok_bmap (k:Nat) (σ:AS) (l:List Bool):oks k σ (l.map AV.b)=true:=zdq _ _ (zdT l)
theorem ok_imap (k:Nat) (σ:AS) (q:IntKind) (l:List Int):oks k σ (l.map (AV.i q))=true:=zdq _ _ (zch q l)
attribute [go_sem] okR_c ok_i ok_b ok_v ok_u ok_s0 ok_sl ok_ip ok_agg ok_tup ok_fn ok_nil ok_cons ok_ptr ok_sm ok_flat ok_bmap ok_imap
section
variable {P:Program} {inv:Nat→Option Nat} {w0:World} {M:Nat→Prop} {σ:AS}
theorem zoe (hM:∀ b,M b→b<w0.heap.size) (k:Nat) {j:Nat} {args args':List AV} {r:AV} (h:PC P inv j args' (·=r)) (he:zbv k σ args=args') (hok:oks k σ args=true) (hs:r.scalar=true) {K:AV→Prop} (hk:K r):PureK P inv w0 M σ j args K :=
 ⟨r,fun _ _ σ' hle=>zdV hM k h (by rw[←he];exact zcF (fun l=>ziF hle k l) args hok) hs ⟨rfl,rfl⟩,hk⟩
end
section
variable {P:Program} {inv:Nat→Option Nat} {w0:World} {M:Nat→Prop} {n N:Nat} {φ:AF} {σ:AS}
theorem zax {x r:ACode} {Q:Exit→AF→AS→Prop} (l:Nat) (hf:zhm x l=some r) (h:AWp P inv w0 M N n x (zhd l (fun _ _=>False) Q) φ σ):AWp P inv w0 M N n (.scope x) Q φ σ :=
 AWp.scope l hf (fun _ _ _=>False) (AWp.mono (fun e φ' σ' q=>by
  cases e with
  |goto l'=>exact q.2.elim
  |normal=>exact q
  |exit id=>exact q
  |ret=>exact q
  |panic ch=>exact q
  |outgrown=>exact q) h) fun _ _ _ h=>h.elim
variable {l:Nat} {J:AF→AS→Prop} {Q:Exit→AF→AS→Prop}
theorem jt_ret:zhd l J Q .ret φ σ=Q .ret φ σ:=rfl
theorem znh:zhd l J Q .normal φ σ=Q .normal φ σ:=rfl
theorem jt_exit (i:Nat):zhd l J Q (.exit i) φ σ=Q (.exit i) φ σ:=rfl
theorem jt_goto (l':Nat):zhd l J Q (.goto l') φ σ=(l'=l∧J φ σ):=rfl
attribute [go_sem] jt_ret znh jt_exit jt_goto
end
section
variable {P:Program} {inv:Nat→Option Nat} {w0:World} {M:Nat→Prop} {n N:Nat} {φ:AF} {σ:AS}
theorem AWp.sqpC (ks:List Nat) {l:List GOp} {c:Opd} {u v y:ACode} {Q:Exit→AF→AS→Prop} (h:∀ K:AF→AS→Prop,Cont K (AWp P inv w0 M N n y Q)→AWp P inv w0 M N n (.seq (.reg l) (.cond c u v)) (zmk (pk ks K) Q) φ σ):AWp P inv w0 M N n (.seq (.seq (.reg l) (.cond c u v)) y) Q φ σ:=zaa ks h
theorem AWp.sqpD (ks:List Nat) {k:Nat} {l:List GOp} {c:Opd} {u v y:ACode} {Q:Exit→AF→AS→Prop} (h:∀ K:AF→AS→Prop,Cont K (AWp P inv w0 M N n y Q)→AWp P inv w0 M N n (.seq (.regd k l) (.cond c u v)) (zmk (pk ks K) Q) φ σ):AWp P inv w0 M N n (.seq (.seq (.regd k l) (.cond c u v)) y) Q φ σ:=zaa ks h
end
end Go.Eng
namespace Go.Lev
open Go.Eng
set_option maxRecDepth 10000
set_option maxHeartbeats 4000000
variable {P:Program} {inv:Nat→Option Nat} {w0:World} {M:Nat→Prop}
def zmi (s:State) (n:Int):Int:=match s.tracks.find? fun t=>decide (t.id=n) with|some t=>t.is|none=>2
def zdp (p:Pln) (n:Int):Int:=match p.points.find? fun t=>decide (t.id=n) with|some t=>t.sec|none=>0
def mayC (p:Pln) (s:State) (n:Int):Int:=if zam p s=0 then (if zlQ p n=true then (if nth (zaJ p s).2.1 n.toNat=0 then (if zmi s (zdp p n)=0 then 0 else 171) else 170) else 6) else zam p s
def setC (s:State) (n v:Int):State:=⟨s.tracks,zdh Switch.id n (fun t=>⟨t.id,t.lie,v⟩) s.switches,s.locks⟩
def callC (p:Pln) (s:State) (n v:Int):Int:=if zam p s=0 then (if zlQ p n=true then (if v=1∨v=2 then mayC p s n else 2) else 6) else zam p s
def callR (p:Pln) (s:State) (n v:Int):State:=if callC p s n v=0 then setC s n v else State.z
theorem zlf {α:Type} [Inhabited α] (f:α→Int) {l:List α} (hn:(l.map f).Nodup) {k:Nat} (hk:k<l.length) {n:Int} (e:f (nth l k)=n):(l.find? fun t=>decide (f t=n))=some (nth l k):=by
 subst e
 exact znJ f hn (zai hk)
theorem swt_of {p:Pln} {s:State} (h:zan p s=true) {n:Int} (hn:zlQ p n=true):isSwt s n:=by
 obtain ⟨x,hx,e⟩:=List.any_eq_true.1 hn
 have e:x.id=n:=by simpa using e
 have:x.id∈s.switches.map Switch.id:=by rw[zdk h];exact List.mem_map_of_mem hx
 obtain ⟨t,ht,e2⟩:=List.mem_map.1 this
 exact ⟨t,ht,e2.trans e⟩
end Go.Lev
namespace Go.Lev
open Go.Eng
theorem zh9 (n v m:Int) (hm:m≠n):∀ (l:List Switch) (C D:List (Int×Int)),zeW C m=zeW D m→zeW (zfV C (zdh Switch.id n (fun t=>⟨t.id,t.lie,v⟩) l)) m=zeW (zfV D l) m
 |[],_,_,h=>h
 |x::r,C,D,h=>by
  show zeW (zfV (zj6 C (if x.id=n then (⟨x.id,x.lie,v⟩:Switch) else x).id (if x.id=n then (⟨x.id,x.lie,v⟩:Switch) else x).call) (zdh Switch.id n (fun t=>⟨t.id,t.lie,v⟩) r)) m=zeW (zfV (zj6 D x.id x.call) r) m
  refine zh9 n v m hm r _ _ ?_
  rw[zeF,zeF]
  by_cases hx:x.id=n
  ·rw[if_pos hx]
   dsimp only
   rw[if_neg (by omega),if_neg (by omega)]
   exact h
  ·rw[if_neg hx,h]
theorem zko (s:State) {n m:Int} (v:Int) (hm:m≠n):zb6 (setC s n v) m=zb6 s m:=zh9 n v m hm s.switches [] [] rfl
theorem zlA {p:Pln} {s:State} {n v:Int} (h:zan p s=true) (hv:0≤v∧v≤2):zan p (setC s n v)=true:=by
 unfold zan at h ⊢
 simp only[Bool.and_eq_true,zdE]at h ⊢
 unfold setC
 simp only[zcV]
 refine ⟨h.1,⟨h.2.1.1,fun i hi=>?_⟩,h.2.2⟩
 have:=h.2.1.2 i hi
 unfold zdh
 rw[zlK (fun x=>if Switch.id x=n then (⟨x.id,x.lie,v⟩:Switch) else x) hi]
 simp only[ziA,zfh,Bool.and_eq_true,decide_eq_true_eq]at this ⊢
 split
 ·exact ⟨this.1,this.2.1,hv⟩
 ·exact this
theorem asl_lie {p:Pln} {s:State} (h:zam p s=0) {z:WL} (hz:z∈zof p s) {a:AskR} (ha:a∈asl z):a.lie=1∨a.lie=2:=by
 obtain ⟨i,hi,rfl⟩:=ziw h hz
 exact znd h hi ha
theorem zmG {p:Pln} {s:State} {n v:Int} (h:zam p s=0) (hn:nth (zaJ p s).2.1 n.toNat=0) (hv:0≤v∧v≤2):zam p (setC s n v)=0:=by
 obtain ⟨h1,h2,h3,h4⟩:=(ze1 p s).1 h
 refine (ze1 p _).2 ⟨h1,zlA h2 hv,h3,fun z hz a ha=>?_⟩
 have hne:a.pnt≠n:=fun e=>by
  have h5:=ask_at h hz ha
  have h6:=asl_lie h hz ha
  rw[e,hn]at h5
  omega
 rw[zko s v hne]
 exact h4 z hz a ha
structure MayCall (p:Pln) (s:State) (n:Int):Prop where
 st:zam p s=0
 pt:zlQ p n=true
 ask:nth (zaJ p s).2.1 n.toNat=0
 free:zmi s (zdp p n)=0
theorem MayCall.code {p:Pln} {s:State} {n v:Int} (h:MayCall p s n) (hv:v=1∨v=2):zam p (setC s n v)=0:=zmG h.st h.ask (by omega)
theorem mem_nth {α:Type} [Inhabited α] {l:List α} {x:α} (h:x∈l):∃ k,k<l.length∧nth l k=x:=by
 obtain ⟨k,hk,e⟩:=List.mem_iff_getElem.1 h
 exact ⟨k,hk,by rw[zaW hk];exact e⟩
end Go.Lev
namespace Go.Lev
open Go.Eng
theorem isOf_at {p:Pln} {s:State} (ho:OkP p) (h:zan p s=true) {k:Nat} (hk:k<s.tracks.length):zmi s (nth s.tracks k).id=(nth s.tracks k).is:=by
 unfold zmi
 rw[zlf Track.id (by rw[trk_ids h];exact zmK ho) hk rfl]
def peF (p:Pln) (s:State) (n e a g m:Int):Bool :=
 zfe (fun i _ zcN=>cond (!decide ((nth p.points i).id=n)) (zcN ())
   (cond (!decide (a=0)) (decide (e=170))
    (zfe (fun k _ next2=>cond (decide ((nth s.tracks k).id=(nth p.points i).sec)&&!decide ((nth s.tracks k).is=0)) (decide (e=171)) (next2 ()))
     (fun _=>decide (e=0)&&decide (g=0)&&decide (m=0)) s.tracks.length 0 ())))
  (fun _=>decide (e=6)) p.points.length 0 ()
def pfF (p:Pln) (s:State) (n v e a c:Int):Bool :=
 zfe (fun i (st:Bool×Int) zcN=>cond (!decide ((nth p.points i).id=n)) (zcN st)
   (zfe (fun k (fr:Bool) next2=>next2 (fr||decide ((nth s.tracks k).id=(nth p.points i).sec)&&decide ((nth s.tracks k).is=0)))
    (fun fr=>zcN (fr,(i:Int))) s.tracks.length 0 st.1))
  (fun st=>cond (!decide (decide (e=0)=(decide (0≤st.2)&&(decide (v=1)||decide (v=2))&&decide (c=0)&&decide (a=0)&&st.1))) false true) p.points.length 0 (false,-1)
end Go.Lev
namespace Go.Lev
open Go.Eng
set_option maxRecDepth 10000
set_option maxHeartbeats 4000000
variable {P:Program} {inv:Nat→Option Nat} {w0:World} {M:Nat→Prop}
theorem znp (hH:HasAll P inv) (l:List Track) (v:Track) (hl:l.length≤1000000000):PC P inv 184 [.sl 2 (l.map Track.c),.agg v.c] (·=.n (zbN (fun x=>decide (v.id=x.id)&&decide (v.is=x.is)) 0 l)):=by
 refine PC.fn hH cd184 fun w0 M Q hM hE hQ hR=>?_;dsimp only[cd184,qm,ql,qf,qi,qb,qc,qp,qv,qN,qT,qF,qt]at hQ ⊢
 (repeat' first|refine zaa [0,1,3,4,5,7,8,9,16] fun K hK=>?_|(refine hK.go ?_;clear hK K)|with_reducible exact wT|refine wA ?_|(refine wB (fun h=>?_) (fun h=>?_)<;>first|exact wN h|subst (h:(_:Bool)=_)|skip)|(refine wQ ?_;clear hQ hR hE hM)|fail)
 refine zas (ι:=Nat) [0,3,4,7,8] (fun z=>[(8,.n z)]) (fun _=>[]) (fun z=>z) (l.length) (fun z=>(zbN (fun x=>decide (v.id=x.id)&&decide (v.is=x.is)) z (l.drop z)=zbN (fun x=>decide (v.id=x.id)&&decide (v.is=x.is)) 0 l)) (0) ?_;rintro k ⟨hk,hg⟩;(try dsimp only at hk hg ⊢);rcases Nat.lt_or_ge k l.length with hlt|hge
 ·rw[zak hlt]at hg
  rw[zbN]at hg
  cases ht:decide (v.id=(nth l k).id)&&decide (v.is=(nth l k).is) with
  |true =>
   rw[if_pos ht]at hg
   (have hX:=@ht;(repeat' first|refine zaa [0,1,3,4,5,7,8,9,16] fun K hK=>?_|(refine hK.go ?_;clear hK K)|with_reducible exact wT|refine wA ?_|(refine wB (fun h=>?_) (fun h=>?_)<;>first|exact wN h|subst (h:(_:Bool)=_)|skip)|(refine wQ ?_;clear hQ hR hE hM)|fail);all_goals clear hX)
   all_goals first|exact hg|(exfalso;contradiction)
  |false =>
   rw[if_neg (by rw[ht];simp)]at hg
   (have hX:=@ht;(repeat' first|refine zaa [0,1,3,4,5,7,8,9,16] fun K hK=>?_|(refine hK.go ?_;clear hK K)|with_reducible exact wT|refine wA ?_|(refine wB (fun h=>?_) (fun h=>?_)<;>first|exact wN h|subst (h:(_:Bool)=_)|skip)|(refine wQ ?_;clear hQ hR hE hM)|fail);all_goals clear hX)
   all_goals first|(exfalso;contradiction)|exact ⟨k+1,by omega,⟨by omega,hg⟩,by omega⟩
 ·rw[List.drop_eq_nil_of_le hge]at hg
  (repeat' first|refine zaa [0,1,3,4,5,7,8,9,16] fun K hK=>?_|(refine hK.go ?_;clear hK K)|with_reducible exact wT|refine wA ?_|(refine wB (fun h=>?_) (fun h=>?_)<;>first|exact wN h|subst (h:(_:Bool)=_)|skip)|(refine wQ ?_;clear hQ hR hE hM)|fail)
  rw[←hg];rfl
theorem znu (hH:HasAll P inv) (l:List Track) (v:Track) (hl:l.length≤1000000000):PC P inv 176 [.sl 2 (l.map Track.c),.agg v.c] (·=.b (l.any fun x=>decide (v.id=x.id)&&decide (v.is=x.is))):=by
 have c1:=znp hH l v hl
 have e:=zns (fun x:Track=>decide (v.id=x.id)&&decide (v.is=x.is)) l
 revert c1 e
 generalize zbN (fun x:Track=>decide (v.id=x.id)&&decide (v.is=x.is)) 0 l=i
 generalize (l.any fun x=>decide (v.id=x.id)&&decide (v.is=x.is))=t
 intro c1 e
 refine PC.fn hH cd176 fun w0 M Q hM hE hQ hR=>?_;dsimp only[cd176,qm,ql,qf,qi,qb,qc,qp,qv,qN,qT,qF,qt]at hQ ⊢
 (have hX:=@e;(repeat' first|refine zaa [0,1,3,4] fun K hK=>?_|(refine hK.go ?_;clear hK K)|with_reducible exact wT|refine wA ?_|(refine wB (fun h=>?_) (fun h=>?_)<;>first|exact wN h|subst (h:(_:Bool)=_)|skip)|(refine wQ ?_;clear hQ hR hE hM)|refine wC c1 ?_|fail);all_goals clear hX)
theorem hasInt (hH:HasAll P inv) {jc:Nat} {caps:List AV} {q:Int→Bool} (l:List Int) (hc:∀ x∈l,PC P inv jc ([.n x]++caps) (·=.b (q x))) (hl:l.length≤1000000000):PC P inv 177 [.sl 1 (l.map zfX),.fn jc caps] (·=.b (l.any q)):=by
 have c1:=idx_int hH l hc hl
 have e:=zns q l
 refine PC.fn hH cd177 fun w0 M Q hM hE hQ hR=>?_;dsimp only[cd177,qm,ql,qf,qi,qb,qc,qp,qv,qN,qT,qF,qt]at hQ ⊢
 (have hX:=@e;(repeat' first|refine zaa [0,1,4] fun K hK=>?_|(refine hK.go ?_;clear hK K)|with_reducible exact wT|refine wA ?_|(refine wB (fun h=>?_) (fun h=>?_)<;>first|exact wN h|subst (h:(_:Bool)=_)|skip)|(refine wQ ?_;clear hQ hR hE hM)|refine wC c1 ?_|fail);all_goals clear hX)
def frT (s:State) (n:Int):Bool:=s.tracks.any fun x=>decide (n=x.id)&&decide (0=x.is)
theorem free_pc (hH:HasAll P inv) (s:State) (hs:s.tracks.length≤1000000000) (n:Int):PC P inv 181 [.agg s.c,.n n] (·=.b (frT s n)):=by
 have c1:=znu hH s.tracks ⟨n,0⟩ hs
 rw[show (s.tracks.any fun x=>decide ((⟨n,0⟩:Track).id=x.id)&&decide ((⟨n,0⟩:Track).is=x.is))=frT s n from rfl]at c1
 refine PC.fn hH cd181 fun w0 M Q hM hE hQ hR=>?_;dsimp only[cd181,qm,ql,qf,qi,qb,qc,qp,qv,qN,qT,qF,qt]at hQ ⊢
 (repeat' first|refine zaa [0,1,2,4] fun K hK=>?_|(refine hK.go ?_;clear hK K)|with_reducible exact wT|refine wA ?_|(refine wB (fun h=>?_) (fun h=>?_)<;>first|exact wN h|subst (h:(_:Bool)=_)|skip)|(refine wQ ?_;clear hQ hR hE hM)|refine wC c1 ?_|fail)
theorem is189_pc (hH:HasAll P inv) (n:Int) (x:Pnt):PC P inv 189 ([.agg x.c]++[.ip 1 [[.n n]] 0 0]) (·=.b (decide (x.id=n))):=by
 refine PC.fn hH cd189 fun w0 M Q hM hE hQ hR=>?_;dsimp only[cd189,qm,ql,qf,qi,qb,qc,qp,qv,qN,qT,qF,qt]at hQ ⊢
 (repeat' first|refine zaa [0,1,2,3] fun K hK=>?_|(refine hK.go ?_;clear hK K)|with_reducible exact wT|refine wA ?_|(refine wB (fun h=>?_) (fun h=>?_)<;>first|exact wN h|subst (h:(_:Bool)=_)|skip)|(refine wQ ?_;clear hQ hR hE hM)|fail)
theorem zk7 (hH:HasAll P inv) (n:Int) (x:Switch):PC P inv 183 ([.agg x.c]++[.ip 1 [[.n n]] 0 0]) (·=.b (decide (x.id=n))):=by
 refine PC.fn hH cd183 fun w0 M Q hM hE hQ hR=>?_;dsimp only[cd183,qm,ql,qf,qi,qb,qc,qp,qv,qN,qT,qF,qt]at hQ ⊢
 (repeat' first|refine zaa [0,1,2,3] fun K hK=>?_|(refine hK.go ?_;clear hK K)|with_reducible exact wT|refine wA ?_|(refine wB (fun h=>?_) (fun h=>?_)<;>first|exact wN h|subst (h:(_:Bool)=_)|skip)|(refine wQ ?_;clear hQ hR hE hM)|fail)
theorem is180_pc (hH:HasAll P inv) (n:Int) (x:Lock):PC P inv 180 ([.agg x.c]++[.ip 1 [[.n n]] 0 0]) (·=.b (decide (x.id=n))):=by
 refine PC.fn hH cd180 fun w0 M Q hM hE hQ hR=>?_;dsimp only[cd180,qm,ql,qf,qi,qb,qc,qp,qv,qN,qT,qF,qt]at hQ ⊢
 (repeat' first|refine zaa [0,1,2,3] fun K hK=>?_|(refine hK.go ?_;clear hK K)|with_reducible exact wT|refine wA ?_|(refine wB (fun h=>?_) (fun h=>?_)<;>first|exact wN h|subst (h:(_:Bool)=_)|skip)|(refine wQ ?_;clear hQ hR hE hM)|fail)
theorem lies_pc (hH:HasAll P inv) (p:Pln) (hl:p.points.length≤1000000000) {k:Nat} (hk:k<p.points.length) {n:Int} (he:zbN (fun x=>decide (Pnt.id x=n)) 0 p.points=(k:Int)):PC P inv 182 [.agg p.c,.n n] (·=.n (nth p.points k).sec):=by
 have c1:=zke hH p.points (fun x _=>is189_pc hH n x) hl
 rw[he]at c1
 refine PC.fn hH cd182 fun w0 M Q hM hE hQ hR=>?_;dsimp only[cd182,qm,ql,qf,qi,qb,qc,qp,qv,qN,qT,qF,qt]at hQ ⊢
 (repeat' first|refine zaa [0,1,2,3,4] fun K hK=>?_|(refine hK.go ?_;clear hK K)|with_reducible exact wT|refine wA ?_|(refine wB (fun h=>?_) (fun h=>?_)<;>first|exact wN h|subst (h:(_:Bool)=_)|skip)|(refine wQ ?_;clear hQ hR hE hM)|refine wS c1 ?_|fail)
theorem znY (hH:HasAll P inv) (s:State) (hl:s.switches.length≤1000000000) {k:Nat} (hk:k<s.switches.length) {n:Int} (he:zbN (fun x=>decide (Switch.id x=n)) 0 s.switches=(k:Int)):PC P inv 172 [.agg s.c,.n n] (·=.ip 3 (s.switches.map Switch.c) k 2):=by
 have c1:=znr hH s.switches (fun x _=>zk7 hH n x) hl
 rw[he]at c1
 refine PC.fn hH cd172 fun w0 M Q hM hE hQ hR=>?_;dsimp only[cd172,qm,ql,qf,qi,qb,qc,qp,qv,qN,qT,qF,qt]at hQ ⊢
 (repeat' first|refine zaa [0,1,2,3,4,5] fun K hK=>?_|(refine hK.go ?_;clear hK K)|with_reducible exact wT|refine wA ?_|(refine wB (fun h=>?_) (fun h=>?_)<;>first|exact wN h|subst (h:(_:Bool)=_)|skip)|(refine wQ ?_;clear hQ hR hE hM)|refine wS c1 ?_|fail)
end Go.Lev
namespace Go.Lev
open Go.Eng
set_option maxRecDepth 10000
set_option maxHeartbeats 4000000
variable {P:Program} {inv:Nat→Option Nat} {w0:World} {M:Nat→Prop}
def zeg (s:State) (n:Int):Int:=zbN (fun x=>decide (Lock.id x=n)) 0 s.locks
def zcD (H:List Int) (fr:Int→Bool):List Int→Int
 |[]=>0
 |x::r=>if nth H x.toNat=0 then (if fr x=true then zcD H fr r else 182) else 181
def zkq (p:Pln) (s:State) (A:List Int) (a:AskR):Bool:=decide (zb6 s a.pnt=a.lie)||(decide (nth A a.pnt.toNat=0)&&frT s (zdp p a.pnt))
def setE (p:Pln) (s:State) (i:Nat):Int :=
 if zcD (zaJ p s).1 (frT s) ((zah p (nth p.routes i)).1.path++(zah p (nth p.routes i)).1.over)=0 then (if (zah p (nth p.routes i)).1.asks.all (zkq p s (zaJ p s).2.1)=true then 0 else 183)
 else zcD (zaJ p s).1 (frT s) ((zah p (nth p.routes i)).1.path++(zah p (nth p.routes i)).1.over)
def lkC (p:Pln) (s:State) (n:Int):Int:=if zam p s=0 then (if zeg s n<0 then 6 else if (nth s.locks (zeg s n).toNat).phase=0 then setE p s (zeg s n).toNat else 180) else zam p s
def lkW (p:Pln) (s:State) (n:Int):WayR:=if zam p s=0 then (if zeg s n<0 then WayR.z else if (nth s.locks (zeg s n).toNat).phase=0 then (zah p (nth p.routes (zeg s n).toNat)).1 else WayR.z) else WayR.z
def askE (ok:AskR→Bool):Int→List AskR→Int
 |e,[]=>e
 |e,a::r=>askE ok (if e=0 then (if ok a=true then 0 else 183) else e) r
theorem zkr (ok:AskR→Bool) {e:Int} (he:¬e=0):∀ l,askE ok e l=e
 |[]=>rfl
 |a::r=>by rw[askE,if_neg he];exact zkr ok he r
theorem askE_0 (ok:AskR→Bool):∀ l,askE ok 0 l=if l.all ok=true then 0 else 183
 |[]=>rfl
 |a::r=>by
  rw[askE,if_pos rfl,List.all_cons]
  cases h:ok a with
  |true=>rw[if_pos rfl,askE_0 ok r,Bool.true_and]
  |false=>rw[if_neg (by simp),zkr ok (by decide)];simp
theorem setE_ask (p:Pln) (s:State) (i:Nat):setE p s i=askE (zkq p s (zaJ p s).2.1) (zcD (zaJ p s).1 (frT s) ((zah p (nth p.routes i)).1.path++(zah p (nth p.routes i)).1.over)) (zah p (nth p.routes i)).1.asks:=by
 unfold setE
 split
 ·rename_i h;rw[h,askE_0]
 ·rename_i h;rw[zkr _ h]
theorem zmZ {p:Pln} (h:OkP p) {k:Nat} (hk:k<p.points.length):zdp p (nth p.points k).id=(nth p.points k).sec:=by
 unfold zdp
 rw[zlf Pnt.id (zdo h) hk rfl]
theorem zhA (hH:HasAll P inv) (hI:HasIds P inv) (p:Pln) (hp:Sm p) (s:State) (hs:SmS s) (n:Int):PC P inv 171 [.agg p.c,.agg s.c,.n n] (·=.tup [.agg (lkW p s n).c,.n (lkC p s n)]):=by
 have c0:=of_pc hH hI p hp s hs
 have c1:=zkf hH s.locks (fun x _=>is180_pc hH n x) (by have:=hs.2.2;omega)
 have hRl:=zgF p s
 have hRe:=zj2 p s
 by_cases hst:zam p s=0
 ·have hok:=zaQ hst
  have hpa:=(zaf hst).2.1
  have hpl:=zaw hpa
  have hR:ofR p s=⟨(zaJ p s).1,(zaJ p s).2.1,zaD p,0⟩:=by unfold ofR;rw[if_pos hst]
  rw[hR]at c0 hRl
  dsimp only at c0 hRl
  have hW:lkW p s n=if zeg s n<0 then WayR.z else if (nth s.locks (zeg s n).toNat).phase=0 then (zah p (nth p.routes (zeg s n).toNat)).1 else WayR.z:=by unfold lkW;rw[if_pos hst]
  have hC:lkC p s n=if zeg s n<0 then 6 else if (nth s.locks (zeg s n).toNat).phase=0 then setE p s (zeg s n).toNat else 180:=by unfold lkC;rw[if_pos hst]
  rw[hW,hC]
  clear hW hC
  obtain ⟨G,Z,hg⟩:=zhn
  rw[←hg.eq]at c0
  have hfold:=hg.fold
  have hlen0:=hg.len (.s0 4) hg.zl hg.zl
  have hlen:=hg.len (.sl 4 ((zaD p).map Way.c)) hRl.1 hRl.2
  have hov:=hg.ov (.s0 4) (.sl 4 ((zaD p).map Way.c)) hg.zl hg.zl hRl.1 hRl.2
  have hbd0:=hg.bd0 Z Z
  have hbd:=hg.bd (zaJ p s).1 (zaJ p s).2.1 ((zaD p).map Way.c)
  have hba:=hg.ba (zaJ p s).1 (zaJ p s).2.1 ((zaD p).map Way.c)
  have hlix:zeg s n=zbN (fun x=>decide (Lock.id x=n)) 0 s.locks:=rfl
  rcases zbr Lock.id n s.locks with ⟨h4,_⟩|⟨i,hi,h4,h5⟩
  ·rw[h4]at c1 hlix
   rw[hlix,if_pos (by decide),if_pos (by decide)]
   refine PC.fn hH cd171 fun w0 M Q hM hE hQ hR=>?_;dsimp only[cd171,qm,ql,qf,qi,qb,qc,qp,qv,qN,qT,qF,qt]at hQ ⊢
   (have hX:=zA @hfold (zA @hlen0 (zA @hlen (zA @hov (zA @hbd0 (zA @hbd @hba)))));(repeat' first|refine zaa [0,1,2,3,4,5,6,7,8,9,11,13,15,23,29,37,48,49,50,51,54,55,56,57,60,66,74,75,76,77,106,109] fun K hK=>?_|(refine hK.go ?_;clear hK K)|with_reducible exact wT|refine wA ?_|(refine wB (fun h=>?_) (fun h=>?_)<;>first|exact wN h|subst (h:(_:Bool)=_)|skip)|(refine zax 0 rfl ?_;try (refine no_implicit_lambda% (st ?_);try with_reducible exact wT))|(refine wQ ?_;clear hQ hR hE hM)|refine wC c0 ?_|refine wS c1 ?_|fail);all_goals clear hX)
   all_goals first|rfl|(exfalso;contradiction)|skip
  ·rw[h4]at c1 hlix
   rw[hlix,if_neg (show ¬((i:Nat):Int)<0 by omega),if_neg (show ¬((i:Nat):Int)<0 by omega),Int.toNat_natCast]
   have hri:i<p.routes.length:=by omega
   have hlk:s.locks.length≤1000:=hs.2.2
   by_cases hph:(nth s.locks i).phase=0
   ·rw[if_pos hph,if_pos hph]
    have hr:=zai hri
    have hwp:=zbP ((zbf (zaf hst).1).2.1 _ hr)
    have hwl:=zcE hok hr
    have hsec:∀ m∈(zah p (nth p.routes i)).1.path++(zah p (nth p.routes i)).1.over,0≤m∧m≤99:=fun m hm=>by
     rw[hwp.1,hwp.2.1]at hm
     obtain ⟨q,hq,rfl⟩:=(zew hok hr).1 m hm
     have:=zet hok hq
     omega
    have hask:∀ k,k<(zah p (nth p.routes i)).1.asks.length→0≤(nth (zah p (nth p.routes i)).1.asks k).pnt∧(nth (zah p (nth p.routes i)).1.asks k).pnt≤99 ∧
      (∃ j,j<s.switches.length∧PC P inv 172 [.agg s.c,.n (nth (zah p (nth p.routes i)).1.asks k).pnt] (·=.ip 3 (s.switches.map Switch.c) j 2)∧(nth s.switches j).call=zb6 s (nth (zah p (nth p.routes i)).1.asks k).pnt) ∧
      PC P inv 182 [.agg p.c,.n (nth (zah p (nth p.routes i)).1.asks k).pnt] (·=.n (zdp p (nth (zah p (nth p.routes i)).1.asks k).pnt)):=fun k hk=>by
     obtain ⟨⟨x,hx,ex⟩,hb,_⟩:=zbt hok hr (zai hk)
     refine ⟨by omega,by omega, ?_, ?_⟩
     ·obtain ⟨y,hy,ey⟩:=swt_of hpa (n:=(nth (zah p (nth p.routes i)).1.asks k).pnt) (List.any_eq_true.2 ⟨x,hx,by simpa using ex⟩)
      rcases zbr Switch.id (nth (zah p (nth p.routes i)).1.asks k).pnt s.switches with ⟨_,q⟩|⟨j,hj,q1,q2⟩
      ·exact absurd ey (q y hy)
      ·exact ⟨j,hj,znY hH s (by have:=hs.2.1;omega) hj q1,by rw[←q2];exact (znZ hok hpa (zai hj)).symm⟩
     ·rcases zbr Pnt.id (nth (zah p (nth p.routes i)).1.asks k).pnt p.points with ⟨_,q⟩|⟨j,hj,q1,q2⟩
      ·exact absurd ex (q x hx)
      ·have:=lies_pc hH p (by have:=hp.pts;omega) hj q1
       rw[←zmZ hok hj,q2]at this
       exact this
    rw[setE_ask]
    have hgw:=hg.get (.sl 4 ((zaD p).map Way.c)) hRl.1 hRl.2
    have hwat:nth (zaD p) i=(zah p (nth p.routes i)).1:=zlK _ hri
    have hwlen:(zaD p).length=p.routes.length:=by simp[zaD]
    have hfr:∀ x,PC P inv 181 [.agg s.c,.n x] (·=.b (frT s x)):=fun x=>free_pc hH s (by have:=hs.1;omega) x
    have hok2:∀ a:AskR,zkq p s (zaJ p s).2.1 a=(decide (zb6 s a.pnt=a.lie)||(decide (nth (zaJ p s).2.1 a.pnt.toNat=0)&&frT s (zdp p a.pnt))):=fun a=>rfl
    have hg1:∀ k:Nat,k<100→(G (zaJ p s).1 (zaJ p s).2.1 (.sl 4 ((zaD p).map Way.c)))[k]?=some (.n (nth (zaJ p s).1 k)):=fun k hk=>hg.get1 _ hRl.1 hk
    have hg2:∀ k:Nat,k<100→(G (zaJ p s).1 (zaJ p s).2.1 (.sl 4 ((zaD p).map Way.c)))[100+k]?=some (.n (nth (zaJ p s).2.1 k)):=fun k hk=>hg.get2 _ hRl.1 hRl.2 hk
    generalize (zah p (nth p.routes i)).1=w at *
    generalize zaJ p s=GR at *
    obtain ⟨H,A,B⟩:=GR
    dsimp only at *
    generalize zaD p=ws at *
    generalize zkq p s A=ok at *
    clear hwp hr hok hst hpa hR h5 hRe hg
    refine PC.fn hH cd171 fun w0 M Q hM hE hQ hR=>?_;dsimp only[cd171,qm,ql,qf,qi,qb,qc,qp,qv,qN,qT,qF,qt]at hQ ⊢
    repeat' (first|(refine zaa [0,1,2,3,4,5,6,7,8,9,11,13,15,23,29,37,48,49,50,51,54,55,56,57,60,66,74,75,76,77,106,109] fun K hK=>cnd2 rfl (fun h=>?_) (fun h=>?_)<;>(try first|exact h.elim|obtain rfl:(_:Bool)=_:=h)<;>first|(exfalso;omega)|skip)|refine AWp.sqpC [0,1,2,3,4,5,6,7,8,9,11,13,15,23,29,37,48,49,50,51,54,55,56,57,60,66,74,75,76,77,106,109] fun K hK=>?_|refine AWp.sqpD [0,1,2,3,4,5,6,7,8,9,11,13,15,23,29,37,48,49,50,51,54,55,56,57,60,66,74,75,76,77,106,109] fun K hK=>?_|refine zaa [0,1,2,3,4,5,6,7,8,9,11,13,15,23,29,37,48,49,50,51,54,55,56,57,60,66,74,75,76,77,106,109] fun K hK=>AWp.label ?_|refine AWp.block ?_|(refine hK.go ?_;clear hK K)|refine Cont.go (by assumption) ?_|(refine cnd2 rfl (fun h=>?_) (fun h=>?_)<;>(try first|exact h.elim|obtain rfl:(_:Bool)=_:=h)<;>first|(exfalso;omega)|skip)|((first|refine zaa [0,1,2,3,4,5,6,7,8,9,11,13,15,23,29,37,48,49,50,51,54,55,56,57,60,66,74,75,76,77,106,109] fun K hK=>AWp.reg hE hM ?_|refine zaa [0,1,2,3,4,5,6,7,8,9,11,13,15,23,29,37,48,49,50,51,54,55,56,57,60,66,74,75,76,77,106,109] fun K hK=>AWp.regd hE hM ?_|refine AWp.reg hE hM ?_|refine AWp.regd hE hM ?_|refine AWp.ret ?_|refine AWp.label ?_|(refine zax 0 rfl ?_)|refine AWp.skip ?_|refine AWp.exit ?_|(refine pk2 (fun h=>?_) (fun h=>?_)<;>(try first|exact h.elim|obtain rfl:(_:Bool)=_:=h))|refine zj5 (fun h=>?_) ?_|refine zaB hM (c0) ?_|(refine zdV hM 4 ( c1) ?_ rfl ?_;(focus (simp -dsimp -implicitDefEqProofs (disch:=omega) only[go_sem,reduceIte,↓reduceIte,Nat.reduceEqDiff,Nat.reduceLT,Nat.reduceLeDiff,Nat.reduceAdd,Nat.reduceSub,Nat.reduceMul,Int.reduceToNat,Int.reduceLT,Int.reduceLE,Int.reduceEq,Int.reduceNeg,Int.reduceNe,reduceCtorEq,hfold,hlen0,hlen,hov,hbd0,hbd,hba,hgw,hwat]<;>fail)))|(refine hQ _ _ _ rfl ?_;clear hQ hR hE hM)|(refine hR _ _ (hQ _ _ _ rfl ?_);clear hQ hR hE hM)|(refine ob_mk ?_ ?_;focus first|omega|(refine zob ?_;(refine no_implicit_lambda% (st ?_);try with_reducible exact wT);done)))<;>try simp -dsimp -implicitDefEqProofs (disch:=omega) only[go_sem,reduceIte,↓reduceIte,Nat.reduceEqDiff,Nat.reduceLT,Nat.reduceLeDiff,Nat.reduceAdd,Nat.reduceSub,Nat.reduceMul,Int.reduceToNat,Int.reduceLT,Int.reduceLE,Int.reduceEq,Int.reduceNeg,Int.reduceNe,reduceCtorEq,hfold,hlen0,hlen,hov,hbd0,hbd,hba,hgw,hwat]))
    refine AWp.midP [3,4,6,8] [(7,.n (zcD H (frT s) (w.path++w.over)))] (True) ?_ fun hmid=>?_
    ·(have hX:=zA @hfold (zA @hlen0 (zA @hlen (zA @hov (zA @hbd0 (zA @hbd @hba)))));(repeat' first|refine zaa [0,1,2,3,4,5,6,7,8,9,11,13,15,23,29,37,48,49,50,51,54,55,56,57,60,66,74,75,76,77,106,109] fun K hK=>?_|(refine hK.go ?_;clear hK K)|with_reducible exact wT|refine wA ?_|(refine wB (fun h=>?_) (fun h=>?_)<;>first|exact wN h|subst (h:(_:Bool)=_)|skip)|(refine zax 0 rfl ?_;try (refine no_implicit_lambda% (st ?_);try with_reducible exact wT))|(refine wQ ?_;clear hQ hR hE hM)|fail);all_goals clear hX)
     refine zas (ι:=Nat) [3,4,6,7,8,48,49,50] (fun z=>[(50,.n z)]) (fun _=>[]) (fun z=>z) (2) (fun z=>(zcD H (frT s) ((([w.path,w.over]:List (List Int)).drop z).flatten)=zcD H (frT s) (w.path++w.over))) (0) ?_;rintro k ⟨hk,hg0⟩;(try dsimp only at hk hg0 ⊢);rcases Nat.lt_or_ge k 2 with hlt|hge
     ·have hout:=hg0
      obtain rfl|rfl:k=0∨k=1:=by omega
      ·(repeat' first|refine zaa [0,1,2,3,4,5,6,7,8,9,11,13,15,23,29,37,48,49,50,51,54,55,56,57,60,66,74,75,76,77,106,109] fun K hK=>?_|(refine hK.go ?_;clear hK K)|with_reducible exact wT|refine wA ?_|(refine wB (fun h=>?_) (fun h=>?_)<;>first|exact wN h|subst (h:(_:Bool)=_)|skip)|(refine zax 0 rfl ?_;try (refine no_implicit_lambda% (st ?_);try with_reducible exact wT))|(refine wQ ?_;clear hQ hR hE hM)|fail)
       refine zas (ι:=Nat) [3,4,6,7,8,48,49,50,54,55,56] (fun z=>[(56,.n z)]) (fun _=>[]) (fun z=>z) (w.path.length) (fun z=>(zcD H (frT s) (w.path.drop z++w.over)=zcD H (frT s) (w.path++w.over))) (0) ?_;rintro j ⟨hk,hj⟩;(try dsimp only at hk hj ⊢);rcases Nat.lt_or_ge j w.path.length with hlt|hge
       ·have hx:=hsec (nth w.path j) (List.mem_append_left _ (zai hlt))
        rw[zak hlt,List.cons_append,zcD]at hj
        by_cases h1:nth H (nth w.path j).toNat=0
        ·rw[if_pos h1]at hj
         have c3:=hfr (nth w.path j)
         cases hf:frT s (nth w.path j) with
         |true =>
          rw[if_pos hf]at hj
          rw[hf]at c3
          (have hX:=zA @hlen (zA @hbd (zA @hba (zA @hg1 @h1)));(repeat' first|refine zaa [0,1,2,3,4,5,6,7,8,9,11,13,15,23,29,37,48,49,50,51,54,55,56,57,60,66,74,75,76,77,106,109] fun K hK=>?_|(refine hK.go ?_;clear hK K)|with_reducible exact wT|refine wA ?_|(refine wB (fun h=>?_) (fun h=>?_)<;>first|exact wN h|subst (h:(_:Bool)=_)|skip)|(refine zax 0 rfl ?_;try (refine no_implicit_lambda% (st ?_);try with_reducible exact wT))|(refine wQ ?_;clear hQ hR hE hM)|refine wC c3 ?_|fail);all_goals clear hX)
          all_goals first|(exfalso;contradiction)|exact ⟨j+1,by omega,⟨by omega,hj⟩,by omega⟩
         |false =>
          rw[if_neg (by rw[hf];simp)]at hj
          rw[hf]at c3
          (have hX:=zA @hlen (zA @hbd (zA @hba (zA @hg1 @h1)));(repeat' first|refine zaa [0,1,2,3,4,5,6,7,8,9,11,13,15,23,29,37,48,49,50,51,54,55,56,57,60,66,74,75,76,77,106,109] fun K hK=>?_|(refine hK.go ?_;clear hK K)|with_reducible exact wT|refine wA ?_|(refine wB (fun h=>?_) (fun h=>?_)<;>first|exact wN h|subst (h:(_:Bool)=_)|skip)|(refine zax 0 rfl ?_;try (refine no_implicit_lambda% (st ?_);try with_reducible exact wT))|(refine wQ ?_;clear hQ hR hE hM)|refine wC c3 ?_|fail);all_goals clear hX)
          all_goals first|exact hj|(exfalso;contradiction)
        ·rw[if_neg h1]at hj
         (have hX:=zA @hlen (zA @hbd (zA @hba @hg1));(repeat' first|refine zaa [0,1,2,3,4,5,6,7,8,9,11,13,15,23,29,37,48,49,50,51,54,55,56,57,60,66,74,75,76,77,106,109] fun K hK=>?_|(refine hK.go ?_;clear hK K)|with_reducible exact wT|refine wA ?_|(refine wB (fun h=>?_) (fun h=>?_)<;>first|exact wN h|subst (h:(_:Bool)=_)|skip)|(refine zax 0 rfl ?_;try (refine no_implicit_lambda% (st ?_);try with_reducible exact wT))|(refine wQ ?_;clear hQ hR hE hM)|fail);all_goals clear hX)
         all_goals first|exact hj|(exfalso;contradiction)
       ·rw[List.drop_eq_nil_of_le hge]at hj
        (repeat' first|refine zaa [0,1,2,3,4,5,6,7,8,9,11,13,15,23,29,37,48,49,50,51,54,55,56,57,60,66,74,75,76,77,106,109] fun K hK=>?_|(refine hK.go ?_;clear hK K)|with_reducible exact wT|refine wA ?_|(refine wB (fun h=>?_) (fun h=>?_)<;>first|exact wN h|subst (h:(_:Bool)=_)|skip)|(refine zax 0 rfl ?_;try (refine no_implicit_lambda% (st ?_);try with_reducible exact wT))|(refine wQ ?_;clear hQ hR hE hM)|fail)
        exact ⟨1,by omega,⟨by omega,by simpa using hj⟩,rfl⟩
      ·replace hout:zcD H (frT s) (w.over.drop 0)=zcD H (frT s) (w.path++w.over):=by simpa using hout
       (repeat' first|refine zaa [0,1,2,3,4,5,6,7,8,9,11,13,15,23,29,37,48,49,50,51,54,55,56,57,60,66,74,75,76,77,106,109] fun K hK=>?_|(refine hK.go ?_;clear hK K)|with_reducible exact wT|refine wA ?_|(refine wB (fun h=>?_) (fun h=>?_)<;>first|exact wN h|subst (h:(_:Bool)=_)|skip)|(refine zax 0 rfl ?_;try (refine no_implicit_lambda% (st ?_);try with_reducible exact wT))|(refine wQ ?_;clear hQ hR hE hM)|fail)
       refine zas (ι:=Nat) [3,4,6,7,8,48,49,50,54,55,56] (fun z=>[(56,.n z)]) (fun _=>[]) (fun z=>z) (w.over.length) (fun z=>(zcD H (frT s) (w.over.drop z)=zcD H (frT s) (w.path++w.over))) (0) ?_;rintro j ⟨hk,hj⟩;(try dsimp only at hk hj ⊢);rcases Nat.lt_or_ge j w.over.length with hlt|hge
       ·have hx:=hsec (nth w.over j) (List.mem_append_right _ (zai hlt))
        rw[zak hlt,zcD]at hj
        by_cases h1:nth H (nth w.over j).toNat=0
        ·rw[if_pos h1]at hj
         have c3:=hfr (nth w.over j)
         cases hf:frT s (nth w.over j) with
         |true =>
          rw[if_pos hf]at hj
          rw[hf]at c3
          (have hX:=zA @hlen (zA @hbd (zA @hba (zA @hg1 @h1)));(repeat' first|refine zaa [0,1,2,3,4,5,6,7,8,9,11,13,15,23,29,37,48,49,50,51,54,55,56,57,60,66,74,75,76,77,106,109] fun K hK=>?_|(refine hK.go ?_;clear hK K)|with_reducible exact wT|refine wA ?_|(refine wB (fun h=>?_) (fun h=>?_)<;>first|exact wN h|subst (h:(_:Bool)=_)|skip)|(refine zax 0 rfl ?_;try (refine no_implicit_lambda% (st ?_);try with_reducible exact wT))|(refine wQ ?_;clear hQ hR hE hM)|refine wC c3 ?_|fail);all_goals clear hX)
          all_goals first|(exfalso;contradiction)|exact ⟨j+1,by omega,⟨by omega,hj⟩,by omega⟩
         |false =>
          rw[if_neg (by rw[hf];simp)]at hj
          rw[hf]at c3
          (have hX:=zA @hlen (zA @hbd (zA @hba (zA @hg1 @h1)));(repeat' first|refine zaa [0,1,2,3,4,5,6,7,8,9,11,13,15,23,29,37,48,49,50,51,54,55,56,57,60,66,74,75,76,77,106,109] fun K hK=>?_|(refine hK.go ?_;clear hK K)|with_reducible exact wT|refine wA ?_|(refine wB (fun h=>?_) (fun h=>?_)<;>first|exact wN h|subst (h:(_:Bool)=_)|skip)|(refine zax 0 rfl ?_;try (refine no_implicit_lambda% (st ?_);try with_reducible exact wT))|(refine wQ ?_;clear hQ hR hE hM)|refine wC c3 ?_|fail);all_goals clear hX)
          all_goals first|exact hj|(exfalso;contradiction)
        ·rw[if_neg h1]at hj
         (have hX:=zA @hlen (zA @hbd (zA @hba @hg1));(repeat' first|refine zaa [0,1,2,3,4,5,6,7,8,9,11,13,15,23,29,37,48,49,50,51,54,55,56,57,60,66,74,75,76,77,106,109] fun K hK=>?_|(refine hK.go ?_;clear hK K)|with_reducible exact wT|refine wA ?_|(refine wB (fun h=>?_) (fun h=>?_)<;>first|exact wN h|subst (h:(_:Bool)=_)|skip)|(refine zax 0 rfl ?_;try (refine no_implicit_lambda% (st ?_);try with_reducible exact wT))|(refine wQ ?_;clear hQ hR hE hM)|fail);all_goals clear hX)
         all_goals first|exact hj|(exfalso;contradiction)
       ·rw[List.drop_eq_nil_of_le hge]at hj
        (repeat' first|refine zaa [0,1,2,3,4,5,6,7,8,9,11,13,15,23,29,37,48,49,50,51,54,55,56,57,60,66,74,75,76,77,106,109] fun K hK=>?_|(refine hK.go ?_;clear hK K)|with_reducible exact wT|refine wA ?_|(refine wB (fun h=>?_) (fun h=>?_)<;>first|exact wN h|subst (h:(_:Bool)=_)|skip)|(refine zax 0 rfl ?_;try (refine no_implicit_lambda% (st ?_);try with_reducible exact wT))|(refine wQ ?_;clear hQ hR hE hM)|fail)
        exact ⟨2,by omega,⟨by omega,by simpa using hj⟩,rfl⟩
     ·obtain rfl:k=2:=by omega
      (repeat' first|refine zaa [0,1,2,3,4,5,6,7,8,9,11,13,15,23,29,37,48,49,50,51,54,55,56,57,60,66,74,75,76,77,106,109] fun K hK=>?_|(refine hK.go ?_;clear hK K)|with_reducible exact wT|refine wA ?_|(refine wB (fun h=>?_) (fun h=>?_)<;>first|exact wN h|subst (h:(_:Bool)=_)|skip)|(refine zax 0 rfl ?_;try (refine no_implicit_lambda% (st ?_);try with_reducible exact wT))|(refine wQ ?_;clear hQ hR hE hM)|fail)
      all_goals first|exact hg0|(simpa using hg0)
    ·(have hX:=zA @hlen (zA @hbd @hba);(repeat' first|refine zaa [0,1,2,3,4,5,6,7,8,9,11,13,15,23,29,37,48,49,50,51,54,55,56,57,60,66,74,75,76,77,106,109] fun K hK=>?_|(refine hK.go ?_;clear hK K)|with_reducible exact wT|refine wA ?_|(refine wB (fun h=>?_) (fun h=>?_)<;>first|exact wN h|subst (h:(_:Bool)=_)|skip)|(refine zax 0 rfl ?_;try (refine no_implicit_lambda% (st ?_);try with_reducible exact wT))|(refine wQ ?_;clear hQ hR hE hM)|fail);all_goals clear hX)
     refine zas (ι:=Nat×Int) [3,4,6,7,8,74,75,76] (fun z=>[(7,.n z.2),(76,.n z.1)]) (fun _=>[]) (fun z=>z.1) (w.asks.length) (fun z=>(askE ok z.2 (w.asks.drop z.1)=askE ok (zcD H (frT s) (w.path++w.over)) w.asks)) (0,(zcD H (frT s) (w.path++w.over))) ?_;rintro ⟨k,e⟩ ⟨hk,hq⟩;(try dsimp only at hk hq ⊢);rcases Nat.lt_or_ge k w.asks.length with hlt|hge
     ·obtain ⟨ha1,ha2,⟨j,hj,d1,hcall⟩,d2⟩:=hask k hlt
      have d3:=hfr (zdp p (nth w.asks k).pnt)
      have hok3:=hok2 (nth w.asks k)
      rw[zak hlt,askE]at hq
      by_cases he:e=0
      ·subst he
       rw[if_pos rfl]at hq
       by_cases h1:zb6 s (nth w.asks k).pnt=(nth w.asks k).lie
       ·rw[hok3,decide_eq_true h1,Bool.true_or,if_pos rfl]at hq
        have h2:decide ((nth s.switches j).call=(nth w.asks k).lie)=true:=decide_eq_true (hcall.trans h1)
        (have hX:=zA @hlen (zA @hbd (zA @hba (zA @hg2 @h2)));(repeat' first|refine zaa [0,1,2,3,4,5,6,7,8,9,11,13,15,23,29,37,48,49,50,51,54,55,56,57,60,66,74,75,76,77,106,109] fun K hK=>?_|(refine hK.go ?_;clear hK K)|with_reducible exact wT|refine wA ?_|(refine wB (fun h=>?_) (fun h=>?_)<;>first|exact wN h|subst (h:(_:Bool)=_)|skip)|(refine zax 0 rfl ?_;try (refine no_implicit_lambda% (st ?_);try with_reducible exact wT))|(refine wQ ?_;clear hQ hR hE hM)|refine wC d1 ?_|refine wC d2 ?_|refine wC d3 ?_|fail);all_goals clear hX)
        all_goals first|(exfalso;contradiction)|exact ⟨(k+1,0),by dsimp only;omega,⟨by dsimp only;omega,hq⟩,rfl,by dsimp only;omega⟩
       ·have h2:decide ((nth s.switches j).call=(nth w.asks k).lie)=false:=decide_eq_false (fun e=>h1 (hcall.symm.trans e))
        rw[hok3,decide_eq_false h1,Bool.false_or]at hq
        by_cases h3:nth A (nth w.asks k).pnt.toNat=0
        ·rw[decide_eq_true h3,Bool.true_and]at hq
         cases hf:frT s (zdp p (nth w.asks k).pnt) with
         |true =>
          rw[if_pos hf]at hq
          rw[hf]at d3
          (have hX:=zA @hlen (zA @hbd (zA @hba (zA @hg2 (zA @h2 @h3))));(repeat' first|refine zaa [0,1,2,3,4,5,6,7,8,9,11,13,15,23,29,37,48,49,50,51,54,55,56,57,60,66,74,75,76,77,106,109] fun K hK=>?_|(refine hK.go ?_;clear hK K)|with_reducible exact wT|refine wA ?_|(refine wB (fun h=>?_) (fun h=>?_)<;>first|exact wN h|subst (h:(_:Bool)=_)|skip)|(refine zax 0 rfl ?_;try (refine no_implicit_lambda% (st ?_);try with_reducible exact wT))|(refine wQ ?_;clear hQ hR hE hM)|refine wC d1 ?_|refine wC d2 ?_|refine wC d3 ?_|fail);all_goals clear hX)
          all_goals first|(exfalso;contradiction)|exact ⟨(k+1,0),by dsimp only;omega,⟨by dsimp only;omega,hq⟩,rfl,by dsimp only;omega⟩
         |false =>
          rw[if_neg (by rw[hf];simp)]at hq
          rw[hf]at d3
          (have hX:=zA @hlen (zA @hbd (zA @hba (zA @hg2 (zA @h2 @h3))));(repeat' first|refine zaa [0,1,2,3,4,5,6,7,8,9,11,13,15,23,29,37,48,49,50,51,54,55,56,57,60,66,74,75,76,77,106,109] fun K hK=>?_|(refine hK.go ?_;clear hK K)|with_reducible exact wT|refine wA ?_|(refine wB (fun h=>?_) (fun h=>?_)<;>first|exact wN h|subst (h:(_:Bool)=_)|skip)|(refine zax 0 rfl ?_;try (refine no_implicit_lambda% (st ?_);try with_reducible exact wT))|(refine wQ ?_;clear hQ hR hE hM)|refine wC d1 ?_|refine wC d2 ?_|refine wC d3 ?_|fail);all_goals clear hX)
          all_goals first|(exfalso;contradiction)|exact ⟨(k+1,183),by dsimp only;omega,⟨by dsimp only;omega,hq⟩,rfl,by dsimp only;omega⟩
        ·rw[decide_eq_false h3,Bool.false_and,if_neg (by simp)]at hq
         have h4:decide (nth A (nth w.asks k).pnt.toNat=0)=false:=decide_eq_false h3
         (have hX:=zA @hlen (zA @hbd (zA @hba (zA @hg2 (zA @h2 @h4))));(repeat' first|refine zaa [0,1,2,3,4,5,6,7,8,9,11,13,15,23,29,37,48,49,50,51,54,55,56,57,60,66,74,75,76,77,106,109] fun K hK=>?_|(refine hK.go ?_;clear hK K)|with_reducible exact wT|refine wA ?_|(refine wB (fun h=>?_) (fun h=>?_)<;>first|exact wN h|subst (h:(_:Bool)=_)|skip)|(refine zax 0 rfl ?_;try (refine no_implicit_lambda% (st ?_);try with_reducible exact wT))|(refine wQ ?_;clear hQ hR hE hM)|refine wC d1 ?_|refine wC d2 ?_|refine wC d3 ?_|fail);all_goals clear hX)
         all_goals first|(exfalso;contradiction)|exact ⟨(k+1,183),by dsimp only;omega,⟨by dsimp only;omega,hq⟩,rfl,by dsimp only;omega⟩
      ·rw[if_neg he]at hq
       have hed:decide (e=0)=false:=decide_eq_false he
       (have hX:=zA @hlen (zA @hbd (zA @hba @hed));(repeat' first|refine zaa [0,1,2,3,4,5,6,7,8,9,11,13,15,23,29,37,48,49,50,51,54,55,56,57,60,66,74,75,76,77,106,109] fun K hK=>?_|(refine hK.go ?_;clear hK K)|with_reducible exact wT|refine wA ?_|(refine wB (fun h=>?_) (fun h=>?_)<;>first|exact wN h|subst (h:(_:Bool)=_)|skip)|(refine zax 0 rfl ?_;try (refine no_implicit_lambda% (st ?_);try with_reducible exact wT))|(refine wQ ?_;clear hQ hR hE hM)|fail);all_goals clear hX)
       all_goals first|(exfalso;contradiction)|exact ⟨(k+1,e),by dsimp only;omega,⟨by dsimp only;omega,hq⟩,rfl,by dsimp only;omega⟩
     ·rw[List.drop_eq_nil_of_le hge,askE]at hq
      (repeat' first|refine zaa [0,1,2,3,4,5,6,7,8,9,11,13,15,23,29,37,48,49,50,51,54,55,56,57,60,66,74,75,76,77,106,109] fun K hK=>?_|(refine hK.go ?_;clear hK K)|with_reducible exact wT|refine wA ?_|(refine wB (fun h=>?_) (fun h=>?_)<;>first|exact wN h|subst (h:(_:Bool)=_)|skip)|(refine zax 0 rfl ?_;try (refine no_implicit_lambda% (st ?_);try with_reducible exact wT))|(refine wQ ?_;clear hQ hR hE hM)|fail)
      all_goals first|exact hq|rw[hq]|skip
   ·rw[if_neg hph,if_neg hph]
    refine PC.fn hH cd171 fun w0 M Q hM hE hQ hR=>?_;dsimp only[cd171,qm,ql,qf,qi,qb,qc,qp,qv,qN,qT,qF,qt]at hQ ⊢
    (have hX:=zA @hfold (zA @hlen0 (zA @hlen (zA @hov (zA @hbd0 (zA @hbd @hba)))));(repeat' first|refine zaa [0,1,2,3,4,5,6,7,8,9,11,13,15,23,29,37,48,49,50,51,54,55,56,57,60,66,74,75,76,77,106,109] fun K hK=>?_|(refine hK.go ?_;clear hK K)|with_reducible exact wT|refine wA ?_|(refine wB (fun h=>?_) (fun h=>?_)<;>first|exact wN h|subst (h:(_:Bool)=_)|skip)|(refine zax 0 rfl ?_;try (refine no_implicit_lambda% (st ?_);try with_reducible exact wT))|(refine wQ ?_;clear hQ hR hE hM)|refine wC c0 ?_|refine wS c1 ?_|fail);all_goals clear hX)
    all_goals first|rfl|(exfalso;contradiction)|skip
 ·rw[show lkW p s n=WayR.z by unfold lkW;rw[if_neg hst],show lkC p s n=zam p s by unfold lkC;rw[if_neg hst]]
  rw[←hRe]at hst ⊢
  revert c0 hRl hst
  generalize ofR p s=R
  obtain ⟨G,Z,hg⟩:=zhn
  rw[←hg.eq]
  intro c0 hRl hst
  have hfold:=hg.fold
  have hlen0:=hg.len (.s0 4) hg.zl hg.zl
  have hlen:=hg.len (.sl 4 (R.ways.map Way.c)) hRl.1 hRl.2
  have hov:=hg.ov (.s0 4) (.sl 4 (R.ways.map Way.c)) hg.zl hg.zl hRl.1 hRl.2
  have hbd0:=hg.bd0 Z Z
  have hbd:=hg.bd R.hold R.ask (R.ways.map Way.c)
  have hba:=hg.ba R.hold R.ask (R.ways.map Way.c)
  refine PC.fn hH cd171 fun w0 M Q hM hE hQ hR=>?_;dsimp only[cd171,qm,ql,qf,qi,qb,qc,qp,qv,qN,qT,qF,qt]at hQ ⊢
  (have hX:=zA @hfold (zA @hlen0 (zA @hlen (zA @hov (zA @hbd0 (zA @hbd @hba)))));(repeat' first|refine zaa [0,1,2,3,4,5,6,7,8,9,11,13,15,23,29,37,48,49,50,51,54,55,56,57,60,66,74,75,76,77,106,109] fun K hK=>?_|(refine hK.go ?_;clear hK K)|with_reducible exact wT|refine wA ?_|(refine wB (fun h=>?_) (fun h=>?_)<;>first|exact wN h|subst (h:(_:Bool)=_)|skip)|(refine zax 0 rfl ?_;try (refine no_implicit_lambda% (st ?_);try with_reducible exact wT))|(refine wQ ?_;clear hQ hR hE hM)|refine wC c0 ?_|refine wS c1 ?_|fail);all_goals clear hX)
  all_goals first|rfl|(exfalso;contradiction)|skip
end Go.Lev
