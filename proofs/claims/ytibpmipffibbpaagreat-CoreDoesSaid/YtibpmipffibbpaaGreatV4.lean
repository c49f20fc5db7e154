/-
  A part of the engine that walks the functions' codes, and of the functions' contracts. Conditions: those that each theorem names.
-/
import Derived.Test.YtibpmipffibbpaaGreatV3
import Derived.IntWalk
set_option linter.unusedSimpArgs false
set_option linter.unusedVariables false
set_option linter.unusedSectionVars false
namespace Go.Lev
open Go.Eng
set_option maxRecDepth 10000
set_option maxHeartbeats 4000000
variable {P:Program} {inv:Nat->Option Nat} {w0:World} {M:Nat->Prop}
theorem zmg (hH:HasAll P inv) (hM:∀ b,M b->b<w0.heap.size) (p:Pln) (hp:Sm p) (r:Rte) (x y:Sgn) (w:Wk) (all:List Int) (i:Int) (s:Int) (ba bo:Bool) (hw:w.asks.length<=1000000) (hw2:w.outs.length<=1000000) :
  AC P inv w0 M 30 102 [.ptr 5 11 0,.n s,.n i,.fn 103 []] (stW p r x y w all i s ba bo) fun r0 σ'=>r0=.tup []/\σ'=stW p r x y (zaD p w s i (fun _ j=>decide (j=⟨0,0⟩))) all i s (ba||decide (w.asks.length<(zaD p w s i (fun _ j=>decide (j=⟨0,0⟩))).asks.length)) (bo||decide (w.outs.length<(zaD p w s i (fun _ j=>decide (j=⟨0,0⟩))).outs.length)):=by
 have hs:=zb7 (fun t:Section=>decide (t.id=s)) p.sections 0
 have c0:=zim hH p.sections (fun t _=>zhs hH s t) (Nat.le_trans hp.sec (by omega))
 have hl:=hp.sec
 obtain ⟨inn,asks,outs,lost⟩:=w
 dsimp only at hw hw2
 generalize hW:zaD p ⟨inn,asks,outs,lost⟩ s i (fun _ j=>decide (j=⟨0,0⟩))=W
 unfold zaD zhb zi9 at hW
 dsimp only at hW
 rcases hs with ⟨h1,h2⟩|⟨k0,hk0,h1,h2⟩
 ·rw[h1]at c0
  rw[h2,ite_self]at hW
  refine za4 (F:=cd102) (hH.has _ _ rfl) rfl (Nat.le_of_ble_eq_true rfl) fun Q hQ hR=>?_;have hE:=hH.callable;dsimp only[cd102,qm,ql,qf,qi,qb,qc,qv,qN,qF,qt]at hQ |-
  skip
  unfold stW
  (refine wD ?_;try with_reducible exact wT)
  (repeat' first|refine zaa [0,1,2,3,4,5,8,9,10,11,12,13,17,18,19,20,23,32,49] fun K hK=>?_|(refine hK.go ?_;clear hK K)|with_reducible exact wT|refine wA ?_|(refine wB (fun h=>?_) (fun h=>?_)<;>first|exact wN h|subst (h:(_:Bool)=_)|skip)|(refine wQ ?_;clear hQ hR)|(refine AC.callK 30 (by omega) (by first|omega|exact wF|((refine wD ?_;try with_reducible exact wT);omega)) (zao (F:=cd130) (hH.has _ _ rfl) (Nat.le_of_ble_eq_true rfl) fun Q hQ hR=>?_);dsimp only[cd130,qm,ql,qf,qi,qb,qc,qv,qN,qF,qt]at hQ |-;try refine wD ?_)|(refine AC.callK 40 (by omega) (by first|omega|exact wF|((refine wD ?_;try with_reducible exact wT);omega)) (zao (F:=cd107) (hH.has _ _ rfl) (Nat.le_of_ble_eq_true rfl) fun Q hQ hR=>?_);dsimp only[cd107,qm,ql,qf,qc,qp,qN,qT,qt]at hQ |-;try refine wD ?_)|refine wS c0 ?_|fail)
  all_goals (refine zam (ι:=Nat) [0,1,2,3,8,17,18,19] (fun z=>[(19,.n z)]) (fun _=>[]) (fun z=>z) (0) (fun _=>True) (0) ?_;rintro k ⟨hk,-⟩;(try dsimp only at hk |-);rcases Nat.lt_or_ge k 0 with hlt|hge)
  all_goals first|(exfalso;omega)|skip
  all_goals (repeat' first|refine zaa [0,1,2,3,4,5,8,9,10,11,12,13,17,18,19,20,23,32,49] fun K hK=>?_|(refine hK.go ?_;clear hK K)|with_reducible exact wT|refine wA ?_|(refine wB (fun h=>?_) (fun h=>?_)<;>first|exact wN h|subst (h:(_:Bool)=_)|skip)|(refine wQ ?_;clear hQ hR)|fail)
  all_goals (have hW':W=⟨inn,asks,outs,true⟩:=(by rw[<-hW];split<;>simp_all);subst hW';refine ⟨[],trivial, ?_⟩;simp only[swS,stW,Wk.c];(refine wD ?_;try with_reducible exact wT);(try simp))
 ·rw[h1,Int.zero_add]at c0
  rw[h2]at hW
  by_cases hin:inn.to=s
  ·rw[if_pos hin]at hW
   dsimp only at hW
   have hse:=hp.ends _ (zab hk0)
   revert hW hse
   generalize hS:nth p.sections k0=S
   intro hW hse
   cases lost with
   |true =>
    rw[if_pos rfl]at hW
    subst hW
    refine za4 (F:=cd102) (hH.has _ _ rfl) rfl (Nat.le_of_ble_eq_true rfl) fun Q hQ hR=>?_;have hE:=hH.callable;dsimp only[cd102,qm,ql,qf,qi,qb,qc,qv,qN,qF,qt]at hQ |-
    skip
    unfold stW
    (refine wD ?_;try with_reducible exact wT)
    (have hX:=@hS;(repeat' first|refine zaa [0,1,2,3,4,5,8,9,10,11,12,13,17,18,19,20,23,32,49] fun K hK=>?_|(refine hK.go ?_;clear hK K)|with_reducible exact wT|refine wA ?_|(refine wB (fun h=>?_) (fun h=>?_)<;>first|exact wN h|subst (h:(_:Bool)=_)|skip)|(refine wQ ?_;clear hQ hR)|(refine AC.callK 30 (by omega) (by first|omega|exact wF|((refine wD ?_;try with_reducible exact wT);omega)) (zao (F:=cd130) (hH.has _ _ rfl) (Nat.le_of_ble_eq_true rfl) fun Q hQ hR=>?_);dsimp only[cd130,qm,ql,qf,qi,qb,qc,qv,qN,qF,qt]at hQ |-;try refine wD ?_)|(refine AC.callK 40 (by omega) (by first|omega|exact wF|((refine wD ?_;try with_reducible exact wT);omega)) (zao (F:=cd107) (hH.has _ _ rfl) (Nat.le_of_ble_eq_true rfl) fun Q hQ hR=>?_);dsimp only[cd107,qm,ql,qf,qc,qp,qN,qT,qt]at hQ |-;try refine wD ?_)|refine wS c0 ?_|fail);all_goals clear hX)
    all_goals first|(exfalso;contradiction)|skip
    refine zam (ι:=Nat) [0,1,2,3,8,17,18,19] (fun z=>[(19,.n z)]) (fun _=>[]) (fun z=>z) (S.ends.length) (fun _=>True) (0) ?_;rintro k ⟨hk,-⟩;(try dsimp only at hk |-);rcases Nat.lt_or_ge k S.ends.length with hlt|hge
    ·have c1:=zcz hH S inn.ed k
     revert c1
     generalize zbc S inn.ed k=v
     intro c1
     (repeat' first|refine zaa [0,1,2,3,4,5,8,9,10,11,12,13,17,18,19,20,23,32,49] fun K hK=>?_|(refine hK.go ?_;clear hK K)|with_reducible exact wT|refine wA ?_|(refine wB (fun h=>?_) (fun h=>?_)<;>first|exact wN h|subst (h:(_:Bool)=_)|skip)|(refine wQ ?_;clear hQ hR)|refine wC c1 ?_|fail)
     all_goals exact ⟨k+1,by omega,by omega,by omega⟩
    ·(repeat' first|refine zaa [0,1,2,3,4,5,8,9,10,11,12,13,17,18,19,20,23,32,49] fun K hK=>?_|(refine hK.go ?_;clear hK K)|with_reducible exact wT|refine wA ?_|(refine wB (fun h=>?_) (fun h=>?_)<;>first|exact wN h|subst (h:(_:Bool)=_)|skip)|(refine wQ ?_;clear hQ hR)|fail)
     refine ⟨[],trivial, ?_⟩;simp only[swS,stW,Wk.c];(refine wD ?_;try with_reducible exact wT);(try simp)
   |false =>
    rw[if_neg (by simp)]at hW
    refine za4 (F:=cd102) (hH.has _ _ rfl) rfl (Nat.le_of_ble_eq_true rfl) fun Q hQ hR=>?_;have hE:=hH.callable;dsimp only[cd102,qm,ql,qf,qi,qb,qc,qv,qN,qF,qt]at hQ |-
    skip
    unfold stW
    (refine wD ?_;try with_reducible exact wT)
    (have hX:=@hS;(repeat' first|refine zaa [0,1,2,3,4,5,8,9,10,11,12,13,17,18,19,20,23,32,49] fun K hK=>?_|(refine hK.go ?_;clear hK K)|with_reducible exact wT|refine wA ?_|(refine wB (fun h=>?_) (fun h=>?_)<;>first|exact wN h|subst (h:(_:Bool)=_)|skip)|(refine wQ ?_;clear hQ hR)|(refine AC.callK 30 (by omega) (by first|omega|exact wF|((refine wD ?_;try with_reducible exact wT);omega)) (zao (F:=cd130) (hH.has _ _ rfl) (Nat.le_of_ble_eq_true rfl) fun Q hQ hR=>?_);dsimp only[cd130,qm,ql,qf,qi,qb,qc,qv,qN,qF,qt]at hQ |-;try refine wD ?_)|(refine AC.callK 40 (by omega) (by first|omega|exact wF|((refine wD ?_;try with_reducible exact wT);omega)) (zao (F:=cd107) (hH.has _ _ rfl) (Nat.le_of_ble_eq_true rfl) fun Q hQ hR=>?_);dsimp only[cd107,qm,ql,qf,qc,qp,qN,qT,qt]at hQ |-;try refine wD ?_)|refine wS c0 ?_|fail);all_goals clear hX)
    all_goals first|(exfalso;contradiction)|skip
    refine zam (ι:=Nat) [0,1,2,3,8,17,18,19] (fun z=>[(19,.n z)]) (fun _=>[]) (fun z=>z) (S.ends.length) (fun z=>(zaV S inn.ed (fun _ j=>decide (j=⟨0,0⟩)) z (S.ends.drop z)=zaV S inn.ed (fun _ j=>decide (j=⟨0,0⟩)) 0 S.ends)) (0) ?_;rintro k ⟨hk,hg⟩;(try dsimp only at hk hg |-);rcases Nat.lt_or_ge k S.ends.length with hlt|hge
    ·rw[zaf hlt,zaV]at hg
     have c1:=zcz hH S inn.ed k
     have c2:=zp4 hH k (nth S.ends k)
     revert c1 c2 hg
     generalize zbc S inn.ed k=v
     generalize hb:decide (nth S.ends k=⟨0,0⟩)=b
     intro hg c1 c2
     (repeat' first|refine zaa [0,1,2,3,4,5,8,9,10,11,12,13,17,18,19,20,23,32,49] fun K hK=>?_|(refine hK.go ?_;clear hK K)|with_reducible exact wT|refine wA ?_|(refine wB (fun h=>?_) (fun h=>?_)<;>first|exact wN h|subst (h:(_:Bool)=_)|skip)|(refine wQ ?_;clear hQ hR)|refine wC c1 ?_|refine wC c2 ?_|(refine AC.callK 40 (by omega) (by first|omega|exact wF|((refine wD ?_;try with_reducible exact wT);omega)) (zao (F:=cd107) (hH.has _ _ rfl) (Nat.le_of_ble_eq_true rfl) fun Q hQ hR=>?_);dsimp only[cd107,qm,ql,qf,qc,qp,qN,qT,qt]at hQ |-;try refine wD ?_)|fail)
     all_goals first|(refine ⟨k+1,by omega,⟨by omega, ?_⟩,by omega⟩;rw[<-hg,if_neg (by simp[*])];done)|skip
     all_goals (rw[if_pos ⟨by assumption,rfl⟩]at hg;rw[<-hg]at hW;dsimp only at hW)
     all_goals (first|rw[if_pos ⟨by assumption,by assumption⟩]at hW|rw[if_neg (fun hh=>absurd hh.1 (by assumption))]at hW|rw[if_neg (fun hh=>absurd hh.2 (by assumption))]at hW)
     all_goals (subst hW;refine ⟨[],trivial, ?_⟩;simp only[swS,stW,Wk.c];(refine wD ?_;try with_reducible exact wT);(try simp[AskR.c,Join.c]))
    ·rw[List.drop_eq_nil_of_le hge,zaV]at hg
     (repeat' first|refine zaa [0,1,2,3,4,5,8,9,10,11,12,13,17,18,19,20,23,32,49] fun K hK=>?_|(refine hK.go ?_;clear hK K)|with_reducible exact wT|refine wA ?_|(refine wB (fun h=>?_) (fun h=>?_)<;>first|exact wN h|subst (h:(_:Bool)=_)|skip)|(refine wQ ?_;clear hQ hR)|fail)
     rw[<-hg]at hW
     dsimp only at hW
     subst hW
     refine ⟨[],trivial, ?_⟩;simp only[swS,stW,Wk.c];(refine wD ?_;try with_reducible exact wT);(try simp)
  ·have hW':W=⟨inn,asks,outs,true⟩:=by rw[<-hW,if_neg hin];split<;>simp_all
   clear hW
   refine za4 (F:=cd102) (hH.has _ _ rfl) rfl (Nat.le_of_ble_eq_true rfl) fun Q hQ hR=>?_;have hE:=hH.callable;dsimp only[cd102,qm,ql,qf,qi,qb,qc,qv,qN,qF,qt]at hQ |-
   skip
   unfold stW
   (refine wD ?_;try with_reducible exact wT)
   (repeat' first|refine zaa [0,1,2,3,4,5,8,9,10,11,12,13,17,18,19,20,23,32,49] fun K hK=>?_|(refine hK.go ?_;clear hK K)|with_reducible exact wT|refine wA ?_|(refine wB (fun h=>?_) (fun h=>?_)<;>first|exact wN h|subst (h:(_:Bool)=_)|skip)|(refine wQ ?_;clear hQ hR)|(refine AC.callK 30 (by omega) (by first|omega|exact wF|((refine wD ?_;try with_reducible exact wT);omega)) (zao (F:=cd130) (hH.has _ _ rfl) (Nat.le_of_ble_eq_true rfl) fun Q hQ hR=>?_);dsimp only[cd130,qm,ql,qf,qi,qb,qc,qv,qN,qF,qt]at hQ |-;try refine wD ?_)|(refine AC.callK 40 (by omega) (by first|omega|exact wF|((refine wD ?_;try with_reducible exact wT);omega)) (zao (F:=cd107) (hH.has _ _ rfl) (Nat.le_of_ble_eq_true rfl) fun Q hQ hR=>?_);dsimp only[cd107,qm,ql,qf,qc,qp,qN,qT,qt]at hQ |-;try refine wD ?_)|refine wS c0 ?_|fail)
   all_goals first|(exfalso;contradiction)|skip
   all_goals (refine zam (ι:=Nat) [0,1,2,3,8,17,18,19] (fun z=>[(19,.n z)]) (fun _=>[]) (fun z=>z) (0) (fun _=>True) (0) ?_;rintro k ⟨hk,-⟩;(try dsimp only at hk |-);rcases Nat.lt_or_ge k 0 with hlt|hge)
   all_goals first|(exfalso;omega)|skip
   all_goals (repeat' first|refine zaa [0,1,2,3,4,5,8,9,10,11,12,13,17,18,19,20,23,32,49] fun K hK=>?_|(refine hK.go ?_;clear hK K)|with_reducible exact wT|refine wA ?_|(refine wB (fun h=>?_) (fun h=>?_)<;>first|exact wN h|subst (h:(_:Bool)=_)|skip)|(refine wQ ?_;clear hQ hR)|fail)
   all_goals (subst hW';refine ⟨[],trivial, ?_⟩;simp only[swS,stW,Wk.c];(refine wD ?_;try with_reducible exact wT);(try simp))
theorem zmf (hH:HasAll P inv) (hM:∀ b,M b->b<w0.heap.size) (p:Pln) (hp:Sm p) (r:Rte) (x y:Sgn) (w:Wk) (all:List Int) (i:Int) (s:Int) (ba bo:Bool) (hw:w.asks.length<=1000000) (hw2:w.outs.length<=1000000) :
  AC P inv w0 M 30 102 [.ptr 5 11 0,.n s,.n i,.fn 104 [.ptr 23 1 0,.ptr 4 3 0]] (stW p r x y w all i s ba bo) fun r0 σ'=>r0=.tup []/\σ'=stW p r x y (zaD p w s i (fun e _=>decide (s=y.sec)&&decide (e=y.ed))) all i s (ba||decide (w.asks.length<(zaD p w s i (fun e _=>decide (s=y.sec)&&decide (e=y.ed))).asks.length)) (bo||decide (w.outs.length<(zaD p w s i (fun e _=>decide (s=y.sec)&&decide (e=y.ed))).outs.length)):=by
 have hs:=zb7 (fun t:Section=>decide (t.id=s)) p.sections 0
 have c0:=zim hH p.sections (fun t _=>zhs hH s t) (Nat.le_trans hp.sec (by omega))
 have hl:=hp.sec
 obtain ⟨inn,asks,outs,lost⟩:=w
 dsimp only at hw hw2
 generalize hW:zaD p ⟨inn,asks,outs,lost⟩ s i (fun e _=>decide (s=y.sec)&&decide (e=y.ed))=W
 unfold zaD zhb zi9 at hW
 dsimp only at hW
 rcases hs with ⟨h1,h2⟩|⟨k0,hk0,h1,h2⟩
 ·rw[h1]at c0
  rw[h2,ite_self]at hW
  refine za4 (F:=cd102) (hH.has _ _ rfl) rfl (Nat.le_of_ble_eq_true rfl) fun Q hQ hR=>?_;have hE:=hH.callable;dsimp only[cd102,qm,ql,qf,qi,qb,qc,qv,qN,qF,qt]at hQ |-
  skip
  unfold stW
  (refine wD ?_;try with_reducible exact wT)
  (repeat' first|refine zaa [0,1,2,3,4,5,8,9,10,11,12,13,17,18,19,20,23,32,49] fun K hK=>?_|(refine hK.go ?_;clear hK K)|with_reducible exact wT|refine wA ?_|(refine wB (fun h=>?_) (fun h=>?_)<;>first|exact wN h|subst (h:(_:Bool)=_)|skip)|(refine wQ ?_;clear hQ hR)|(refine AC.callK 30 (by omega) (by first|omega|exact wF|((refine wD ?_;try with_reducible exact wT);omega)) (zao (F:=cd130) (hH.has _ _ rfl) (Nat.le_of_ble_eq_true rfl) fun Q hQ hR=>?_);dsimp only[cd130,qm,ql,qf,qi,qb,qc,qv,qN,qF,qt]at hQ |-;try refine wD ?_)|(refine AC.callK 40 (by omega) (by first|omega|exact wF|((refine wD ?_;try with_reducible exact wT);omega)) (zao (F:=cd107) (hH.has _ _ rfl) (Nat.le_of_ble_eq_true rfl) fun Q hQ hR=>?_);dsimp only[cd107,qm,ql,qf,qc,qp,qN,qT,qt]at hQ |-;try refine wD ?_)|refine wS c0 ?_|fail)
  all_goals (refine zam (ι:=Nat) [0,1,2,3,8,17,18,19] (fun z=>[(19,.n z)]) (fun _=>[]) (fun z=>z) (0) (fun _=>True) (0) ?_;rintro k ⟨hk,-⟩;(try dsimp only at hk |-);rcases Nat.lt_or_ge k 0 with hlt|hge)
  all_goals first|(exfalso;omega)|skip
  all_goals (repeat' first|refine zaa [0,1,2,3,4,5,8,9,10,11,12,13,17,18,19,20,23,32,49] fun K hK=>?_|(refine hK.go ?_;clear hK K)|with_reducible exact wT|refine wA ?_|(refine wB (fun h=>?_) (fun h=>?_)<;>first|exact wN h|subst (h:(_:Bool)=_)|skip)|(refine wQ ?_;clear hQ hR)|fail)
  all_goals (have hW':W=⟨inn,asks,outs,true⟩:=(by rw[<-hW];split<;>simp_all);subst hW';refine ⟨[],trivial, ?_⟩;simp only[swS,stW,Wk.c];(refine wD ?_;try with_reducible exact wT);(try simp))
 ·rw[h1,Int.zero_add]at c0
  rw[h2]at hW
  by_cases hin:inn.to=s
  ·rw[if_pos hin]at hW
   dsimp only at hW
   have hse:=hp.ends _ (zab hk0)
   revert hW hse
   generalize hS:nth p.sections k0=S
   intro hW hse
   cases lost with
   |true =>
    rw[if_pos rfl]at hW
    subst hW
    refine za4 (F:=cd102) (hH.has _ _ rfl) rfl (Nat.le_of_ble_eq_true rfl) fun Q hQ hR=>?_;have hE:=hH.callable;dsimp only[cd102,qm,ql,qf,qi,qb,qc,qv,qN,qF,qt]at hQ |-
    skip
    unfold stW
    (refine wD ?_;try with_reducible exact wT)
    (have hX:=@hS;(repeat' first|refine zaa [0,1,2,3,4,5,8,9,10,11,12,13,17,18,19,20,23,32,49] fun K hK=>?_|(refine hK.go ?_;clear hK K)|with_reducible exact wT|refine wA ?_|(refine wB (fun h=>?_) (fun h=>?_)<;>first|exact wN h|subst (h:(_:Bool)=_)|skip)|(refine wQ ?_;clear hQ hR)|(refine AC.callK 30 (by omega) (by first|omega|exact wF|((refine wD ?_;try with_reducible exact wT);omega)) (zao (F:=cd130) (hH.has _ _ rfl) (Nat.le_of_ble_eq_true rfl) fun Q hQ hR=>?_);dsimp only[cd130,qm,ql,qf,qi,qb,qc,qv,qN,qF,qt]at hQ |-;try refine wD ?_)|(refine AC.callK 40 (by omega) (by first|omega|exact wF|((refine wD ?_;try with_reducible exact wT);omega)) (zao (F:=cd107) (hH.has _ _ rfl) (Nat.le_of_ble_eq_true rfl) fun Q hQ hR=>?_);dsimp only[cd107,qm,ql,qf,qc,qp,qN,qT,qt]at hQ |-;try refine wD ?_)|refine wS c0 ?_|fail);all_goals clear hX)
    all_goals first|(exfalso;contradiction)|skip
    refine zam (ι:=Nat) [0,1,2,3,8,17,18,19] (fun z=>[(19,.n z)]) (fun _=>[]) (fun z=>z) (S.ends.length) (fun _=>True) (0) ?_;rintro k ⟨hk,-⟩;(try dsimp only at hk |-);rcases Nat.lt_or_ge k S.ends.length with hlt|hge
    ·have c1:=zcz hH S inn.ed k
     revert c1
     generalize zbc S inn.ed k=v
     intro c1
     (repeat' first|refine zaa [0,1,2,3,4,5,8,9,10,11,12,13,17,18,19,20,23,32,49] fun K hK=>?_|(refine hK.go ?_;clear hK K)|with_reducible exact wT|refine wA ?_|(refine wB (fun h=>?_) (fun h=>?_)<;>first|exact wN h|subst (h:(_:Bool)=_)|skip)|(refine wQ ?_;clear hQ hR)|refine wC c1 ?_|fail)
     all_goals exact ⟨k+1,by omega,by omega,by omega⟩
    ·(repeat' first|refine zaa [0,1,2,3,4,5,8,9,10,11,12,13,17,18,19,20,23,32,49] fun K hK=>?_|(refine hK.go ?_;clear hK K)|with_reducible exact wT|refine wA ?_|(refine wB (fun h=>?_) (fun h=>?_)<;>first|exact wN h|subst (h:(_:Bool)=_)|skip)|(refine wQ ?_;clear hQ hR)|fail)
     refine ⟨[],trivial, ?_⟩;simp only[swS,stW,Wk.c];(refine wD ?_;try with_reducible exact wT);(try simp)
   |false =>
    rw[if_neg (by simp)]at hW
    refine za4 (F:=cd102) (hH.has _ _ rfl) rfl (Nat.le_of_ble_eq_true rfl) fun Q hQ hR=>?_;have hE:=hH.callable;dsimp only[cd102,qm,ql,qf,qi,qb,qc,qv,qN,qF,qt]at hQ |-
    skip
    unfold stW
    (refine wD ?_;try with_reducible exact wT)
    (have hX:=@hS;(repeat' first|refine zaa [0,1,2,3,4,5,8,9,10,11,12,13,17,18,19,20,23,32,49] fun K hK=>?_|(refine hK.go ?_;clear hK K)|with_reducible exact wT|refine wA ?_|(refine wB (fun h=>?_) (fun h=>?_)<;>first|exact wN h|subst (h:(_:Bool)=_)|skip)|(refine wQ ?_;clear hQ hR)|(refine AC.callK 30 (by omega) (by first|omega|exact wF|((refine wD ?_;try with_reducible exact wT);omega)) (zao (F:=cd130) (hH.has _ _ rfl) (Nat.le_of_ble_eq_true rfl) fun Q hQ hR=>?_);dsimp only[cd130,qm,ql,qf,qi,qb,qc,qv,qN,qF,qt]at hQ |-;try refine wD ?_)|(refine AC.callK 40 (by omega) (by first|omega|exact wF|((refine wD ?_;try with_reducible exact wT);omega)) (zao (F:=cd107) (hH.has _ _ rfl) (Nat.le_of_ble_eq_true rfl) fun Q hQ hR=>?_);dsimp only[cd107,qm,ql,qf,qc,qp,qN,qT,qt]at hQ |-;try refine wD ?_)|refine wS c0 ?_|fail);all_goals clear hX)
    all_goals first|(exfalso;contradiction)|skip
    refine zam (ι:=Nat) [0,1,2,3,8,17,18,19] (fun z=>[(19,.n z)]) (fun _=>[]) (fun z=>z) (S.ends.length) (fun z=>(zaV S inn.ed (fun e _=>decide (s=y.sec)&&decide (e=y.ed)) z (S.ends.drop z)=zaV S inn.ed (fun e _=>decide (s=y.sec)&&decide (e=y.ed)) 0 S.ends)) (0) ?_;rintro k ⟨hk,hg⟩;(try dsimp only at hk hg |-);rcases Nat.lt_or_ge k S.ends.length with hlt|hge
    ·rw[zaf hlt,zaV]at hg
     have c1:=zcz hH S inn.ed k
     have c2:=zp3 hH k (nth S.ends k) s y
     revert c1 c2 hg
     generalize zbc S inn.ed k=v
     generalize hb:(decide (s=y.sec)&&decide ((k:Int)=y.ed))=b
     intro hg c1 c2
     (repeat' first|refine zaa [0,1,2,3,4,5,8,9,10,11,12,13,17,18,19,20,23,32,49] fun K hK=>?_|(refine hK.go ?_;clear hK K)|with_reducible exact wT|refine wA ?_|(refine wB (fun h=>?_) (fun h=>?_)<;>first|exact wN h|subst (h:(_:Bool)=_)|skip)|(refine wQ ?_;clear hQ hR)|refine wC c1 ?_|refine wS c2 ?_|(refine AC.callK 40 (by omega) (by first|omega|exact wF|((refine wD ?_;try with_reducible exact wT);omega)) (zao (F:=cd107) (hH.has _ _ rfl) (Nat.le_of_ble_eq_true rfl) fun Q hQ hR=>?_);dsimp only[cd107,qm,ql,qf,qc,qp,qN,qT,qt]at hQ |-;try refine wD ?_)|fail)
     all_goals first|(refine ⟨k+1,by omega,⟨by omega, ?_⟩,by omega⟩;rw[<-hg,if_neg (by simp[*])];done)|skip
     all_goals (rw[if_pos ⟨by assumption,rfl⟩]at hg;rw[<-hg]at hW;dsimp only at hW)
     all_goals (first|rw[if_pos ⟨by assumption,by assumption⟩]at hW|rw[if_neg (fun hh=>absurd hh.1 (by assumption))]at hW|rw[if_neg (fun hh=>absurd hh.2 (by assumption))]at hW)
     all_goals (subst hW;refine ⟨[],trivial, ?_⟩;simp only[swS,stW,Wk.c];(refine wD ?_;try with_reducible exact wT);(try simp[AskR.c,Join.c]))
    ·rw[List.drop_eq_nil_of_le hge,zaV]at hg
     (repeat' first|refine zaa [0,1,2,3,4,5,8,9,10,11,12,13,17,18,19,20,23,32,49] fun K hK=>?_|(refine hK.go ?_;clear hK K)|with_reducible exact wT|refine wA ?_|(refine wB (fun h=>?_) (fun h=>?_)<;>first|exact wN h|subst (h:(_:Bool)=_)|skip)|(refine wQ ?_;clear hQ hR)|fail)
     rw[<-hg]at hW
     dsimp only at hW
     subst hW
     refine ⟨[],trivial, ?_⟩;simp only[swS,stW,Wk.c];(refine wD ?_;try with_reducible exact wT);(try simp)
  ·have hW':W=⟨inn,asks,outs,true⟩:=by rw[<-hW,if_neg hin];split<;>simp_all
   clear hW
   refine za4 (F:=cd102) (hH.has _ _ rfl) rfl (Nat.le_of_ble_eq_true rfl) fun Q hQ hR=>?_;have hE:=hH.callable;dsimp only[cd102,qm,ql,qf,qi,qb,qc,qv,qN,qF,qt]at hQ |-
   skip
   unfold stW
   (refine wD ?_;try with_reducible exact wT)
   (repeat' first|refine zaa [0,1,2,3,4,5,8,9,10,11,12,13,17,18,19,20,23,32,49] fun K hK=>?_|(refine hK.go ?_;clear hK K)|with_reducible exact wT|refine wA ?_|(refine wB (fun h=>?_) (fun h=>?_)<;>first|exact wN h|subst (h:(_:Bool)=_)|skip)|(refine wQ ?_;clear hQ hR)|(refine AC.callK 30 (by omega) (by first|omega|exact wF|((refine wD ?_;try with_reducible exact wT);omega)) (zao (F:=cd130) (hH.has _ _ rfl) (Nat.le_of_ble_eq_true rfl) fun Q hQ hR=>?_);dsimp only[cd130,qm,ql,qf,qi,qb,qc,qv,qN,qF,qt]at hQ |-;try refine wD ?_)|(refine AC.callK 40 (by omega) (by first|omega|exact wF|((refine wD ?_;try with_reducible exact wT);omega)) (zao (F:=cd107) (hH.has _ _ rfl) (Nat.le_of_ble_eq_true rfl) fun Q hQ hR=>?_);dsimp only[cd107,qm,ql,qf,qc,qp,qN,qT,qt]at hQ |-;try refine wD ?_)|refine wS c0 ?_|fail)
   all_goals first|(exfalso;contradiction)|skip
   all_goals (refine zam (ι:=Nat) [0,1,2,3,8,17,18,19] (fun z=>[(19,.n z)]) (fun _=>[]) (fun z=>z) (0) (fun _=>True) (0) ?_;rintro k ⟨hk,-⟩;(try dsimp only at hk |-);rcases Nat.lt_or_ge k 0 with hlt|hge)
   all_goals first|(exfalso;omega)|skip
   all_goals (repeat' first|refine zaa [0,1,2,3,4,5,8,9,10,11,12,13,17,18,19,20,23,32,49] fun K hK=>?_|(refine hK.go ?_;clear hK K)|with_reducible exact wT|refine wA ?_|(refine wB (fun h=>?_) (fun h=>?_)<;>first|exact wN h|subst (h:(_:Bool)=_)|skip)|(refine wQ ?_;clear hQ hR)|fail)
   all_goals (subst hW';refine ⟨[],trivial, ?_⟩;simp only[swS,stW,Wk.c];(refine wD ?_;try with_reducible exact wT);(try simp))
theorem zme (hH:HasAll P inv) (hM:∀ b,M b->b<w0.heap.size) (p:Pln) (hp:Sm p) (r:Rte) (x y:Sgn) (w:Wk) (all:List Int) (i:Nat) (s:Int) (ba bo:Bool) (hw:w.asks.length<=1000000) (hw2:w.outs.length<=1000000) (hi:i+1<all.length) (ha:all.length<=1000000000) :
  AC P inv w0 M 30 102 [.ptr 5 11 0,.n s,.n i,.fn 106 [.ptr 6 1 0,.ptr 22 1 0]] (stW p r x y w all i s ba bo) fun r0 σ'=>r0=.tup []/\σ'=stW p r x y (zaD p w s i (fun _ j=>decide (j.to=nth all (i+1)))) all i s (ba||decide (w.asks.length<(zaD p w s i (fun _ j=>decide (j.to=nth all (i+1)))).asks.length)) (bo||decide (w.outs.length<(zaD p w s i (fun _ j=>decide (j.to=nth all (i+1)))).outs.length)):=by
 have hs:=zb7 (fun t:Section=>decide (t.id=s)) p.sections 0
 have c0:=zim hH p.sections (fun t _=>zhs hH s t) (Nat.le_trans hp.sec (by omega))
 have hl:=hp.sec
 obtain ⟨inn,asks,outs,lost⟩:=w
 dsimp only at hw hw2
 generalize hW:zaD p ⟨inn,asks,outs,lost⟩ s i (fun _ j=>decide (j.to=nth all (i+1)))=W
 unfold zaD zhb zi9 at hW
 dsimp only at hW
 rcases hs with ⟨h1,h2⟩|⟨k0,hk0,h1,h2⟩
 ·rw[h1]at c0
  rw[h2,ite_self]at hW
  refine za4 (F:=cd102) (hH.has _ _ rfl) rfl (Nat.le_of_ble_eq_true rfl) fun Q hQ hR=>?_;have hE:=hH.callable;dsimp only[cd102,qm,ql,qf,qi,qb,qc,qv,qN,qF,qt]at hQ |-
  skip
  unfold stW
  (refine wD ?_;try with_reducible exact wT)
  (repeat' first|refine zaa [0,1,2,3,4,5,8,9,10,11,12,13,17,18,19,20,23,32,49] fun K hK=>?_|(refine hK.go ?_;clear hK K)|with_reducible exact wT|refine wA ?_|(refine wB (fun h=>?_) (fun h=>?_)<;>first|exact wN h|subst (h:(_:Bool)=_)|skip)|(refine wQ ?_;clear hQ hR)|(refine AC.callK 30 (by omega) (by first|omega|exact wF|((refine wD ?_;try with_reducible exact wT);omega)) (zao (F:=cd130) (hH.has _ _ rfl) (Nat.le_of_ble_eq_true rfl) fun Q hQ hR=>?_);dsimp only[cd130,qm,ql,qf,qi,qb,qc,qv,qN,qF,qt]at hQ |-;try refine wD ?_)|(refine AC.callK 40 (by omega) (by first|omega|exact wF|((refine wD ?_;try with_reducible exact wT);omega)) (zao (F:=cd107) (hH.has _ _ rfl) (Nat.le_of_ble_eq_true rfl) fun Q hQ hR=>?_);dsimp only[cd107,qm,ql,qf,qc,qp,qN,qT,qt]at hQ |-;try refine wD ?_)|refine wS c0 ?_|fail)
  all_goals (refine zam (ι:=Nat) [0,1,2,3,8,17,18,19] (fun z=>[(19,.n z)]) (fun _=>[]) (fun z=>z) (0) (fun _=>True) (0) ?_;rintro k ⟨hk,-⟩;(try dsimp only at hk |-);rcases Nat.lt_or_ge k 0 with hlt|hge)
  all_goals first|(exfalso;omega)|skip
  all_goals (repeat' first|refine zaa [0,1,2,3,4,5,8,9,10,11,12,13,17,18,19,20,23,32,49] fun K hK=>?_|(refine hK.go ?_;clear hK K)|with_reducible exact wT|refine wA ?_|(refine wB (fun h=>?_) (fun h=>?_)<;>first|exact wN h|subst (h:(_:Bool)=_)|skip)|(refine wQ ?_;clear hQ hR)|fail)
  all_goals (have hW':W=⟨inn,asks,outs,true⟩:=(by rw[<-hW];split<;>simp_all);subst hW';refine ⟨[],trivial, ?_⟩;simp only[swS,stW,Wk.c];(refine wD ?_;try with_reducible exact wT);(try simp))
 ·rw[h1,Int.zero_add]at c0
  rw[h2]at hW
  by_cases hin:inn.to=s
  ·rw[if_pos hin]at hW
   dsimp only at hW
   have hse:=hp.ends _ (zab hk0)
   revert hW hse
   generalize hS:nth p.sections k0=S
   intro hW hse
   cases lost with
   |true =>
    rw[if_pos rfl]at hW
    subst hW
    refine za4 (F:=cd102) (hH.has _ _ rfl) rfl (Nat.le_of_ble_eq_true rfl) fun Q hQ hR=>?_;have hE:=hH.callable;dsimp only[cd102,qm,ql,qf,qi,qb,qc,qv,qN,qF,qt]at hQ |-
    skip
    unfold stW
    (refine wD ?_;try with_reducible exact wT)
    (have hX:=@hS;(repeat' first|refine zaa [0,1,2,3,4,5,8,9,10,11,12,13,17,18,19,20,23,32,49] fun K hK=>?_|(refine hK.go ?_;clear hK K)|with_reducible exact wT|refine wA ?_|(refine wB (fun h=>?_) (fun h=>?_)<;>first|exact wN h|subst (h:(_:Bool)=_)|skip)|(refine wQ ?_;clear hQ hR)|(refine AC.callK 30 (by omega) (by first|omega|exact wF|((refine wD ?_;try with_reducible exact wT);omega)) (zao (F:=cd130) (hH.has _ _ rfl) (Nat.le_of_ble_eq_true rfl) fun Q hQ hR=>?_);dsimp only[cd130,qm,ql,qf,qi,qb,qc,qv,qN,qF,qt]at hQ |-;try refine wD ?_)|(refine AC.callK 40 (by omega) (by first|omega|exact wF|((refine wD ?_;try with_reducible exact wT);omega)) (zao (F:=cd107) (hH.has _ _ rfl) (Nat.le_of_ble_eq_true rfl) fun Q hQ hR=>?_);dsimp only[cd107,qm,ql,qf,qc,qp,qN,qT,qt]at hQ |-;try refine wD ?_)|refine wS c0 ?_|fail);all_goals clear hX)
    all_goals first|(exfalso;contradiction)|skip
    refine zam (ι:=Nat) [0,1,2,3,8,17,18,19] (fun z=>[(19,.n z)]) (fun _=>[]) (fun z=>z) (S.ends.length) (fun _=>True) (0) ?_;rintro k ⟨hk,-⟩;(try dsimp only at hk |-);rcases Nat.lt_or_ge k S.ends.length with hlt|hge
    ·have c1:=zcz hH S inn.ed k
     revert c1
     generalize zbc S inn.ed k=v
     intro c1
     (repeat' first|refine zaa [0,1,2,3,4,5,8,9,10,11,12,13,17,18,19,20,23,32,49] fun K hK=>?_|(refine hK.go ?_;clear hK K)|with_reducible exact wT|refine wA ?_|(refine wB (fun h=>?_) (fun h=>?_)<;>first|exact wN h|subst (h:(_:Bool)=_)|skip)|(refine wQ ?_;clear hQ hR)|refine wC c1 ?_|fail)
     all_goals exact ⟨k+1,by omega,by omega,by omega⟩
    ·(repeat' first|refine zaa [0,1,2,3,4,5,8,9,10,11,12,13,17,18,19,20,23,32,49] fun K hK=>?_|(refine hK.go ?_;clear hK K)|with_reducible exact wT|refine wA ?_|(refine wB (fun h=>?_) (fun h=>?_)<;>first|exact wN h|subst (h:(_:Bool)=_)|skip)|(refine wQ ?_;clear hQ hR)|fail)
     refine ⟨[],trivial, ?_⟩;simp only[swS,stW,Wk.c];(refine wD ?_;try with_reducible exact wT);(try simp)
   |false =>
    rw[if_neg (by simp)]at hW
    refine za4 (F:=cd102) (hH.has _ _ rfl) rfl (Nat.le_of_ble_eq_true rfl) fun Q hQ hR=>?_;have hE:=hH.callable;dsimp only[cd102,qm,ql,qf,qi,qb,qc,qv,qN,qF,qt]at hQ |-
    skip
    unfold stW
    (refine wD ?_;try with_reducible exact wT)
    (have hX:=@hS;(repeat' first|refine zaa [0,1,2,3,4,5,8,9,10,11,12,13,17,18,19,20,23,32,49] fun K hK=>?_|(refine hK.go ?_;clear hK K)|with_reducible exact wT|refine wA ?_|(refine wB (fun h=>?_) (fun h=>?_)<;>first|exact wN h|subst (h:(_:Bool)=_)|skip)|(refine wQ ?_;clear hQ hR)|(refine AC.callK 30 (by omega) (by first|omega|exact wF|((refine wD ?_;try with_reducible exact wT);omega)) (zao (F:=cd130) (hH.has _ _ rfl) (Nat.le_of_ble_eq_true rfl) fun Q hQ hR=>?_);dsimp only[cd130,qm,ql,qf,qi,qb,qc,qv,qN,qF,qt]at hQ |-;try refine wD ?_)|(refine AC.callK 40 (by omega) (by first|omega|exact wF|((refine wD ?_;try with_reducible exact wT);omega)) (zao (F:=cd107) (hH.has _ _ rfl) (Nat.le_of_ble_eq_true rfl) fun Q hQ hR=>?_);dsimp only[cd107,qm,ql,qf,qc,qp,qN,qT,qt]at hQ |-;try refine wD ?_)|refine wS c0 ?_|fail);all_goals clear hX)
    all_goals first|(exfalso;contradiction)|skip
    refine zam (ι:=Nat) [0,1,2,3,8,17,18,19] (fun z=>[(19,.n z)]) (fun _=>[]) (fun z=>z) (S.ends.length) (fun z=>(zaV S inn.ed (fun _ j=>decide (j.to=nth all (i+1))) z (S.ends.drop z)=zaV S inn.ed (fun _ j=>decide (j.to=nth all (i+1))) 0 S.ends)) (0) ?_;rintro k ⟨hk,hg⟩;(try dsimp only at hk hg |-);rcases Nat.lt_or_ge k S.ends.length with hlt|hge
    ·rw[zaf hlt,zaV]at hg
     have c1:=zcz hH S inn.ed k
     have c2:=zp2 hH k (nth S.ends k) all i hi ha
     revert c1 c2 hg
     generalize zbc S inn.ed k=v
     generalize hb:decide ((nth S.ends k).to=nth all (i+1))=b
     intro hg c1 c2
     (repeat' first|refine zaa [0,1,2,3,4,5,8,9,10,11,12,13,17,18,19,20,23,32,49] fun K hK=>?_|(refine hK.go ?_;clear hK K)|with_reducible exact wT|refine wA ?_|(refine wB (fun h=>?_) (fun h=>?_)<;>first|exact wN h|subst (h:(_:Bool)=_)|skip)|(refine wQ ?_;clear hQ hR)|refine wC c1 ?_|refine wS c2 ?_|(refine AC.callK 40 (by omega) (by first|omega|exact wF|((refine wD ?_;try with_reducible exact wT);omega)) (zao (F:=cd107) (hH.has _ _ rfl) (Nat.le_of_ble_eq_true rfl) fun Q hQ hR=>?_);dsimp only[cd107,qm,ql,qf,qc,qp,qN,qT,qt]at hQ |-;try refine wD ?_)|fail)
     all_goals first|(refine ⟨k+1,by omega,⟨by omega, ?_⟩,by omega⟩;rw[<-hg,if_neg (by simp[*])];done)|skip
     all_goals (rw[if_pos ⟨by assumption,rfl⟩]at hg;rw[<-hg]at hW;dsimp only at hW)
     all_goals (first|rw[if_pos ⟨by assumption,by assumption⟩]at hW|rw[if_neg (fun hh=>absurd hh.1 (by assumption))]at hW|rw[if_neg (fun hh=>absurd hh.2 (by assumption))]at hW)
     all_goals (subst hW;refine ⟨[],trivial, ?_⟩;simp only[swS,stW,Wk.c];(refine wD ?_;try with_reducible exact wT);(try simp[AskR.c,Join.c]))
    ·rw[List.drop_eq_nil_of_le hge,zaV]at hg
     (repeat' first|refine zaa [0,1,2,3,4,5,8,9,10,11,12,13,17,18,19,20,23,32,49] fun K hK=>?_|(refine hK.go ?_;clear hK K)|with_reducible exact wT|refine wA ?_|(refine wB (fun h=>?_) (fun h=>?_)<;>first|exact wN h|subst (h:(_:Bool)=_)|skip)|(refine wQ ?_;clear hQ hR)|fail)
     rw[<-hg]at hW
     dsimp only at hW
     subst hW
     refine ⟨[],trivial, ?_⟩;simp only[swS,stW,Wk.c];(refine wD ?_;try with_reducible exact wT);(try simp)
  ·have hW':W=⟨inn,asks,outs,true⟩:=by rw[<-hW,if_neg hin];split<;>simp_all
   clear hW
   refine za4 (F:=cd102) (hH.has _ _ rfl) rfl (Nat.le_of_ble_eq_true rfl) fun Q hQ hR=>?_;have hE:=hH.callable;dsimp only[cd102,qm,ql,qf,qi,qb,qc,qv,qN,qF,qt]at hQ |-
   skip
   unfold stW
   (refine wD ?_;try with_reducible exact wT)
   (repeat' first|refine zaa [0,1,2,3,4,5,8,9,10,11,12,13,17,18,19,20,23,32,49] fun K hK=>?_|(refine hK.go ?_;clear hK K)|with_reducible exact wT|refine wA ?_|(refine wB (fun h=>?_) (fun h=>?_)<;>first|exact wN h|subst (h:(_:Bool)=_)|skip)|(refine wQ ?_;clear hQ hR)|(refine AC.callK 30 (by omega) (by first|omega|exact wF|((refine wD ?_;try with_reducible exact wT);omega)) (zao (F:=cd130) (hH.has _ _ rfl) (Nat.le_of_ble_eq_true rfl) fun Q hQ hR=>?_);dsimp only[cd130,qm,ql,qf,qi,qb,qc,qv,qN,qF,qt]at hQ |-;try refine wD ?_)|(refine AC.callK 40 (by omega) (by first|omega|exact wF|((refine wD ?_;try with_reducible exact wT);omega)) (zao (F:=cd107) (hH.has _ _ rfl) (Nat.le_of_ble_eq_true rfl) fun Q hQ hR=>?_);dsimp only[cd107,qm,ql,qf,qc,qp,qN,qT,qt]at hQ |-;try refine wD ?_)|refine wS c0 ?_|fail)
   all_goals first|(exfalso;contradiction)|skip
   all_goals (refine zam (ι:=Nat) [0,1,2,3,8,17,18,19] (fun z=>[(19,.n z)]) (fun _=>[]) (fun z=>z) (0) (fun _=>True) (0) ?_;rintro k ⟨hk,-⟩;(try dsimp only at hk |-);rcases Nat.lt_or_ge k 0 with hlt|hge)
   all_goals first|(exfalso;omega)|skip
   all_goals (repeat' first|refine zaa [0,1,2,3,4,5,8,9,10,11,12,13,17,18,19,20,23,32,49] fun K hK=>?_|(refine hK.go ?_;clear hK K)|with_reducible exact wT|refine wA ?_|(refine wB (fun h=>?_) (fun h=>?_)<;>first|exact wN h|subst (h:(_:Bool)=_)|skip)|(refine wQ ?_;clear hQ hR)|fail)
   all_goals (subst hW';refine ⟨[],trivial, ?_⟩;simp only[swS,stW,Wk.c];(refine wD ?_;try with_reducible exact wT);(try simp))
abbrev WayR:=Go.Eng.Way
def zjs (x:Sgn):Join->List Section->Join
 |j,[]=>j
 |j,s::r=>zjs x (if s.id=x.sec then nth s.ends x.ed.toNat else j) r
def zen (p:Pln) (r:Rte) (y:Sgn) (all:List Int) (i:Nat) (s:Int) (w:Wk):Wk :=
 if (i:Int)=(r.path.length:Int)-1/\r.exit=0 then zaD p w s i fun _ j=>decide (j=⟨0,0⟩)
 else if (i:Int)=(r.path.length:Int)-1 then zaD p w s i fun e _=>decide (s=y.sec)&&decide (e=y.ed)
 else if (i:Int)=(all.length:Int)-1 then zec p w s i
 else zaD p w s i fun _ j=>decide (j.to=nth all (i+1))
def zbK (p:Pln) (r:Rte) (y:Sgn) (all:List Int):Nat->Wk->List Int->Wk
 |_,w,[]=>w
 |i,w,s::l=>zbK p r y all (i+1) (zen p r y all i s w) l
def zgE:List AskR->List Flk->List AskR
 |l,[]=>l
 |l,f::r=>zgE (zi9 f.pnt f.lie (-1) l) r
def zhy (p:Pln) (r:Rte):Wk:=zbK p r (sig p r.exit) (r.path++r.over) 0 ⟨zjs (sig p r.entry) ⟨0,0⟩ p.sections,[],[],false⟩ (r.path++r.over)
def zah (p:Pln) (r:Rte):WayR×List Join×Int :=
 if (zhy p r).lost=true then (⟨[],[],[],0⟩,[],90) else (⟨r.path,r.over,zgE (zhy p r).asks r.flanks,(sig p r.entry).sec⟩,(zhy p r).outs,0)
theorem zkQ (a b c:Int) (l:List AskR):(zi9 a b c l).length<=l.length+1:=by unfold zi9;split<;>simp
theorem zdn (p:Pln) (w:Wk) (s i:Int) (R:Int->Join->Bool):(zaD p w s i R).asks.length<=w.asks.length+1/\(zaD p w s i R).outs.length<=w.outs.length+1:=by
 unfold zaD
 split
 ·omega
 ·split
  ·dsimp only;omega
  ·split
   ·dsimp only;omega
   ·refine ⟨zkQ _ _ _ _,by simp⟩
theorem zkV (p:Pln) (w:Wk) (s i:Int):(zec p w s i).asks.length<=w.asks.length+1/\(zec p w s i).outs.length<=w.outs.length+1:=by
 unfold zec
 split
 ·dsimp only;omega
 ·split
  ·refine ⟨zkQ _ _ _ _,by simp⟩
  ·omega
def zne (p:Pln) (r:Rte):Prop:=∀ s∈p.sections,s.id=(sig p r.entry).sec->0<=(sig p r.entry).ed/\(sig p r.entry).ed<s.ends.length
theorem dropRow {n N:Nat} {φ:List (Nat×AV)} {σ:List (Nat×AO)} {c:ACode} {Q:Exit->List (Nat×AV)->List (Nat×AO)->Prop} (l:Nat) (h:AWp P inv w0 M N n c Q φ (zjh σ l)):AWp P inv w0 M N n c Q φ σ:=by
 have hsd:∀ l' o,zaF (zjh σ l) l'=some o->zaF σ l'=some o:=by
  intro l' o e
  rw[zfK]at e
  split at e
  ·cases e
  ·exact e
 intro c₀ hc β a w hs
 have hd:=fun N=>hs.mem.drop hsd N
 have hs':St inv w0 M n φ (zjh σ l) β a w:=⟨⟨fun i=>(hd (zaS φ)).2.rel (zaO _ (zbQ φ i)) (hs.slots i),(hd 0).1⟩,hs.size,hs.defers⟩
 exact Code.wp_mono (fun _ _ _ ⟨φ2,σ2,β2,q2,hst2,hext2⟩=>⟨φ2,σ2,β2,q2,hst2,(hd N).2.trans hext2⟩) (h c₀ hc β a w hs')
theorem zmY (hH:HasAll P inv) (p:Pln) (hp:Sm p) (r:Rte) (hr:r.path.length<=1000/\r.over.length<=1000/\r.flanks.length<=1000) (he:zne p r):PC P inv 90 [.agg p.c,.agg r.c] (·=.tup [.agg (zah p r).1.c,.sl 2 ((zah p r).2.1.map Join.c),.n (zah p r).2.2]):=by
 have c1:=zk0 hH p hp r.entry
 have c2:=zk0 hH p hp r.exit
 have c3:=zlT hH [r.path,r.over] (by simp) (by simp[lens];omega)
 have hl:=hp.sec
 have hall:∃ all,all=r.path++r.over:=⟨_,rfl⟩
 obtain ⟨all,hall⟩:=hall
 have hal:all.length<=2000/\r.path.length<=all.length:=by rw[hall];simp;omega
 rw[show [r.path,r.over].flatten=all by rw[hall];simp]at c3
 obtain ⟨ans,ha⟩:∃ ans,ans=zah p r:=⟨_,rfl⟩
 rw[<-ha]
 unfold zah zhy at ha
 rw[<-hall]at ha
 unfold zne at he
 revert ha he c1 c2
 generalize sig p r.entry=x
 generalize sig p r.exit=y
 intro he c1 c2 ha
 refine PC.fn hH cd90 fun w0 M Q hM hE hQ hR=>?_;dsimp only[cd90,qm,ql,qf,qi,qb,qc,qp,qN,qT,qt]at hQ |-
 (repeat' first|refine zaa [0,1,2,3,4,5,6,7,8,9,11,12,13,14,16,29,30,31,32,39,56,57,58,59,68,84,96,110,113,114,115,116] fun K hK=>?_|(refine hK.go ?_;clear hK K)|with_reducible exact wT|refine wA ?_|(refine wB (fun h=>?_) (fun h=>?_)<;>first|exact wN h|subst (h:(_:Bool)=_)|skip)|(refine wQ ?_;clear hQ hR hE hM)|refine wU c1 ?_|refine wU c2 ?_|fail)
 refine zam (ι:=Nat×Join) [3,4,5,6,7,8,9,29,30,31] (fun z=>[(31,.n z.1)]) (fun z=>[(5,.cells [.n p.version,.n p.parent,.sl 3 (p.sections.map Section.c),.sl 2 (p.points.map Pnt.c),.sl 3 (p.signals.map Sgn.c),.sl 7 (p.routes.map Rte.c),.n z.2.to,.n z.2.ed,.s0 3,.s0 2,.b false] true)]) (fun z=>z.1) (p.sections.length) (fun z=>(zjs x z.2 (p.sections.drop z.1)=zjs x ⟨0,0⟩ p.sections)) (0,(⟨0,0⟩:Join)) ?_;rintro ⟨k,j⟩ ⟨hk,hg⟩;(try dsimp only at hk hg |-);rcases Nat.lt_or_ge k p.sections.length with hlt|hge
 ·rw[zaf hlt]at hg
  rw[zjs]at hg
  have hx:=he _ (zab hlt)
  by_cases hid:(nth p.sections k).id=x.sec
  ·have hx':=hx hid
   rw[if_pos hid]at hg
   (repeat' first|refine zaa [0,1,2,3,4,5,6,7,8,9,11,12,13,14,16,29,30,31,32,39,56,57,58,59,68,84,96,110,113,114,115,116] fun K hK=>?_|(refine hK.go ?_;clear hK K)|with_reducible exact wT|refine wA ?_|(refine wB (fun h=>?_) (fun h=>?_)<;>first|exact wN h|subst (h:(_:Bool)=_)|skip)|(refine wQ ?_;clear hQ hR hE hM)|fail)
   exact nY (k+1,nth (nth p.sections k).ends x.ed.toNat) ⟨by (try dsimp only);omega,hg⟩
  ·rw[if_neg hid]at hg
   (repeat' first|refine zaa [0,1,2,3,4,5,6,7,8,9,11,12,13,14,16,29,30,31,32,39,56,57,58,59,68,84,96,110,113,114,115,116] fun K hK=>?_|(refine hK.go ?_;clear hK K)|with_reducible exact wT|refine wA ?_|(refine wB (fun h=>?_) (fun h=>?_)<;>first|exact wN h|subst (h:(_:Bool)=_)|skip)|(refine wQ ?_;clear hQ hR hE hM)|fail)
   exact nY (k+1,j) ⟨by (try dsimp only);omega,hg⟩
 ·rw[List.drop_eq_nil_of_le hge,zjs]at hg
  subst hg
  (repeat' first|refine zaa [0,1,2,3,4,5,6,7,8,9,11,12,13,14,16,29,30,31,32,39,56,57,58,59,68,84,96,110,113,114,115,116] fun K hK=>?_|(refine hK.go ?_;clear hK K)|with_reducible exact wT|refine wA ?_|(refine wB (fun h=>?_) (fun h=>?_)<;>first|exact wN h|subst (h:(_:Bool)=_)|skip)|(refine wQ ?_;clear hQ hR hE hM)|refine wC c3 ?_|fail)
  refine zgO 5 8 20 3 rfl rfl (by omega) (by (refine wD ?_;try with_reducible exact wT)) (by (refine wD ?_;try with_reducible exact wT)) ?_
  refine zgO 5 9 21 2 rfl rfl (by omega) (by (refine wD ?_;try with_reducible exact wT)) (by (refine wD ?_;try with_reducible exact wT)) ?_
  refine dropRow 0 ?_
  (refine wD ?_;try with_reducible exact wT)
  generalize hw0:(⟨zjs x ⟨0,0⟩ p.sections,[],[],false⟩:Wk)=W0 at ha
  have e0:W0.asks=[]/\W0.outs=[]/\W0.lost=false/\W0.inn=zjs x ⟨0,0⟩ p.sections:=by rw[<-hw0];simp
  rw[<-e0.2.2.2]
  clear hw0
  obtain ⟨inn0,as0,os0,l0⟩:=W0
  dsimp only at e0
  obtain ⟨rfl,rfl,rfl,e0⟩:=e0
  clear e0
  refine zam (ι:=Nat×Wk×Bool×Bool) [3,4,5,6,7,8,9,12,56,57,58] (fun z=>[(58,.n z.1)]) (fun z=>[(5,.cells (z.2.1.c p) true),(20,.cells (z.2.1.asks.map AskR.c).flatten z.2.2.1),(21,.cells (z.2.1.outs.map Join.c).flatten z.2.2.2)]) (fun z=>z.1) (all.length) (fun z=>(zbK p r y all z.1 z.2.1 (all.drop z.1)=zbK p r y all 0 ⟨inn0,[],[],false⟩ all)/\(z.2.1.asks.length<=z.1/\z.2.1.outs.length<=z.1)) (0,(⟨inn0,[],[],false⟩:Wk),false,false) ?_;rintro ⟨k,w,ba,bo⟩ ⟨hk,hg,hx⟩;(try dsimp only at hk hg hx |-);rcases Nat.lt_or_ge k all.length with hlt|hge
  ·rw[zaf hlt]at hg
   rw[zbK,zen]at hg
   have hx1:w.asks.length<=1000000:=by omega
   have hx2:w.outs.length<=1000000:=by omega
   by_cases hk1:(k:Int)=(r.path.length:Int)-1
   ·by_cases hk2:r.exit=0
    ·rw[if_pos ⟨hk1,hk2⟩]at hg
     have hlen:=zdn p w (nth all k) k (fun _ j=>decide (j=⟨0,0⟩))
     (have hX:=@stW.eq_1;(repeat' first|refine zaa [0,1,2,3,4,5,6,7,8,9,11,12,13,14,16,29,30,31,32,39,56,57,58,59,68,84,96,110,113,114,115,116] fun K hK=>?_|(refine hK.go ?_;clear hK K)|with_reducible exact wT|refine wA ?_|(refine wB (fun h=>?_) (fun h=>?_)<;>first|exact wN h|subst (h:(_:Bool)=_)|skip)|(refine wQ ?_;clear hQ hR hE hM)|(refine ze5 30 (zmg hH hM p hp r x y w all (k:Int) (nth all k) ba bo hx1 hx2) (by omega) (by first|omega|exact wF|((refine wD ?_;try with_reducible exact wT);omega)) ?_;try refine wD ?_)|fail);all_goals clear hX)
     generalize (zaD p w (nth all k) k (fun _ j=>decide (j=⟨0,0⟩)))=W' at hg hlen |-
     exact ⟨(k+1,W',_,_),by dsimp only;omega,⟨by dsimp only;omega,hg,by dsimp only;omega⟩,by dsimp only;omega,rfl,rfl,rfl⟩
    ·rw[if_neg (fun h=>hk2 h.2),if_pos hk1]at hg
     have hlen:=zdn p w (nth all k) k (fun e _=>decide (nth all k=y.sec)&&decide (e=y.ed))
     (have hX:=@stW.eq_1;(repeat' first|refine zaa [0,1,2,3,4,5,6,7,8,9,11,12,13,14,16,29,30,31,32,39,56,57,58,59,68,84,96,110,113,114,115,116] fun K hK=>?_|(refine hK.go ?_;clear hK K)|with_reducible exact wT|refine wA ?_|(refine wB (fun h=>?_) (fun h=>?_)<;>first|exact wN h|subst (h:(_:Bool)=_)|skip)|(refine wQ ?_;clear hQ hR hE hM)|(refine ze5 30 (zmf hH hM p hp r x y w all (k:Int) (nth all k) ba bo hx1 hx2) (by omega) (by first|omega|exact wF|((refine wD ?_;try with_reducible exact wT);omega)) ?_;try refine wD ?_)|fail);all_goals clear hX)
     generalize (zaD p w (nth all k) k (fun e _=>decide (nth all k=y.sec)&&decide (e=y.ed)))=W' at hg hlen |-
     exact ⟨(k+1,W',_,_),by dsimp only;omega,⟨by dsimp only;omega,hg,by dsimp only;omega⟩,by dsimp only;omega,rfl,rfl,rfl⟩
   ·by_cases hk3:(k:Int)=(all.length:Int)-1
    ·rw[if_neg (fun h=>hk1 h.1),if_neg hk1,if_pos hk3]at hg
     have hlen:=zkV p w (nth all k) k
     (have hX:=@stW.eq_1;(repeat' first|refine zaa [0,1,2,3,4,5,6,7,8,9,11,12,13,14,16,29,30,31,32,39,56,57,58,59,68,84,96,110,113,114,115,116] fun K hK=>?_|(refine hK.go ?_;clear hK K)|with_reducible exact wT|refine wA ?_|(refine wB (fun h=>?_) (fun h=>?_)<;>first|exact wN h|subst (h:(_:Bool)=_)|skip)|(refine wQ ?_;clear hQ hR hE hM)|(refine ze5 30 (stay_ac hH hM p hp r x y w all (k:Int) (nth all k) ba bo hx1) (by omega) (by first|omega|exact wF|((refine wD ?_;try with_reducible exact wT);omega)) ?_;try refine wD ?_)|fail);all_goals clear hX)
     generalize (zec p w (nth all k) k)=W' at hg hlen |-
     exact ⟨(k+1,W',_,_),by dsimp only;omega,⟨by dsimp only;omega,hg,by dsimp only;omega⟩,by dsimp only;omega,rfl,rfl,rfl⟩
    ·rw[if_neg (fun h=>hk1 h.1),if_neg hk1,if_neg hk3]at hg
     have hlen:=zdn p w (nth all k) k (fun _ j=>decide (j.to=nth all (k+1)))
     (have hX:=@stW.eq_1;(repeat' first|refine zaa [0,1,2,3,4,5,6,7,8,9,11,12,13,14,16,29,30,31,32,39,56,57,58,59,68,84,96,110,113,114,115,116] fun K hK=>?_|(refine hK.go ?_;clear hK K)|with_reducible exact wT|refine wA ?_|(refine wB (fun h=>?_) (fun h=>?_)<;>first|exact wN h|subst (h:(_:Bool)=_)|skip)|(refine wQ ?_;clear hQ hR hE hM)|(refine ze5 30 (zme hH hM p hp r x y w all k (nth all k) ba bo hx1 hx2 (by omega) (by omega)) (by omega) (by first|omega|exact wF|((refine wD ?_;try with_reducible exact wT);omega)) ?_;try refine wD ?_)|fail);all_goals clear hX)
     generalize (zaD p w (nth all k) k (fun _ j=>decide (j.to=nth all (k+1))))=W' at hg hlen |-
     exact ⟨(k+1,W',_,_),by dsimp only;omega,⟨by dsimp only;omega,hg,by dsimp only;omega⟩,by dsimp only;omega,rfl,rfl,rfl⟩
  ·rw[List.drop_eq_nil_of_le hge,zbK]at hg
   rw[<-hg]at ha
   clear hg
   obtain ⟨inn,asks,outs,lost⟩:=w
   dsimp only at ha hx |-
   cases lost with
   |true =>
    rw[if_pos rfl]at ha
    subst ha
    (repeat' first|refine zaa [0,1,2,3,4,5,6,7,8,9,11,12,13,14,16,29,30,31,32,39,56,57,58,59,68,84,96,110,113,114,115,116] fun K hK=>?_|(refine hK.go ?_;clear hK K)|with_reducible exact wT|refine wA ?_|(refine wB (fun h=>?_) (fun h=>?_)<;>first|exact wN h|subst (h:(_:Bool)=_)|skip)|(refine wQ ?_;clear hQ hR hE hM)|fail)
    all_goals first|(exfalso;contradiction)|skip
   |false =>
    rw[if_neg (by simp)]at ha
    (repeat' first|refine zaa [0,1,2,3,4,5,6,7,8,9,11,12,13,14,16,29,30,31,32,39,56,57,58,59,68,84,96,110,113,114,115,116] fun K hK=>?_|(refine hK.go ?_;clear hK K)|with_reducible exact wT|refine wA ?_|(refine wB (fun h=>?_) (fun h=>?_)<;>first|exact wN h|subst (h:(_:Bool)=_)|skip)|(refine wQ ?_;clear hQ hR hE hM)|fail)
    all_goals first|(exfalso;contradiction)|skip
    skip
    refine zam (ι:=Nat×(List AskR)×Bool) [3,4,5,6,7,9,113,114,115] (fun z=>[(115,.n z.1)]) (fun z=>[(5,.cells (Wk.c p ⟨inn,z.2.1,outs,false⟩) true),(20,.cells (z.2.1.map AskR.c).flatten z.2.2)]) (fun z=>z.1) (r.flanks.length) (fun z=>(zgE z.2.1 (r.flanks.drop z.1)=zgE asks r.flanks)/\(z.2.1.length<=2000+z.1)) (0,asks,ba) ?_;rintro ⟨k2,l,b2⟩ ⟨hk,hg,hx2⟩;(try dsimp only at hk hg hx2 |-);rcases Nat.lt_or_ge k2 r.flanks.length with hlt|hge
    ·rw[zaf (by assumption),zgE,zi9]at hg
     (repeat' first|refine zaa [0,1,2,3,4,5,6,7,8,9,11,12,13,14,16,29,30,31,32,39,56,57,58,59,68,84,96,110,113,114,115,116] fun K hK=>?_|(refine hK.go ?_;clear hK K)|with_reducible exact wT|refine wA ?_|(refine wB (fun h=>?_) (fun h=>?_)<;>first|exact wN h|subst (h:(_:Bool)=_)|skip)|(refine wQ ?_;clear hQ hR)|(refine AC.callK 40 (by omega) (by first|omega|exact wF|((refine wD ?_;try with_reducible exact wT);omega)) (zao (F:=cd107) (hH.has _ _ rfl) (Nat.le_of_ble_eq_true rfl) fun Q hQ hR=>?_);dsimp only[cd107,qm,ql,qf,qc,qp,qN,qT,qt]at hQ |-;try refine wD ?_)|fail)
     ·rw[if_pos ⟨by assumption,by assumption⟩]at hg
      exact nY (k2+1,l++[⟨(nth r.flanks k2).pnt,(nth r.flanks k2).lie,-1⟩],true) ⟨by (try dsimp only);omega,hg,by (try dsimp only);simp;omega⟩
     all_goals (first|rw[if_neg (fun hh=>absurd hh.2 (by assumption))]at hg|rw[if_neg (fun hh=>absurd hh.1 (by assumption))]at hg)
     all_goals (exact nY (k2+1,l,b2) ⟨by (try dsimp only);omega,hg,by (try dsimp only);omega⟩)
    ·rw[List.drop_eq_nil_of_le (by assumption),zgE]at hg
     (repeat' first|refine zaa [0,1,2,3,4,5,6,7,8,9,11,12,13,14,16,29,30,31,32,39,56,57,58,59,68,84,96,110,113,114,115,116] fun K hK=>?_|(refine hK.go ?_;clear hK K)|with_reducible exact wT|refine wA ?_|(refine wB (fun h=>?_) (fun h=>?_)<;>first|exact wN h|subst (h:(_:Bool)=_)|skip)|(refine wQ ?_;clear hQ hR)|(refine zay hM (ziG hH r.path (by omega)) ?_;try refine wD ?_)|(refine zay hM (ziG hH r.over (by omega)) ?_;try refine wD ?_)|fail)
     rw[ha,<-hg]
structure OkP (p:Pln):Prop where
 sec:zcg p.sections=true
 pts:points p=true
 sgn:signals p (ends p.sections)=true
 rise:rise (p.routes.map Rte.id) 16=true
 rte:∀ r∈p.routes,zcR p r (ends p.sections)=true
theorem zid {p:Pln} (h:zb1 p=true):OkP p:=by
 simp only[zb1,Bool.and_eq_true,List.all_eq_true]at h
 exact ⟨h.1.2.2.2.2,h.2.1,h.2.2.1,h.2.2.2.1,h.2.2.2.2⟩
theorem zjY (n:Int):∀ (l:List Sgn) (o:Sgn),zop n o l=o\/zop n o l∈l
 |[],o=>.inl rfl
 |x::r,o=>by
  rw[zop]
  split
  ·rcases zjY n r x with h|h
   ·right;rw[h];simp
   ·right;simp[h]
  ·rcases zjY n r o with h|h
   ·left;exact h
   ·right;simp[h]
theorem zjz {p:Pln} (h:OkP p) (r:Rte):zne p r:=by
 intro s hs he
 have h1:=zbh h.sec s hs
 rcases zjY r.entry p.signals Sgn.z with h2|h2
 ·have:sig p r.entry=Sgn.z:=h2
  rw[this]at he
  have:Sgn.z.sec=0:=rfl
  omega
 ·have h3:sig p r.entry∈p.signals:=h2
  have h4:=h.sgn
  simp only[signals,Bool.and_eq_true]at h4
  have h5:=zhF _ _ _ h4.2 _ h3
  rw[<-he,ziA h.sec hs]at h5
  exact h5.2
theorem zc3 {p:Pln} (h:OkP p) {r:Rte} (hr:r∈p.routes):1<=r.path.length/\r.path.length<=6/\r.over.length<=2/\r.flanks.length<=3:=by
 have h1:=h.rte r hr
 simp only[zcR,zgs,Bool.and_eq_true,Bool.not_eq_true',decide_eq_false_iff_not]at h1
 omega
def WayR.z:WayR:=⟨[],[],[],0⟩
def ofW (p:Pln) (n:Int):WayR×Int:=if zb1 p=true then (match p.routes.find? fun x=>decide (x.id=n) with|some r=>((zah p r).1,(zah p r).2.2)|none=>(WayR.z,6)) else (WayR.z,8)
theorem wayOf_pc (hH:HasAll P inv) (p:Pln) (hp:Sm p) (h:OkP p) {r:Rte} (hr:r∈p.routes):PC P inv 90 [.agg p.c,.agg r.c] (·=.tup [.agg (zah p r).1.c,.sl 2 ((zah p r).2.1.map Join.c),.n (zah p r).2.2]) :=
 zmY hH p hp r (by have:=zc3 h hr;omega) (zjz h r)
def jls (l:List Join):List AV:=[.sl 2 (l.map Join.c)]
instance:Cells jls 1:=⟨fun _=>rfl,fun _=>rfl⟩
def allG (p:Pln):List Rte->List WayR->List (List Join)->List WayR×List (List Join)×Int
 |[],ws,os=>(ws,os,0)
 |r::l,ws,os=>if (zah p r).2.2=0 then allG p l (ws++[(zah p r).1]) (os++[(zah p r).2.1]) else ([],[],(zah p r).2.2)
def allW (p:Pln):List WayR×List (List Join)×Int:=if zb1 p=true then allG p p.routes [] [] else ([],[],8)
theorem all_pc (hH:HasAll P inv) (hI:HasIds P inv) (p:Pln) (hp:Sm p):PC P inv 82 [.agg p.c] (·=.tup [.sl 4 ((allW p).1.map Way.c),.sl 1 ((allW p).2.1.map jls),.n (allW p).2.2]):=by
 have hlr:=hp.rte
 have c0:=zll hH hI p hp
 unfold allW zds at *
 cases ho:zb1 p with
 |false =>
  rw[ho,if_neg (by simp)]at c0
  rw[if_neg (by simp)]
  refine PC.fn hH cd82 fun w0 M Q hM hE hQ hR=>?_;dsimp only[cd82,qm,ql,qf,qi,qb,qc,qN,qt]at hQ |-
  (repeat' first|refine zaa [0,1,2,3,4,6,7,8,9,13,15,16,17,18,29] fun K hK=>?_|(refine hK.go ?_;clear hK K)|with_reducible exact wT|refine wA ?_|(refine wB (fun h=>?_) (fun h=>?_)<;>first|exact wN h|subst (h:(_:Bool)=_)|skip)|(refine wQ ?_;clear hQ hR hE hM)|refine wC c0 ?_|fail)
 |true =>
  rw[ho,if_pos rfl]at c0
  rw[if_pos rfl]
  have hok:=zid ho
  clear ho
  obtain ⟨ans,ha⟩:∃ ans,ans=allG p p.routes [] []:=⟨_,rfl⟩
  rw[<-ha]
  refine PC.fn hH cd82 fun w0 M Q hM hE hQ hR=>?_;dsimp only[cd82,qm,ql,qf,qi,qb,qc,qN,qt]at hQ |-
  (repeat' first|refine zaa [0,1,2,3,4,6,7,8,9,13,15,16,17,18,29] fun K hK=>?_|(refine hK.go ?_;clear hK K)|with_reducible exact wT|refine wA ?_|(refine wB (fun h=>?_) (fun h=>?_)<;>first|exact wN h|subst (h:(_:Bool)=_)|skip)|(refine wQ ?_;clear hQ hR hE hM)|refine wC c0 ?_|fail)
  refine AWp.empty 2 10 4 rfl (Nat.zero_le _) (by (refine wD ?_;try with_reducible exact wT)) (by (refine wD ?_;try with_reducible exact wT)) ?_
  refine AWp.empty 3 11 1 rfl (Nat.zero_le _) (by (refine wD ?_;try with_reducible exact wT)) (by (refine wD ?_;try with_reducible exact wT)) ?_
  refine zam (ι:=Nat×(List WayR)×(List (List Join))×Bool×Bool) [1,2,3,4,15,16,17] (fun z=>[(2,.sm 10 (z.2.1.length*4) 0 z.2.1.length 4),(3,.sm 11 z.2.2.1.length 0 z.2.2.1.length 1),(17,.n z.1)]) (fun z=>[(10,.cells (z.2.1.map Way.c).flatten z.2.2.2.1),(11,.cells (z.2.2.1.map jls).flatten z.2.2.2.2)]) (fun z=>z.1) (p.routes.length) (fun z=>(allG p (p.routes.drop z.1) z.2.1 z.2.2.1=ans)/\(z.2.1.length<=z.1/\z.2.2.1.length<=z.1)) (0,[],[],false,false) ?_;rintro ⟨k,ws,os,b1,b2⟩ ⟨hk,hg,hx⟩;(try dsimp only at hk hg hx |-);rcases Nat.lt_or_ge k p.routes.length with hlt|hge
  ·rw[zaf hlt]at hg
   rw[allG]at hg
   have c1:=wayOf_pc hH p hp hok (zab hlt)
   generalize zah p (nth p.routes k)=W at c1 hg
   (repeat' first|refine zaa [0,1,2,3,4,6,7,8,9,13,15,16,17,18,29] fun K hK=>?_|(refine hK.go ?_;clear hK K)|with_reducible exact wT|refine wA ?_|(refine wB (fun h=>?_) (fun h=>?_)<;>first|exact wN h|subst (h:(_:Bool)=_)|skip)|(refine wQ ?_;clear hQ hR hE hM)|refine wC c1 ?_|fail)
   ·rw[if_neg (by assumption)]at hg
    rw[<-hg]
    rfl
   ·rw[if_pos (by assumption)]at hg
    exact nY (k+1,ws++[W.1],os++[W.2.1],true,true) ⟨by (try dsimp only);omega,hg,by (try dsimp only);simp;omega⟩
  ·rw[List.drop_eq_nil_of_le hge,allG]at hg
   (repeat' first|refine zaa [0,1,2,3,4,6,7,8,9,13,15,16,17,18,29] fun K hK=>?_|(refine hK.go ?_;clear hK K)|with_reducible exact wT|refine wA ?_|(refine wB (fun h=>?_) (fun h=>?_)<;>first|exact wN h|subst (h:(_:Bool)=_)|skip)|(refine wQ ?_;clear hQ hR hE hM)|fail)
   all_goals (rw[<-hg])
theorem zel {p:Pln} {w:Wk} {s i:Int} {R:Int->Join->Bool} (h:(zaD p w s i R).lost=false):w.lost=false/\w.outs.length+1=(zaD p w s i R).outs.length:=by
 unfold zaD at h |-
 split
 ·rename_i h1;rw[if_pos h1,h1]at h;cases h
 ·rename_i h1
  rw[if_neg h1]at h
  split
  ·rename_i h2;rw[h2]at h;cases h
  ·rename_i s' h2
   rw[h2]at h
   dsimp only at h
   split
   ·rename_i h3;rw[h3]at h;cases h
   ·refine ⟨by simpa using h1,by simp⟩
theorem zpA {p:Pln} {w:Wk} {s i:Int} (h:(zec p w s i).lost=false):w.lost=false/\w.outs.length=(zec p w s i).outs.length:=by
 unfold zec at h |-
 split
 ·rename_i h2;rw[h2]at h;cases h
 ·rename_i s' h2
  rw[h2]at h
  dsimp only at h
  split
  ·rename_i h3;exact ⟨h3.1,rfl⟩
  ·rename_i h3;rw[if_neg h3]at h;exact ⟨h,rfl⟩
theorem zpy {p:Pln} {r:Rte} {y:Sgn} {all:List Int} {i:Nat} {s:Int} {w:Wk} (hl:r.path.length<=all.length) (h:(zen p r y all i s w).lost=false):w.lost=false/\w.outs.length<=(zen p r y all i s w).outs.length/\(i<r.path.length->w.outs.length+1<=(zen p r y all i s w).outs.length):=by
 unfold zen at h |-
 split
 ·rename_i h1;rw[if_pos h1]at h;have:=zel h;exact ⟨this.1,by omega,fun _=>by omega⟩
 ·rename_i h1
  rw[if_neg h1]at h
  split
  ·rename_i h2;rw[if_pos h2]at h;have:=zel h;exact ⟨this.1,by omega,fun _=>by omega⟩
  ·rename_i h2
   rw[if_neg h2]at h
   split
   ·rename_i h3;rw[if_pos h3]at h;have:=zpA h;exact ⟨this.1,by omega,fun _=>by omega⟩
   ·rename_i h3;rw[if_neg h3]at h;have:=zel h;exact ⟨this.1,by omega,fun _=>by omega⟩
theorem zjc {p:Pln} {r:Rte} {y:Sgn} {all:List Int} (hl:r.path.length<=all.length):∀ (l:List Int) (i:Nat) (w:Wk),i+l.length=all.length->(zbK p r y all i w l).lost=false->w.lost=false/\w.outs.length+(r.path.length-i)<=(zbK p r y all i w l).outs.length
 |[],i,w,hi,h=>by
  rw[zbK]at h |-
  simp only[List.length_nil]at hi
  exact ⟨h,by omega⟩
 |s::l,i,w,hi,h=>by
  rw[zbK]at h |-
  simp only[List.length_cons]at hi
  have h1:=zjc hl l (i+1) _ (by omega) h
  have h2:=zpy hl h1.1
  refine ⟨h2.1, ?_⟩
  have h3:=h2.2.2
  have h4:=h2.2.1
  omega
theorem zoj {p:Pln} {r:Rte} (h:(zah p r).2.2=0):r.path.length<=(zah p r).2.1.length:=by
 unfold zah at h |-
 split
 ·rename_i h1;rw[if_pos h1]at h;cases h
 ·rename_i h1
  have h2:(zhy p r).lost=false:=by simpa using h1
  have:=(zjc (by simp) _ _ _ (by simp) h2).2
  dsimp only at this |-
  unfold zhy
  simp only[List.length_nil]at this
  omega
theorem zpp (p:Pln) (r:Rte):(zah p r).2.2=0\/(zah p r).2.2=90:=by unfold zah;split<;>simp
theorem zbv {p:Pln} {r:Rte} (h:(zah p r).2.2=0):(zah p r).1.path=r.path/\(zah p r).1.over=r.over/\(zah p r).1.near=(sig p r.entry).sec:=by
 unfold zah at h |-
 split
 ·rename_i h1;rw[if_pos h1]at h;cases h
 ·exact ⟨rfl,rfl,rfl⟩
def zpg (p:Pln) (a:AskR):Prop:=((∃ s∈p.sections,s.pt=a.pnt)\/(∃ x∈p.points,x.id=a.pnt))/\0<a.pnt/\(a.lie=1\/a.lie=2)
theorem zm6 {p:Pln} {pt lie pos:Int} {l:List AskR} (hl:∀ a∈l,zpg p a) (h:0<pt/\0<lie->((∃ s∈p.sections,s.pt=pt)\/(∃ x∈p.points,x.id=pt))/\(lie=1\/lie=2)):∀ a∈zi9 pt lie pos l,zpg p a:=by
 unfold zi9
 split
 ·rename_i hc
  intro a ha
  rcases List.mem_append.1 ha with ha|ha
  ·exact hl a ha
  ·simp only[List.mem_singleton]at ha
   subst ha
   exact ⟨(h hc).1,hc.1,(h hc).2⟩
 ·exact hl
def zlr:List Bool->List AskR->Bool
 |_,[]=>true
 |m,a::r=>!nth m a.pnt.toNat&&zlr (m.set a.pnt.toNat true) r
def once (l:List AskR):Bool:=zlr (List.replicate 100 false) l
theorem once_pc (hH:HasAll P inv) (l:List AskR) (hl:l.length<=1000000) (h:∀ a∈l,0<=a.pnt/\a.pnt<=99):PC P inv 83 [.sl 3 (l.map AskR.c)] (·=.b (once l)):=by
 refine PC.fn hH cd83 fun w0 M Q hM hE hQ hR=>?_;dsimp only[cd83,qm,ql,qf,qi,qb,qc,qN,qt]at hQ |-
 (repeat' first|refine zaa [0,2,3,5,6,7,8,9,15] fun K hK=>?_|(refine hK.go ?_;clear hK K)|with_reducible exact wT|refine wA ?_|(refine wB (fun h=>?_) (fun h=>?_)<;>first|exact wN h|subst (h:(_:Bool)=_)|skip)|(refine wQ ?_;clear hQ hR hE hM)|fail)
 refine zam (ι:=Nat×(List Bool)) [2,3,6,7,8] (fun z=>[(8,.n z.1)]) (fun z=>[(0,.cells (z.2.map AV.b) true)]) (fun z=>z.1) (l.length) (fun z=>(z.2.length=100)/\(zlr z.2 (l.drop z.1)=once l)) (0,List.replicate 100 false) ?_;rintro ⟨k,m⟩ ⟨hk,hp,hg⟩;(try dsimp only at hk hp hg |-);rcases Nat.lt_or_ge k l.length with hlt|hge
 ·rw[zaf hlt]at hg
  rw[zlr]at hg
  have hb:=h _ (zab hlt)
  (have hX:=@hp;(repeat' first|refine zaa [0,2,3,5,6,7,8,9,15] fun K hK=>?_|(refine hK.go ?_;clear hK K)|with_reducible exact wT|refine wA ?_|(refine wB (fun h=>?_) (fun h=>?_)<;>first|exact wN h|subst (h:(_:Bool)=_)|skip)|(refine wQ ?_;clear hQ hR hE hM)|fail);all_goals clear hX)
  ·rw[<-hg];simp[*]
  ·exact nY (k+1,m.set (nth l k).pnt.toNat true) ⟨by (try dsimp only);omega,by (try dsimp only);simp[hp],by (try dsimp only);rw[<-hg];simp[*]⟩
 ·rw[List.drop_eq_nil_of_le hge,zlr]at hg
  (have hX:=@hp;(repeat' first|refine zaa [0,2,3,5,6,7,8,9,15] fun K hK=>?_|(refine hK.go ?_;clear hK K)|with_reducible exact wT|refine wA ?_|(refine wB (fun h=>?_) (fun h=>?_)<;>first|exact wN h|subst (h:(_:Bool)=_)|skip)|(refine wQ ?_;clear hQ hR hE hM)|fail);all_goals clear hX)
  rw[<-hg]
def zhI (r:Rte) (i:Int) (j:Join) (x:Sgn):Bool:=decide (x.sec=j.to)&&(decide (x.ed=j.ed)&&(decide (i<(r.path.length:Int)-1)||!decide (x.id=r.exit)))
def zgc (p:Pln) (r:Rte):Int->List Join->Bool
 |_,[]=>true
 |i,j::l=>!p.signals.any (zhI r i j)&&zgc p r (i+1) l
def zgI (p:Pln) (r:Rte) (outs:List Join):Bool:=zgc p r 0 (outs.take r.path.length)
theorem clear_pc (hH:HasAll P inv) (p:Pln) (hp:Sm p) (r:Rte) (outs:List Join) (h1:r.path.length<=outs.length) (h2:outs.length<=1000000):PC P inv 84 [.agg p.c,.agg r.c,.sl 2 (outs.map Join.c)] (·=.b (zgI p r outs)):=by
 have hls:=hp.sgn
 obtain ⟨l,hl⟩:∃ l,l=outs.take r.path.length:=⟨_,rfl⟩
 have hll:l.length=r.path.length:=by rw[hl];simp;omega
 have hlm:(outs.map Join.c).take r.path.length=l.map Join.c:=by rw[hl,List.map_take]
 unfold zgI
 rw[<-hl]
 clear hl
 have hlm':(outs.map Join.c).take (r.path.length:Int).toNat=l.map Join.c:=hlm
 refine PC.fn hH cd84 fun w0 M Q hM hE hQ hR=>?_;dsimp only[cd84,qm,ql,qf,qi,qb,qc,qp,qv,qN,qT,qF,qt]at hQ |-
 (have hX:=zA @Int.toNat_natCast (zA @hlm @hlm');(repeat' first|refine zaa [0,1,2,3,4,6,7,8,10,15,16,17,18,23,24,25,26,55] fun K hK=>?_|(refine hK.go ?_;clear hK K)|with_reducible exact wT|refine wA ?_|(refine wB (fun h=>?_) (fun h=>?_)<;>first|exact wN h|subst (h:(_:Bool)=_)|skip)|(refine wQ ?_;clear hQ hR hE hM)|fail);all_goals clear hX)
 refine zam (ι:=Nat) [3,4,6,15,16,17] (fun z=>[(17,.n z)]) (fun _=>[]) (fun z=>z) (l.length) (fun z=>(zgc p r z (l.drop z)=zgc p r 0 l)) (0) ?_;rintro k ⟨hk,hg⟩;(try dsimp only at hk hg |-);rcases Nat.lt_or_ge k l.length with hlt|hge
 ·rw[zaf hlt]at hg
  rw[zgc]at hg
  generalize hj:nth l k=j at hg
  (have hX:=@hj;(repeat' first|refine zaa [0,1,2,3,4,6,7,8,10,15,16,17,18,23,24,25,26,55] fun K hK=>?_|(refine hK.go ?_;clear hK K)|with_reducible exact wT|refine wA ?_|(refine wB (fun h=>?_) (fun h=>?_)<;>first|exact wN h|subst (h:(_:Bool)=_)|skip)|(refine wQ ?_;clear hQ hR hE hM)|fail);all_goals clear hX)
  refine zam (ι:=Nat) [3,4,6,7,8,15,16,17,23,24,25] (fun z=>[(25,.n z)]) (fun _=>[]) (fun z=>z) (p.signals.length) (fun z=>(((p.signals.drop z).any (zhI r k j))=p.signals.any (zhI r k j))) (0) ?_;rintro m ⟨hk,hg2⟩;(try dsimp only at hk hg2 |-);rcases Nat.lt_or_ge m p.signals.length with hlt|hge
  ·rw[zaf (by assumption),List.any_cons]at hg2
   (repeat' first|refine zaa [0,1,2,3,4,6,7,8,10,15,16,17,18,23,24,25,26,55] fun K hK=>?_|(refine hK.go ?_;clear hK K)|with_reducible exact wT|refine wA ?_|(refine wB (fun h=>?_) (fun h=>?_)<;>first|exact wN h|subst (h:(_:Bool)=_)|skip)|(refine wQ ?_;clear hQ hR hE hM)|fail)
   all_goals first
    |(rw[show zhI r k j (nth p.signals m)=true by simp[zhI, *],Bool.true_or]at hg2;rw[<-hg,<-hg2];rfl)
    |(rw[show zhI r k j (nth p.signals m)=false by simp[zhI, *],Bool.false_or]at hg2;exact ⟨m+1,by omega,⟨by omega,hg2⟩,by omega⟩)
  ·rw[List.drop_eq_nil_of_le (by assumption),List.any_nil]at hg2
   (repeat' first|refine zaa [0,1,2,3,4,6,7,8,10,15,16,17,18,23,24,25,26,55] fun K hK=>?_|(refine hK.go ?_;clear hK K)|with_reducible exact wT|refine wA ?_|(refine wB (fun h=>?_) (fun h=>?_)<;>first|exact wN h|subst (h:(_:Bool)=_)|skip)|(refine wQ ?_;clear hQ hR hE hM)|fail)
   rw[<-hg2,Bool.not_false,Bool.true_and]at hg
   exact ⟨k+1,by omega,⟨by omega,by rw[<-hg];rfl⟩,by omega⟩
 ·rw[List.drop_eq_nil_of_le hge,zgc]at hg
  (repeat' first|refine zaa [0,1,2,3,4,6,7,8,10,15,16,17,18,23,24,25,26,55] fun K hK=>?_|(refine hK.go ?_;clear hK K)|with_reducible exact wT|refine wA ?_|(refine wB (fun h=>?_) (fun h=>?_)<;>first|exact wN h|subst (h:(_:Bool)=_)|skip)|(refine wQ ?_;clear hQ hR hE hM)|fail)
  rw[<-hg]
def zrS (p:Pln):Bool:=p.routes.all fun r=>decide ((zah p r).2.2=0)
theorem zl6 (p:Pln):∀ (l:List Rte) (ws:List WayR) (os:List (List Join)),allG p l ws os=if (l.all fun r=>decide ((zah p r).2.2=0))=true then (ws++l.map fun r=>(zah p r).1,os++l.map fun r=>(zah p r).2.1,0) else ([],[],90)
 |[],ws,os=>by simp[allG]
 |r::l,ws,os=>by
  rw[allG,zl6 p l]
  rcases zpp p r with h|h
  ·rw[if_pos h];simp[h]
  ·rw[if_neg (by omega),h];simp[h]
theorem zl5 (p:Pln):allW p=if zb1 p=true then (if zrS p=true then (p.routes.map fun r=>(zah p r).1,p.routes.map fun r=>(zah p r).2.1,0) else ([],[],90)) else ([],[],8):=by
 unfold allW zrS
 rw[zl6]
 simp
def zbF (p:Pln) (r:Rte):Bool:=once (zah p r).1.asks&&zgI p r (zah p r).2.1
def zbd (p:Pln):Bool:=zb1 p&&(zrS p&&p.routes.all (zbF p))
def zhD (p:Pln):Int:=if zbd p=true then 0 else 100
theorem zk9 {s:Section} {f t:Int} (h:(zbc s f t).2=0):0<=(zbc s f t).1/\(zbc s f t).1<=2:=by
 unfold zbc at h |-
 split
 ·rename_i h1
  rw[if_pos h1]at h
  split
  ·rename_i h2;rw[if_pos h2]at h;simp at h
  ·rename_i h2
   dsimp only
   refine ⟨by omega, ?_⟩
   unfold zh4
   repeat' split
   all_goals omega
 ·rename_i h1;rw[if_neg h1]at h;simp at h
theorem joinEd {l:List Section} (h:zcg l=true) {s:Section} (hs:s∈l) {j:Join} (hj:j∈s.ends):0<=j.ed/\j.ed<=2:=by
 have h1:=(zgX l).1 h
 obtain ⟨i,hi,rfl⟩:=List.mem_iff_getElem.1 hj
 rw[<-zaK hi]
 rcases h1.join s hs i hi with h2|⟨_,h3,s',hs',_,h4,_⟩
 ·omega
 ·have:=(zbh h s' hs').2.2.2.2
  omega
theorem zgZ {s:Section} {f:Int} {R:Int->Join->Bool}:∀ {l:List Join} {e:Nat} {v:Nat×Join×Int},zaV s f R e l=some v->v.2.1∈l/\0<=v.2.2/\v.2.2<=2
 |[],e,v,h=>by simp[zaV]at h
 |j::r,e,v,h=>by
  rw[zaV]at h
  split at h
  ·rename_i h1
   simp only[Option.some.injEq]at h
   subst h
   exact ⟨by simp,zk9 h1.1⟩
  ·have:=zgZ h
   exact ⟨by simp[this.1],this.2⟩
theorem zk6 {p:Pln} {w:Wk} {id:Int} {s:Section} (h:zhb p w id=some s):s∈p.sections:=by
 unfold zhb at h
 split at h
 ·exact List.mem_of_find?_eq_some h
 ·cases h
def WkOK (p:Pln) (w:Wk):Prop:=(0<=w.inn.ed/\w.inn.ed<=2)/\∀ a∈w.asks,zpg p a
theorem zmd {p:Pln} (h:OkP p) {w:Wk} {s i:Int} {R:Int->Join->Bool} (hw:WkOK p w):WkOK p (zaD p w s i R):=by
 unfold zaD
 split
 ·exact hw
 ·split
  ·exact hw
  ·rename_i t ht
   have hs:=zk6 ht
   split
   ·exact hw
   ·rename_i e j lie hp
    have:=zgZ hp
    dsimp only at this
    exact ⟨joinEd h.sec hs this.1,zm6 hw.2 fun hc=>⟨.inl ⟨t,hs,rfl⟩,by omega⟩⟩
theorem stayW_ok {p:Pln} {w:Wk} {s i:Int} (hw:WkOK p w):WkOK p (zec p w s i):=by
 unfold zec
 split
 ·exact hw
 ·rename_i t ht
  have hs:=zk6 ht
  split
  ·exact ⟨hw.1,zm6 hw.2 fun hc=>⟨.inl ⟨t,hs,rfl⟩,by have:=hw.1;omega⟩⟩
  ·exact hw
theorem zkT {p:Pln} (h:OkP p) {r:Rte} {y:Sgn} {all:List Int}:∀ (l:List Int) (i:Nat) (w:Wk),WkOK p w->WkOK p (zbK p r y all i w l)
 |[],_,_,hw=>hw
 |s::l,i,w,hw=>by
  rw[zbK]
  refine zkT h l _ _ ?_
  unfold zen
  repeat' split
  all_goals first|exact zmd h hw|exact stayW_ok hw
theorem zqW {p:Pln} (h:OkP p) {x:Sgn} (he:∀ s∈p.sections,s.id=x.sec->0<=x.ed/\x.ed<s.ends.length):∀ (l:List Section) (j:Join),(∀ s∈l,s∈p.sections)->(0<=j.ed/\j.ed<=2)->0<=(zjs x j l).ed/\(zjs x j l).ed<=2
 |[],_,_,hj=>hj
 |s::l,j,hl,hj=>by
  rw[zjs]
  refine zqW h he l _ (fun t ht=>hl t (by simp[ht])) ?_
  split
  ·rename_i hid
   have:=he s (hl s (by simp)) hid
   exact joinEd h.sec (hl s (by simp)) (zab (by omega))
  ·exact hj
theorem zn0 {p:Pln}:∀ (f:List Flk) (l:List AskR),(∀ a∈l,zpg p a)->(∀ x∈f,(∃ y∈p.points,y.id=x.pnt)/\(x.lie=1\/x.lie=2))->∀ a∈zgE l f,zpg p a
 |[],l,hl,_=>hl
 |x::f,l,hl,hf=>by
  rw[zgE]
  refine zn0 f _ (zm6 hl fun _=>?_) fun y hy=>hf y (by simp[hy])
  have:=hf x (by simp)
  exact ⟨.inr this.1,this.2⟩
theorem zok {p:Pln} (h:OkP p) {r:Rte} (hr:r∈p.routes):∀ a∈(zah p r).1.asks,zpg p a:=by
 unfold zah
 split
 ·simp
 ·have h0:WkOK p (zhy p r):=by
   unfold zhy
   exact zkT h _ _ _ ⟨zqW h (zjz h r) _ _ (fun _ hs=>hs) (by simp),by simp⟩
  have h1:=h.rte r hr
  simp only[zcR,Bool.and_eq_true]at h1
  exact zn0 _ _ h0.2 (zn1 _ _ _ h1.2.2.2.2)
theorem zeK:∀ (l:List Section) (a:List Int) (m:Int),(zma a m l).2=m+((l.filter fun s=>decide (0<s.pt)).length:Int)
 |[],a,m=>by simp[zma]
 |s::r,a,m=>by
  rw[zma]
  split
  ·rename_i h1;rw[zeK r,List.filter_cons_of_pos (by simpa using h1),List.length_cons];omega
  ·rename_i h1;rw[zeK r,List.filter_cons_of_neg (by simpa using h1)]
theorem zkh:∀ (l:List Section) (a:List Int) (m:Int) (i:Nat),(∀ s∈l,s.pt<=99)->a.length=100->nth (zma a m l).1 i=nth a i\/∃ s∈l,0<s.pt/\s.pt.toNat=i/\s.id=nth (zma a m l).1 i
 |[],a,m,i,_,_=>.inl rfl
 |s::r,a,m,i,hl,ha=>by
  rw[zma]
  have hs:=hl s (by simp)
  split
  ·rename_i h1
   rcases zkh r (a.set s.pt.toNat s.id) (m+1) i (fun t ht=>hl t (by simp[ht])) (by simpa using ha) with h2|⟨t,ht,h3⟩
   ·rw[h2,za7 _ _ _ _ (by omega)]
    by_cases h4:i=s.pt.toNat
    ·rw[if_pos h4];exact .inr ⟨s,by simp,h1,h4.symm,rfl⟩
    ·rw[if_neg h4];exact .inl rfl
   ·exact .inr ⟨t,by simp[ht],h3⟩
  ·rcases zkh r a m i (fun t ht=>hl t (by simp[ht])) ha with h2|⟨t,ht,h3⟩
   ·exact .inl h2
   ·exact .inr ⟨t,by simp[ht],h3⟩
theorem zkk {l1:List Int}:∀ {l2:List Int},l1.Nodup->(∀ x∈l1,x∈l2)->l1.length<=l2.length:=by
 induction l1 with
 |nil=>intro l2 _ _;simp
 |cons x l ih =>
  intro l2 hn hs
  simp only[List.nodup_cons]at hn
  have hx:=hs x (by simp)
  have:=ih (l2:=l2.erase x) hn.2 fun y hy=>(List.mem_erase_of_ne (by intro e;subst e;exact hn.1 hy)).2 (hs y (by simp[hy]))
  rw[List.length_erase_of_mem hx]at this
  have:=List.length_pos_of_mem hx
  simp only[List.length_cons]
  omega
theorem pigeon {l1 l2:List Int} (h1:l1.Nodup) (hs:∀ x∈l1,x∈l2) (hl:l2.length<=l1.length):∀ y∈l2,y∈l1:=by
 intro y hy
 rcases Classical.em (y∈l1) with h|h
 ·exact h
 ·exfalso
  have:=zkk (l1:=y::l1) (l2:=l2) (by simp[h,h1]) (by simp;exact ⟨hy,hs⟩)
  simp only[List.length_cons]at this
  omega
theorem zj8 {l:List Int} {m:Int} (h:rise l m=true):l.Nodup:=zeQ ((zdq l m).1 h).2.1
theorem zqa {p:Pln} (h:OkP p) {x:Pnt} (hx:x∈p.points):∃ s∈p.sections,0<s.pt/\s.pt=x.id/\s.id=x.sec:=by
 have hp:=h.pts
 simp only[points,Bool.and_eq_true,decide_eq_true_eq,Bool.not_eq_true']at hp
 have hr:=((zdq _ _).1 hp.1).1 x.id (List.mem_map_of_mem hx)
 have hb:=(List.any_eq_false.1 hp.2.2) x hx
 simp only[zki,Bool.or_eq_true,decide_eq_true_eq,Bool.not_eq_true',decide_eq_false_iff_not,not_or]at hb
 have h1:=zbh h.sec
 rcases zkh p.sections (List.replicate 100 0) 0 x.id.toNat (fun s hs=>by have:=h1 s hs;omega) (by simp) with h2|⟨s,hs,h3,h4,h5⟩
 ·exfalso
  have h6:nth (pts p.sections).1 x.id.toNat=0:=by unfold pts;rw[h2,zdz _ _ _ (by omega)]
  have h7:nth (pts p.sections).1 x.id.toNat=x.sec:=by
   rcases Classical.em (nth (pts p.sections).1 x.id.toNat=x.sec) with h8|h8
   ·exact h8
   ·exact absurd h8 hb.2
  omega
 ·have h7:nth (pts p.sections).1 x.id.toNat=x.sec:=by
   rcases Classical.em (nth (pts p.sections).1 x.id.toNat=x.sec) with h8|h8
   ·exact h8
   ·exact absurd h8 hb.2
  exact ⟨s,hs,h3,by have:=h1 s hs;omega,by rw[h5];exact h7⟩
theorem sec_pts {p:Pln} (h:OkP p) {s:Section} (hs:s∈p.sections) (h0:0<s.pt):∃ x∈p.points,x.id=s.pt:=by
 have hp:=h.pts
 simp only[points,Bool.and_eq_true,decide_eq_true_eq,Bool.not_eq_true']at hp
 have hc:(pts p.sections).2=((p.sections.filter fun s=>decide (0<s.pt)).length:Int):=by unfold pts;rw[zeK];omega
 have:=pigeon (l1:=p.points.map Pnt.id) (l2:=(p.sections.filter fun s=>decide (0<s.pt)).map Section.pt) (zj8 hp.1) (fun i hi=>by
  obtain ⟨x,hx,rfl⟩:=List.mem_map.1 hi
  obtain ⟨t,ht,h3,h4,h5⟩:=zqa h hx
  exact List.mem_map.2 ⟨t,List.mem_filter.2 ⟨ht,by simpa using h3⟩,h4⟩) (by simp only[List.length_map];have:=hp.2.1;omega) s.pt (List.mem_map.2 ⟨s,List.mem_filter.2 ⟨hs,by simpa using h0⟩,rfl⟩)
 obtain ⟨x,hx,e⟩:=List.mem_map.1 this
 exact ⟨x,hx,e⟩
theorem zbC {p:Pln} (h:OkP p) {r:Rte} (hr:r∈p.routes) {a:AskR} (ha:a∈(zah p r).1.asks):(∃ x∈p.points,x.id=a.pnt)/\(1<=a.pnt/\a.pnt<=99)/\(a.lie=1\/a.lie=2):=by
 have h1:=zok h hr a ha
 have h2:∃ x∈p.points,x.id=a.pnt:=by
  rcases h1.1 with ⟨s,hs,e⟩|h3
  ·rw[<-e];exact sec_pts h hs (by rw[e];exact h1.2.1)
  ·exact h3
 refine ⟨h2, ?_,h1.2.2⟩
 obtain ⟨x,hx,e⟩:=h2
 have hp:=h.pts
 simp only[points,Bool.and_eq_true]at hp
 have:=((zdq _ _).1 hp.1).1 x.id (List.mem_map_of_mem hx)
 omega
theorem zb8 {p:Pln} (h:OkP p) {r:Rte} (hr:r∈p.routes):(∀ n∈r.path++r.over,∃ s∈p.sections,s.id=n)/\(r.path++r.over).Nodup:=by
 have h1:=h.rte r hr
 simp only[zcR,zhQ,Bool.and_eq_true]at h1
 have h2:=(zkn _ _ _ (by simp)).1 h1.2.2.2.1
 exact ⟨fun n hn=>(zem h.sec n).1 (h2.1 n hn).1,h2.2⟩
theorem zcQ {p:Pln} (h:OkP p) {s:Section} (hs:s∈p.sections):1<=s.id/\s.id<=99:=by have:=zbh h.sec s hs;omega
theorem znK {α β:Type} [Inhabited α] [Inhabited β] (f:α->β) {l:List α} {i:Nat} (h:i<l.length):nth (l.map f) i=f (nth l i):=by
 rw[zaK (by simpa using h),zaK h];simp
theorem zpz (p:Pln) (r:Rte) (y:Sgn) (all:List Int) (i:Nat) (s:Int) (w:Wk):(zen p r y all i s w).asks.length<=w.asks.length+1/\(zen p r y all i s w).outs.length<=w.outs.length+1:=by
 unfold zen
 repeat' split
 all_goals first|exact zdn _ _ _ _ _|exact zkV _ _ _ _
theorem zjd (p:Pln) (r:Rte) (y:Sgn) (all:List Int):∀ (l:List Int) (i:Nat) (w:Wk),(zbK p r y all i w l).asks.length<=w.asks.length+l.length/\(zbK p r y all i w l).outs.length<=w.outs.length+l.length
 |[],_,_=>⟨Nat.le_refl _,Nat.le_refl _⟩
 |s::l,i,w=>by
  rw[zbK]
  have h1:=zjd p r y all l (i+1) (zen p r y all i s w)
  have h2:=zpz p r y all i s w
  simp only[List.length_cons]
  omega
theorem zlE:∀ (f:List Flk) (l:List AskR),(zgE l f).length<=l.length+f.length
 |[],l=>Nat.le_refl _
 |x::f,l=>by
  rw[zgE]
  have h1:=zlE f (zi9 x.pnt x.lie (-1) l)
  have h2:=zkQ x.pnt x.lie (-1) l
  simp only[List.length_cons]
  omega
theorem zbf {p:Pln} (h:OkP p) {r:Rte} (hr:r∈p.routes):(zah p r).1.asks.length<=1000/\(zah p r).2.1.length<=1000/\(zah p r).1.path.length<=1000/\(zah p r).1.over.length<=1000:=by
 have hl:=zc3 h hr
 unfold zah
 split
 ·simp
 ·unfold zhy
  have h1:=zjd p r (sig p r.exit) (r.path++r.over) (r.path++r.over) 0 ⟨zjs (sig p r.entry) ⟨0,0⟩ p.sections,[],[],false⟩
  have h2:=zlE r.flanks (zbK p r (sig p r.exit) (r.path++r.over) 0 ⟨zjs (sig p r.entry) ⟨0,0⟩ p.sections,[],[],false⟩ (r.path++r.over)).asks
  simp only[List.length_append,List.length_nil]at h1 h2
  dsimp only
  omega
theorem zjV (hH:HasAll P inv) (hI:HasIds P inv) (p:Pln) (hp:Sm p):PC P inv 70 [.agg p.c] (·=.n (zhD p)):=by
 have hlr:=hp.rte
 have c0:=all_pc hH hI p hp
 have hs:=zl5 p
 unfold zhD zbd
 cases ho:zb1 p with
 |false =>
  rw[ho,if_neg (by simp)]at hs
  rw[hs]at c0
  rw[Bool.false_and,if_neg (by simp)]
  refine PC.fn hH cd70 fun w0 M Q hM hE hQ hR=>?_;dsimp only[cd70,qm,ql,qf,qi,qb,qc,qv,qN,qF,qt]at hQ |-
  (repeat' first|refine zaa [0,1,2,3,4,5,6,7,15,17,18,19,20,29,38,40] fun K hK=>?_|(refine hK.go ?_;clear hK K)|with_reducible exact wT|refine wA ?_|(refine wB (fun h=>?_) (fun h=>?_)<;>first|exact wN h|subst (h:(_:Bool)=_)|skip)|(refine wQ ?_;clear hQ hR hE hM)|refine wC c0 ?_|fail)
  all_goals first|rfl|(exfalso;contradiction)
 |true =>
  have hok:=zid ho
  rw[ho,if_pos rfl]at hs
  cases ha:zrS p with
  |false =>
   rw[ha,if_neg (by simp)]at hs
   rw[hs]at c0
   rw[Bool.false_and,Bool.true_and,if_neg (by simp)]
   refine PC.fn hH cd70 fun w0 M Q hM hE hQ hR=>?_;dsimp only[cd70,qm,ql,qf,qi,qb,qc,qv,qN,qF,qt]at hQ |-
   (repeat' first|refine zaa [0,1,2,3,4,5,6,7,15,17,18,19,20,29,38,40] fun K hK=>?_|(refine hK.go ?_;clear hK K)|with_reducible exact wT|refine wA ?_|(refine wB (fun h=>?_) (fun h=>?_)<;>first|exact wN h|subst (h:(_:Bool)=_)|skip)|(refine wQ ?_;clear hQ hR hE hM)|refine wC c0 ?_|fail)
   all_goals first|rfl|(exfalso;contradiction)
  |true =>
   rw[ha,if_pos rfl]at hs
   rw[hs]at c0
   rw[Bool.true_and,Bool.true_and]
   dsimp only at c0
   clear hs
   obtain ⟨WS,hWS⟩:∃ WS,WS=p.routes.map fun r=>(zah p r).1:=⟨_,rfl⟩
   obtain ⟨OS,hOS⟩:∃ OS,OS=p.routes.map fun r=>(zah p r).2.1:=⟨_,rfl⟩
   rw[<-hWS,<-hOS]at c0
   have hl1:WS.length=p.routes.length:=by rw[hWS,List.length_map]
   have hl2:OS.length=p.routes.length:=by rw[hOS,List.length_map]
   refine PC.fn hH cd70 fun w0 M Q hM hE hQ hR=>?_;dsimp only[cd70,qm,ql,qf,qi,qb,qc,qv,qN,qF,qt]at hQ |-
   (repeat' first|refine zaa [0,1,2,3,4,5,6,7,15,17,18,19,20,29,38,40] fun K hK=>?_|(refine hK.go ?_;clear hK K)|with_reducible exact wT|refine wA ?_|(refine wB (fun h=>?_) (fun h=>?_)<;>first|exact wN h|subst (h:(_:Bool)=_)|skip)|(refine wQ ?_;clear hQ hR hE hM)|refine wC c0 ?_|fail)
   all_goals first|(exfalso;contradiction)|skip
   refine zam (ι:=Nat) [1,2,3,4,17,18,19] (fun z=>[(19,.n z)]) (fun _=>[]) (fun z=>z) (p.routes.length) (fun z=>(((p.routes.drop z).all (zbF p))=(p.routes.all (zbF p)))) (0) ?_;rintro k ⟨hk,hg⟩;(try dsimp only at hk hg |-);rcases Nat.lt_or_ge k p.routes.length with hlt|hge
   ·rw[zaf hlt]at hg
    rw[List.all_cons]at hg
    have hm:=zab hlt
    have hwl:=zbf hok hm
    have hw:(zah p (nth p.routes k)).2.2=0:=by
     have:=(List.all_eq_true.1 ha) _ hm
     simpa using this
    have hwo:=zoj hw
    have c1:=once_pc hH (zah p (nth p.routes k)).1.asks (by omega) (fun a h=>by have:=zbC hok hm h;omega)
    have c2:=clear_pc hH p hp (nth p.routes k) (zah p (nth p.routes k)).2.1 hwo (by omega)
    have e1:nth WS k=(zah p (nth p.routes k)).1:=by rw[hWS];exact znK (fun r=>(zah p r).1) hlt
    have e2:nth OS k=(zah p (nth p.routes k)).2.1:=by rw[hOS];exact znK (fun r=>(zah p r).2.1) hlt
    unfold zbF at hg
    revert c1 c2 hg
    generalize hA:once (zah p (nth p.routes k)).1.asks=A
    generalize hB:zgI p (nth p.routes k) (zah p (nth p.routes k)).2.1=B
    intro hg c1 c2
    (have hX:=zA @e1 (zA @e2 @jls.eq_1);(repeat' first|refine zaa [0,1,2,3,4,5,6,7,15,17,18,19,20,29,38,40] fun K hK=>?_|(refine hK.go ?_;clear hK K)|with_reducible exact wT|refine wA ?_|(refine wB (fun h=>?_) (fun h=>?_)<;>first|exact wN h|subst (h:(_:Bool)=_)|skip)|(refine wQ ?_;clear hQ hR hE hM)|refine wC c1 ?_|refine wC c2 ?_|fail);all_goals clear hX)
    all_goals first
     |(rw[if_neg];intro hh;unfold zbF at hh;rw[<-hg]at hh;simp at hh;done)
     |(exact ⟨k+1,by omega,⟨by omega,by unfold zbF;rw[<-hg];simp⟩,by omega⟩)
   ·rw[List.drop_eq_nil_of_le hge,List.all_nil]at hg
    (repeat' first|refine zaa [0,1,2,3,4,5,6,7,15,17,18,19,20,29,38,40] fun K hK=>?_|(refine hK.go ?_;clear hK K)|with_reducible exact wT|refine wA ?_|(refine wB (fun h=>?_) (fun h=>?_)<;>first|exact wN h|subst (h:(_:Bool)=_)|skip)|(refine wQ ?_;clear hQ hR hE hM)|fail)
    rw[<-hg,if_pos rfl]
def zmm:Sh:=.st [.i .i64,.i .u8]
def zjZ:Sh:=.st [.i .i64,.i .i64,.i .i64]
def zpG:Sh:=.st [.i .i64,.i .u8,.i .i64,.i .i64]
def zmn:Sh:=.st [.s 2 zmm,.s 3 zjZ,.s 4 zpG]
def U8 (x:Int):Prop:=0<=x/\x<=255
def Track.ok (t:Track):Prop:=I64 t.id/\U8 t.is
def Switch.ok (t:Switch):Prop:=I64 t.id/\I64 t.lie/\I64 t.call
def Lock.ok (t:Lock):Prop:=I64 t.id/\U8 t.phase/\I64 t.gone/\I64 t.left
def State.ok (s:State):Prop:=(s.tracks.length<=maxLen/\∀ t∈s.tracks,t.ok)/\(s.switches.length<=maxLen/\∀ t∈s.switches,t.ok)/\(s.locks.length<=maxLen/\∀ t∈s.locks,t.ok)
theorem of_track (d:D) (h:Sh.ok zmm d):∃ t:Track,Sh.av zmm d=t.c/\t.ok:=by
 obtain ⟨l,rfl,h⟩:=zhd h
 obtain ⟨d1,l,rfl,h1,h⟩:=zaI h
 obtain ⟨d2,l,rfl,h2,h⟩:=zaI h
 obtain rfl:=zd8 h
 obtain ⟨a,rfl,ha⟩:=zbr h1
 obtain ⟨b,rfl,hb⟩:=of_u8 h2
 exact ⟨⟨a,b⟩,rfl,ha,hb⟩
theorem zqm (d:D) (h:Sh.ok zjZ d):∃ t:Switch,Sh.av zjZ d=t.c/\t.ok:=by
 obtain ⟨l,rfl,h⟩:=zhd h
 obtain ⟨d1,l,rfl,h1,h⟩:=zaI h
 obtain ⟨d2,l,rfl,h2,h⟩:=zaI h
 obtain ⟨d3,l,rfl,h3,h⟩:=zaI h
 obtain rfl:=zd8 h
 obtain ⟨a,rfl,ha⟩:=zbr h1
 obtain ⟨b,rfl,hb⟩:=zbr h2
 obtain ⟨c,rfl,hc⟩:=zbr h3
 exact ⟨⟨a,b,c⟩,rfl,ha,hb,hc⟩
theorem of_lock (d:D) (h:Sh.ok zpG d):∃ t:Lock,Sh.av zpG d=t.c/\t.ok:=by
 obtain ⟨l,rfl,h⟩:=zhd h
 obtain ⟨d1,l,rfl,h1,h⟩:=zaI h
 obtain ⟨d2,l,rfl,h2,h⟩:=zaI h
 obtain ⟨d3,l,rfl,h3,h⟩:=zaI h
 obtain ⟨d4,l,rfl,h4,h⟩:=zaI h
 obtain rfl:=zd8 h
 obtain ⟨a,rfl,ha⟩:=zbr h1
 obtain ⟨b,rfl,hb⟩:=of_u8 h2
 obtain ⟨c,rfl,hc⟩:=zbr h3
 obtain ⟨e,rfl,he⟩:=zbr h4
 exact ⟨⟨a,b,c,e⟩,rfl,ha,hb,hc,he⟩
theorem arg_state {d:D} (h:Sh.ok zmn d):∃ s:State,Sh.arg zmn d=.agg s.c/\s.ok:=by
 obtain ⟨l,rfl,h⟩:=zhd h
 obtain ⟨d1,l,rfl,h1,h⟩:=zaI h
 obtain ⟨d2,l,rfl,h2,h⟩:=zaI h
 obtain ⟨d3,l,rfl,h3,h⟩:=zaI h
 obtain rfl:=zd8 h
 obtain ⟨l1,rfl,m1,h1⟩:=of_s h1
 obtain ⟨l2,rfl,m2,h2⟩:=of_s h2
 obtain ⟨l3,rfl,m3,h3⟩:=of_s h3
 obtain ⟨t1,e1,f1,g1⟩:=zd2 of_track l1 h1
 obtain ⟨t2,e2,f2,g2⟩:=zd2 zqm l2 h2
 obtain ⟨t3,e3,f3,g3⟩:=zd2 of_lock l3 h3
 refine ⟨⟨t1,t2,t3⟩, ?_,⟨by simpa [f1] using m1,g1⟩,⟨by simpa [f2] using m2,g2⟩,⟨by simpa [f3] using m3,g3⟩⟩
 simp only[Sh.arg,Sh.av,zc5,zmn,e1,e2,e3,State.c,List.cons_append,List.nil_append]
def ze6 (x:Track) (y:Section):Bool:=decide (x.id=y.id)&&decide (x.is<=2)
def zfo (n:Int):Bool:=decide (0<=n)&&decide (n<=2)
def zfz (x:Switch) (y:Pnt):Bool:=decide (x.id=y.id)&&(zfo x.lie&&zfo x.call)
def zax (l:Lock) (x:Rte):Bool :=
 if l.phase=0\/l.phase=1 then decide (l.gone=0)&&decide (l.left=0)
 else if l.phase=2 then decide (0<=l.gone)&&(decide (l.gone<=(x.path.length:Int)-1)&&decide (l.left=0))
 else if l.phase=3 then decide (l.gone=(x.path.length:Int)-1)&&(decide (1<=l.left)&&decide (l.left<=x.timer))
 else if l.phase=4 then decide (l.gone=0)&&(decide (1<=l.left)&&decide (l.left<=x.timer))
 else false
def zbR (x:Lock) (y:Rte):Bool:=decide (x.id=y.id)&&zax x y
theorem lie_pc (hH:HasAll P inv) (n:Int):PC P inv 110 [.n n] (·=.b (zfo n)):=by
 refine PC.fn hH cd110 fun w0 M Q hM hE hQ hR=>?_;dsimp only[cd110,qm,qc,qp,qN,qT]at hQ |-
 (repeat' first|refine zaa [0,2] fun K hK=>?_|(refine hK.go ?_;clear hK K)|with_reducible exact wT|refine wA ?_|(refine wB (fun h=>?_) (fun h=>?_)<;>first|exact wN h|subst (h:(_:Bool)=_)|skip)|(refine wQ ?_;clear hQ hR hE hM)|fail)
 all_goals (first|rfl|(grind[zfo])|(simp[zfo, *];done)|(simp_all [zfo];done)|(simp_all [zfo]<;>first|omega|((repeat' split)<;>first|rfl|(exfalso;omega))))
theorem zng (hH:HasAll P inv) (x:Track) (y:Section):PC P inv 112 ([.agg x.c,.agg y.c]++[]) (·=.b (ze6 x y)):=by
 refine PC.fn hH cd112 fun w0 M Q hM hE hQ hR=>?_;dsimp only[cd112,qm,ql,qf,qb,qp,qN,qT,qt]at hQ |-
 (repeat' first|refine zaa [0,1,2,3,4] fun K hK=>?_|(refine hK.go ?_;clear hK K)|with_reducible exact wT|refine wA ?_|(refine wB (fun h=>?_) (fun h=>?_)<;>first|exact wN h|subst (h:(_:Bool)=_)|skip)|(refine wQ ?_;clear hQ hR hE hM)|fail)
 all_goals (first|rfl|(grind[ze6])|(simp[ze6, *];done)|(simp_all [ze6];done)|(simp_all [ze6]<;>first|omega|((repeat' split)<;>first|rfl|(exfalso;omega))))
theorem znj (hH:HasAll P inv) (x:Switch) (y:Pnt):PC P inv 114 ([.agg x.c,.agg y.c]++[.ip 1 [[.fn 110 []]] 0 0]) (·=.b (zfz x y)):=by
 have c1:=lie_pc hH x.lie
 have c2:=lie_pc hH x.call
 have he:zfz x y=(decide (x.id=y.id)&&(zfo x.lie&&zfo x.call)):=rfl
 revert c1 c2 he
 generalize zfo x.lie=a
 generalize zfo x.call=b
 intro c1 c2 he
 refine PC.fn hH cd114 fun w0 M Q hM hE hQ hR=>?_;dsimp only[cd114,qm,ql,qf,qb,qp,qN,qT,qt]at hQ |-
 (repeat' first|refine zaa [0,1,2,3,4,5] fun K hK=>?_|(refine hK.go ?_;clear hK K)|with_reducible exact wT|refine wA ?_|(refine wB (fun h=>?_) (fun h=>?_)<;>first|exact wN h|subst (h:(_:Bool)=_)|skip)|(refine wQ ?_;clear hQ hR hE hM)|refine wC c1 ?_|refine wC c2 ?_|fail)
 all_goals (rw[he];simp[*])
theorem phase_pc (hH:HasAll P inv) (l:Lock) (x:Rte) (h:x.path.length<=1000000):PC P inv 117 [.agg l.c,.agg x.c] (·=.b (zax l x)):=by
 refine PC.fn hH cd117 fun w0 M Q hM hE hQ hR=>?_;dsimp only[cd117,qm,ql,qf,qb,qc,qp,qN,qT,qt]at hQ |-
 (repeat' first|refine zaa [0,1,2,3,4,5,6,15,16,25,39,57] fun K hK=>?_|(refine hK.go ?_;clear hK K)|with_reducible exact wT|refine wA ?_|(refine wB (fun h=>?_) (fun h=>?_)<;>first|exact wN h|subst (h:(_:Bool)=_)|skip)|(refine wQ ?_;clear hQ hR hE hM)|fail)
 all_goals (unfold zax;simp[*])
theorem znR (hH:HasAll P inv) (x:Lock) (y:Rte) (h:y.path.length<=1000000):PC P inv 116 ([.agg x.c,.agg y.c]++[]) (·=.b (zbR x y)):=by
 have c1:=phase_pc hH x y h
 unfold zbR
 revert c1
 generalize zax x y=a
 intro c1
 refine PC.fn hH cd116 fun w0 M Q hM hE hQ hR=>?_;dsimp only[cd116,qm,ql,qf,qb,qp,qN,qT,qt]at hQ |-
 (repeat' first|refine zaa [0,1,2,3,4] fun K hK=>?_|(refine hK.go ?_;clear hK K)|with_reducible exact wT|refine wA ?_|(refine wB (fun h=>?_) (fun h=>?_)<;>first|exact wN h|subst (h:(_:Bool)=_)|skip)|(refine wQ ?_;clear hQ hR hE hM)|refine wC c1 ?_|fail)
 all_goals simp[*]
theorem eqfTrk (hH:HasAll P inv) {jc:Nat} {caps:List AV} {p:Track->Section->Bool} (a:List Track) (b:List Section) (hc:∀ x∈a,∀ y∈b,PC P inv jc ([.agg x.c,.agg y.c]++caps) (·=.b (p x y))) (hb:zae caps=0) (ha:a.length<=1000000):PC P inv 111 [.sl 2 (a.map Track.c),.sl 3 (b.map Section.c),.fn jc caps] (·=.b (zaw p a b)):=by
 refine PC.fn hH cd111 fun w0 M Q hM hE hQ hR=>?_;dsimp only[cd111,qm,qi,qb,qc,qN,qt]at hQ |-
 (have hX:=@hb;(repeat' first|refine zaa [0,1,2,6,7,8,9,14,15,16,17,18,30] fun K hK=>?_|(refine hK.go ?_;clear hK K)|with_reducible exact wT|refine wA ?_|(refine wB (fun h=>?_) (fun h=>?_)<;>first|exact wN h|subst (h:(_:Bool)=_)|skip)|(refine wQ ?_;clear hQ hR hE hM)|fail);all_goals clear hX)
 ·have:zaw p a b=false:=by
   cases hz:zaw p a b with
   |false=>rfl
   |true=>have:=zce hz;omega
  rw[this]
 refine zam (ι:=Nat) [1,2,6,15,16,17] (fun z=>[(17,.n z)]) (fun _=>[]) (fun z=>z) (a.length) (fun z=>(zaw p (a.drop z) (b.drop z)=zaw p a b)) (0) ?_;rintro k ⟨hk,hg⟩;(try dsimp only at hk hg |-);rcases Nat.lt_or_ge k a.length with hlt|hge
 ·have hltb:k<b.length:=by omega
  rw[zaf hlt,zaf hltb,zaw]at hg
  have c1:=hc _ (zab hlt) _ (zab hltb)
  revert c1 hg
  generalize p (nth a k) (nth b k)=t
  intro hg c1
  (have hX:=@hb;(repeat' first|refine zaa [0,1,2,6,7,8,9,14,15,16,17,18,30] fun K hK=>?_|(refine hK.go ?_;clear hK K)|with_reducible exact wT|refine wA ?_|(refine wB (fun h=>?_) (fun h=>?_)<;>first|exact wN h|subst (h:(_:Bool)=_)|skip)|(refine wQ ?_;clear hQ hR hE hM)|refine wC c1 ?_|fail);all_goals clear hX)
  all_goals first
   |(rw[<-hg];rfl)
   |(exact ⟨k+1,by omega,⟨by omega,by rw[<-hg];rfl⟩,by omega⟩)
 ·rw[List.drop_eq_nil_of_le hge,List.drop_eq_nil_of_le (by omega),zaw]at hg
  (have hX:=@hb;(repeat' first|refine zaa [0,1,2,6,7,8,9,14,15,16,17,18,30] fun K hK=>?_|(refine hK.go ?_;clear hK K)|with_reducible exact wT|refine wA ?_|(refine wB (fun h=>?_) (fun h=>?_)<;>first|exact wN h|subst (h:(_:Bool)=_)|skip)|(refine wQ ?_;clear hQ hR hE hM)|fail);all_goals clear hX)
  rw[<-hg]
theorem eqfSwt (hH:HasAll P inv) {jc:Nat} {caps:List AV} {p:Switch->Pnt->Bool} (a:List Switch) (b:List Pnt) (hc:∀ x∈a,∀ y∈b,PC P inv jc ([.agg x.c,.agg y.c]++caps) (·=.b (p x y))) (hb:zae caps=0) (ha:a.length<=1000000):PC P inv 113 [.sl 3 (a.map Switch.c),.sl 2 (b.map Pnt.c),.fn jc caps] (·=.b (zaw p a b)):=by
 refine PC.fn hH cd113 fun w0 M Q hM hE hQ hR=>?_;dsimp only[cd113,qm,qi,qb,qc,qN,qt]at hQ |-
 (have hX:=@hb;(repeat' first|refine zaa [0,1,2,6,7,8,9,14,15,16,17,18,30] fun K hK=>?_|(refine hK.go ?_;clear hK K)|with_reducible exact wT|refine wA ?_|(refine wB (fun h=>?_) (fun h=>?_)<;>first|exact wN h|subst (h:(_:Bool)=_)|skip)|(refine wQ ?_;clear hQ hR hE hM)|fail);all_goals clear hX)
 ·have:zaw p a b=false:=by
   cases hz:zaw p a b with
   |false=>rfl
   |true=>have:=zce hz;omega
  rw[this]
 refine zam (ι:=Nat) [1,2,6,15,16,17] (fun z=>[(17,.n z)]) (fun _=>[]) (fun z=>z) (a.length) (fun z=>(zaw p (a.drop z) (b.drop z)=zaw p a b)) (0) ?_;rintro k ⟨hk,hg⟩;(try dsimp only at hk hg |-);rcases Nat.lt_or_ge k a.length with hlt|hge
 ·have hltb:k<b.length:=by omega
  rw[zaf hlt,zaf hltb,zaw]at hg
  have c1:=hc _ (zab hlt) _ (zab hltb)
  revert c1 hg
  generalize p (nth a k) (nth b k)=t
  intro hg c1
  (have hX:=@hb;(repeat' first|refine zaa [0,1,2,6,7,8,9,14,15,16,17,18,30] fun K hK=>?_|(refine hK.go ?_;clear hK K)|with_reducible exact wT|refine wA ?_|(refine wB (fun h=>?_) (fun h=>?_)<;>first|exact wN h|subst (h:(_:Bool)=_)|skip)|(refine wQ ?_;clear hQ hR hE hM)|refine wC c1 ?_|fail);all_goals clear hX)
  all_goals first
   |(rw[<-hg];rfl)
   |(exact ⟨k+1,by omega,⟨by omega,by rw[<-hg];rfl⟩,by omega⟩)
 ·rw[List.drop_eq_nil_of_le hge,List.drop_eq_nil_of_le (by omega),zaw]at hg
  (have hX:=@hb;(repeat' first|refine zaa [0,1,2,6,7,8,9,14,15,16,17,18,30] fun K hK=>?_|(refine hK.go ?_;clear hK K)|with_reducible exact wT|refine wA ?_|(refine wB (fun h=>?_) (fun h=>?_)<;>first|exact wN h|subst (h:(_:Bool)=_)|skip)|(refine wQ ?_;clear hQ hR hE hM)|fail);all_goals clear hX)
  rw[<-hg]
theorem eqfLck (hH:HasAll P inv) {jc:Nat} {caps:List AV} {p:Lock->Rte->Bool} (a:List Lock) (b:List Rte) (hc:∀ x∈a,∀ y∈b,PC P inv jc ([.agg x.c,.agg y.c]++caps) (·=.b (p x y))) (hb:zae caps=0) (ha:a.length<=1000000):PC P inv 115 [.sl 4 (a.map Lock.c),.sl 7 (b.map Rte.c),.fn jc caps] (·=.b (zaw p a b)):=by
 refine PC.fn hH cd115 fun w0 M Q hM hE hQ hR=>?_;dsimp only[cd115,qm,qi,qb,qc,qN,qt]at hQ |-
 (have hX:=@hb;(repeat' first|refine zaa [0,1,2,6,7,8,9,14,15,16,17,18,30] fun K hK=>?_|(refine hK.go ?_;clear hK K)|with_reducible exact wT|refine wA ?_|(refine wB (fun h=>?_) (fun h=>?_)<;>first|exact wN h|subst (h:(_:Bool)=_)|skip)|(refine wQ ?_;clear hQ hR hE hM)|fail);all_goals clear hX)
 ·have:zaw p a b=false:=by
   cases hz:zaw p a b with
   |false=>rfl
   |true=>have:=zce hz;omega
  rw[this]
 refine zam (ι:=Nat) [1,2,6,15,16,17] (fun z=>[(17,.n z)]) (fun _=>[]) (fun z=>z) (a.length) (fun z=>(zaw p (a.drop z) (b.drop z)=zaw p a b)) (0) ?_;rintro k ⟨hk,hg⟩;(try dsimp only at hk hg |-);rcases Nat.lt_or_ge k a.length with hlt|hge
 ·have hltb:k<b.length:=by omega
  rw[zaf hlt,zaf hltb,zaw]at hg
  have c1:=hc _ (zab hlt) _ (zab hltb)
  revert c1 hg
  generalize p (nth a k) (nth b k)=t
  intro hg c1
  (have hX:=@hb;(repeat' first|refine zaa [0,1,2,6,7,8,9,14,15,16,17,18,30] fun K hK=>?_|(refine hK.go ?_;clear hK K)|with_reducible exact wT|refine wA ?_|(refine wB (fun h=>?_) (fun h=>?_)<;>first|exact wN h|subst (h:(_:Bool)=_)|skip)|(refine wQ ?_;clear hQ hR hE hM)|refine wC c1 ?_|fail);all_goals clear hX)
  all_goals first
   |(rw[<-hg];rfl)
   |(exact ⟨k+1,by omega,⟨by omega,by rw[<-hg];rfl⟩,by omega⟩)
 ·rw[List.drop_eq_nil_of_le hge,List.drop_eq_nil_of_le (by omega),zaw]at hg
  (have hX:=@hb;(repeat' first|refine zaa [0,1,2,6,7,8,9,14,15,16,17,18,30] fun K hK=>?_|(refine hK.go ?_;clear hK K)|with_reducible exact wT|refine wA ?_|(refine wB (fun h=>?_) (fun h=>?_)<;>first|exact wN h|subst (h:(_:Bool)=_)|skip)|(refine wQ ?_;clear hQ hR hE hM)|fail);all_goals clear hX)
  rw[<-hg]
end Go.Lev
