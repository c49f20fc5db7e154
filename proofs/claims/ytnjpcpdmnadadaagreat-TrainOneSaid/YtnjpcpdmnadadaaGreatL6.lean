/-
  A part of the engine that walks the functions' codes, and of the functions' contracts. Conditions: those that each theorem names.
-/
import Derived.Test.YtnjpcpdmnadadaaGreatL5
import Derived.IntWalk
import Derived.Laws.IdiomCopy
set_option linter.unusedSimpArgs false
set_option linter.unusedVariables false
set_option linter.unusedSectionVars false
namespace Go.Lev
open Go.Eng
set_option maxRecDepth 10000
set_option maxHeartbeats 4000000
variable {P:Program} {inv:Nat→Option Nat} {w0:World} {M:Nat→Prop}
theorem zle (hH:HasAll P inv) (hM:∀ b,M b→b<w0.heap.size) (p:Pln) (hp:Sm p) (r:Rte) (x y:Sgn) (w:Wk) (all:List Int) (i:Int) (s:Int) (ba bo:Bool) (hw:w.asks.length≤1000000) (hw2:w.outs.length≤1000000) :
  AC P inv w0 M 30 102 [.ptr 5 11 0,.n s,.n i,.fn 103 []] (stW p r x y w all i s ba bo) fun r0 σ'=>r0=.tup []∧σ'=stW p r x y (zaJ p w s i (fun _ j=>decide (j=⟨0,0⟩))) all i s (ba||decide (w.asks.length<(zaJ p w s i (fun _ j=>decide (j=⟨0,0⟩))).asks.length)) (bo||decide (w.outs.length<(zaJ p w s i (fun _ j=>decide (j=⟨0,0⟩))).outs.length)):=by
 have hs:=zbX (fun t:Section=>decide (t.id=s)) p.sections 0
 have c0:=zhG hH p.sections (fun t _=>zgQ hH s t) (Nat.le_trans hp.sec (by omega))
 have hl:=hp.sec
 obtain ⟨inn,asks,outs,lost⟩:=w
 dsimp only at hw hw2
 generalize hW:zaJ p ⟨inn,asks,outs,lost⟩ s i (fun _ j=>decide (j=⟨0,0⟩))=W
 unfold zaJ zj6 zoh at hW
 dsimp only at hW
 rcases hs with ⟨h1,h2⟩|⟨k0,hk0,h1,h2⟩
 ·rw[h1]at c0
  rw[h2,ite_self]at hW
  refine za1 (F:=cd102) (hH.has _ _ rfl) rfl (Nat.le_of_ble_eq_true rfl) fun Q hQ hR=>?_;have hE:=hH.callable;dsimp only[cd102,qm,ql,qf,qi,qb,qc,qp,qv,qN,qT,qF,qt]at hQ ⊢
  skip
  unfold stW
  (refine no_implicit_lambda% (st ?_);try with_reducible exact wT)
  (repeat' first|refine zaa [0,1,2,3,4,5,8,9,10,11,12,13,17,18,19,20,23,32,49] fun K hK=>?_|(refine hK.go ?_;clear hK K)|with_reducible exact wT|refine wA ?_|(refine wB (fun h=>?_) (fun h=>?_)<;>first|exact wN h|subst (h:(_:Bool)=_)|skip)|(refine wQ ?_;clear hQ hR)|(refine AC.callK 30 (by omega) (by first|omega|exact wF|((refine no_implicit_lambda% (st ?_);try with_reducible exact wT);omega)) (zac (F:=cd130) (hH.has _ _ rfl) (Nat.le_of_ble_eq_true rfl) fun Q hQ hR=>?_);dsimp only[cd130,qm,ql,qf,qi,qb,qc,qp,qv,qN,qT,qF,qt]at hQ ⊢;try (refine no_implicit_lambda% (st ?_);try with_reducible exact wT))|(refine AC.callK 40 (by omega) (by first|omega|exact wF|((refine no_implicit_lambda% (st ?_);try with_reducible exact wT);omega)) (zac (F:=cd107) (hH.has _ _ rfl) (Nat.le_of_ble_eq_true rfl) fun Q hQ hR=>?_);dsimp only[cd107,qm,ql,qf,qi,qb,qc,qp,qv,qN,qT,qF,qt]at hQ ⊢;try (refine no_implicit_lambda% (st ?_);try with_reducible exact wT))|refine wS c0 ?_|fail)
  all_goals (refine zaz (ι:=Nat) [0,1,2,3,8,17,18,19] (fun z=>[(19,.n z)]) (fun _=>[]) (fun z=>z) (0) (fun _=>True) (0) ?_;rintro k ⟨hk,-⟩;(try dsimp only at hk ⊢);rcases Nat.lt_or_ge k 0 with hlt|hge)
  all_goals first|(exfalso;omega)|skip
  all_goals (repeat' first|refine zaa [0,1,2,3,4,5,8,9,10,11,12,13,17,18,19,20,23,32,49] fun K hK=>?_|(refine hK.go ?_;clear hK K)|with_reducible exact wT|refine wA ?_|(refine wB (fun h=>?_) (fun h=>?_)<;>first|exact wN h|subst (h:(_:Bool)=_)|skip)|(refine wQ ?_;clear hQ hR)|fail)
  all_goals (have hW':W=⟨inn,asks,outs,true⟩:=(by rw[←hW];split<;>simp_all);subst hW';refine ⟨[],trivial, ?_⟩;simp only[swS,stW,Wk.c];(refine no_implicit_lambda% (st ?_);try with_reducible exact wT);(try simp))
 ·rw[h1,Int.zero_add]at c0
  rw[h2]at hW
  by_cases hin:inn.to=s
  ·rw[if_pos hin]at hW
   dsimp only at hW
   have hse:=hp.ends _ (zae hk0)
   revert hW hse
   generalize hS:nth p.sections k0=S
   intro hW hse
   cases lost with
   |true =>
    rw[if_pos rfl]at hW
    subst hW
    refine za1 (F:=cd102) (hH.has _ _ rfl) rfl (Nat.le_of_ble_eq_true rfl) fun Q hQ hR=>?_;have hE:=hH.callable;dsimp only[cd102,qm,ql,qf,qi,qb,qc,qp,qv,qN,qT,qF,qt]at hQ ⊢
    skip
    unfold stW
    (refine no_implicit_lambda% (st ?_);try with_reducible exact wT)
    (have hX:=@hS;(repeat' first|refine zaa [0,1,2,3,4,5,8,9,10,11,12,13,17,18,19,20,23,32,49] fun K hK=>?_|(refine hK.go ?_;clear hK K)|with_reducible exact wT|refine wA ?_|(refine wB (fun h=>?_) (fun h=>?_)<;>first|exact wN h|subst (h:(_:Bool)=_)|skip)|(refine wQ ?_;clear hQ hR)|(refine AC.callK 30 (by omega) (by first|omega|exact wF|((refine no_implicit_lambda% (st ?_);try with_reducible exact wT);omega)) (zac (F:=cd130) (hH.has _ _ rfl) (Nat.le_of_ble_eq_true rfl) fun Q hQ hR=>?_);dsimp only[cd130,qm,ql,qf,qi,qb,qc,qp,qv,qN,qT,qF,qt]at hQ ⊢;try (refine no_implicit_lambda% (st ?_);try with_reducible exact wT))|(refine AC.callK 40 (by omega) (by first|omega|exact wF|((refine no_implicit_lambda% (st ?_);try with_reducible exact wT);omega)) (zac (F:=cd107) (hH.has _ _ rfl) (Nat.le_of_ble_eq_true rfl) fun Q hQ hR=>?_);dsimp only[cd107,qm,ql,qf,qi,qb,qc,qp,qv,qN,qT,qF,qt]at hQ ⊢;try (refine no_implicit_lambda% (st ?_);try with_reducible exact wT))|refine wS c0 ?_|fail);all_goals clear hX)
    all_goals first|(exfalso;contradiction)|skip
    refine zaz (ι:=Nat) [0,1,2,3,8,17,18,19] (fun z=>[(19,.n z)]) (fun _=>[]) (fun z=>z) (S.ends.length) (fun _=>True) (0) ?_;rintro k ⟨hk,-⟩;(try dsimp only at hk ⊢);rcases Nat.lt_or_ge k S.ends.length with hlt|hge
    ·have c1:=zcq hH S inn.ed k
     revert c1
     generalize zbl S inn.ed k=v
     intro c1
     (repeat' first|refine zaa [0,1,2,3,4,5,8,9,10,11,12,13,17,18,19,20,23,32,49] fun K hK=>?_|(refine hK.go ?_;clear hK K)|with_reducible exact wT|refine wA ?_|(refine wB (fun h=>?_) (fun h=>?_)<;>first|exact wN h|subst (h:(_:Bool)=_)|skip)|(refine wQ ?_;clear hQ hR)|refine wC c1 ?_|fail)
     all_goals exact ⟨k+1,by omega,by omega,by omega⟩
    ·(repeat' first|refine zaa [0,1,2,3,4,5,8,9,10,11,12,13,17,18,19,20,23,32,49] fun K hK=>?_|(refine hK.go ?_;clear hK K)|with_reducible exact wT|refine wA ?_|(refine wB (fun h=>?_) (fun h=>?_)<;>first|exact wN h|subst (h:(_:Bool)=_)|skip)|(refine wQ ?_;clear hQ hR)|fail)
     refine ⟨[],trivial, ?_⟩;simp only[swS,stW,Wk.c];(refine no_implicit_lambda% (st ?_);try with_reducible exact wT);(try simp)
   |false =>
    rw[if_neg (by simp)]at hW
    refine za1 (F:=cd102) (hH.has _ _ rfl) rfl (Nat.le_of_ble_eq_true rfl) fun Q hQ hR=>?_;have hE:=hH.callable;dsimp only[cd102,qm,ql,qf,qi,qb,qc,qp,qv,qN,qT,qF,qt]at hQ ⊢
    skip
    unfold stW
    (refine no_implicit_lambda% (st ?_);try with_reducible exact wT)
    (have hX:=@hS;(repeat' first|refine zaa [0,1,2,3,4,5,8,9,10,11,12,13,17,18,19,20,23,32,49] fun K hK=>?_|(refine hK.go ?_;clear hK K)|with_reducible exact wT|refine wA ?_|(refine wB (fun h=>?_) (fun h=>?_)<;>first|exact wN h|subst (h:(_:Bool)=_)|skip)|(refine wQ ?_;clear hQ hR)|(refine AC.callK 30 (by omega) (by first|omega|exact wF|((refine no_implicit_lambda% (st ?_);try with_reducible exact wT);omega)) (zac (F:=cd130) (hH.has _ _ rfl) (Nat.le_of_ble_eq_true rfl) fun Q hQ hR=>?_);dsimp only[cd130,qm,ql,qf,qi,qb,qc,qp,qv,qN,qT,qF,qt]at hQ ⊢;try (refine no_implicit_lambda% (st ?_);try with_reducible exact wT))|(refine AC.callK 40 (by omega) (by first|omega|exact wF|((refine no_implicit_lambda% (st ?_);try with_reducible exact wT);omega)) (zac (F:=cd107) (hH.has _ _ rfl) (Nat.le_of_ble_eq_true rfl) fun Q hQ hR=>?_);dsimp only[cd107,qm,ql,qf,qi,qb,qc,qp,qv,qN,qT,qF,qt]at hQ ⊢;try (refine no_implicit_lambda% (st ?_);try with_reducible exact wT))|refine wS c0 ?_|fail);all_goals clear hX)
    all_goals first|(exfalso;contradiction)|skip
    refine zaz (ι:=Nat) [0,1,2,3,8,17,18,19] (fun z=>[(19,.n z)]) (fun _=>[]) (fun z=>z) (S.ends.length) (fun z=>(zbJ S inn.ed (fun _ j=>decide (j=⟨0,0⟩)) z (S.ends.drop z)=zbJ S inn.ed (fun _ j=>decide (j=⟨0,0⟩)) 0 S.ends)) (0) ?_;rintro k ⟨hk,hg⟩;(try dsimp only at hk hg ⊢);rcases Nat.lt_or_ge k S.ends.length with hlt|hge
    ·rw[zag hlt,zbJ]at hg
     have c1:=zcq hH S inn.ed k
     have c2:=zpe hH k (nth S.ends k)
     revert c1 c2 hg
     generalize zbl S inn.ed k=v
     generalize hb:decide (nth S.ends k=⟨0,0⟩)=b
     intro hg c1 c2
     (repeat' first|refine zaa [0,1,2,3,4,5,8,9,10,11,12,13,17,18,19,20,23,32,49] fun K hK=>?_|(refine hK.go ?_;clear hK K)|with_reducible exact wT|refine wA ?_|(refine wB (fun h=>?_) (fun h=>?_)<;>first|exact wN h|subst (h:(_:Bool)=_)|skip)|(refine wQ ?_;clear hQ hR)|refine wC c1 ?_|refine wC c2 ?_|(refine AC.callK 40 (by omega) (by first|omega|exact wF|((refine no_implicit_lambda% (st ?_);try with_reducible exact wT);omega)) (zac (F:=cd107) (hH.has _ _ rfl) (Nat.le_of_ble_eq_true rfl) fun Q hQ hR=>?_);dsimp only[cd107,qm,ql,qf,qi,qb,qc,qp,qv,qN,qT,qF,qt]at hQ ⊢;try (refine no_implicit_lambda% (st ?_);try with_reducible exact wT))|fail)
     all_goals first|(refine ⟨k+1,by omega,⟨by omega, ?_⟩,by omega⟩;rw[←hg,if_neg (by simp[*])];done)|skip
     all_goals (rw[if_pos ⟨by assumption,rfl⟩]at hg;rw[←hg]at hW;dsimp only at hW)
     all_goals (first|rw[if_pos ⟨by assumption,by assumption⟩]at hW|rw[if_neg (fun hh=>absurd hh.1 (by assumption))]at hW|rw[if_neg (fun hh=>absurd hh.2 (by assumption))]at hW)
     all_goals (subst hW;refine ⟨[],trivial, ?_⟩;simp only[swS,stW,Wk.c];(refine no_implicit_lambda% (st ?_);try with_reducible exact wT);(try simp[AskR.c,Join.c]))
    ·rw[List.drop_eq_nil_of_le hge,zbJ]at hg
     (repeat' first|refine zaa [0,1,2,3,4,5,8,9,10,11,12,13,17,18,19,20,23,32,49] fun K hK=>?_|(refine hK.go ?_;clear hK K)|with_reducible exact wT|refine wA ?_|(refine wB (fun h=>?_) (fun h=>?_)<;>first|exact wN h|subst (h:(_:Bool)=_)|skip)|(refine wQ ?_;clear hQ hR)|fail)
     rw[←hg]at hW
     dsimp only at hW
     subst hW
     refine ⟨[],trivial, ?_⟩;simp only[swS,stW,Wk.c];(refine no_implicit_lambda% (st ?_);try with_reducible exact wT);(try simp)
  ·have hW':W=⟨inn,asks,outs,true⟩:=by rw[←hW,if_neg hin];split<;>simp_all
   clear hW
   refine za1 (F:=cd102) (hH.has _ _ rfl) rfl (Nat.le_of_ble_eq_true rfl) fun Q hQ hR=>?_;have hE:=hH.callable;dsimp only[cd102,qm,ql,qf,qi,qb,qc,qp,qv,qN,qT,qF,qt]at hQ ⊢
   skip
   unfold stW
   (refine no_implicit_lambda% (st ?_);try with_reducible exact wT)
   (repeat' first|refine zaa [0,1,2,3,4,5,8,9,10,11,12,13,17,18,19,20,23,32,49] fun K hK=>?_|(refine hK.go ?_;clear hK K)|with_reducible exact wT|refine wA ?_|(refine wB (fun h=>?_) (fun h=>?_)<;>first|exact wN h|subst (h:(_:Bool)=_)|skip)|(refine wQ ?_;clear hQ hR)|(refine AC.callK 30 (by omega) (by first|omega|exact wF|((refine no_implicit_lambda% (st ?_);try with_reducible exact wT);omega)) (zac (F:=cd130) (hH.has _ _ rfl) (Nat.le_of_ble_eq_true rfl) fun Q hQ hR=>?_);dsimp only[cd130,qm,ql,qf,qi,qb,qc,qp,qv,qN,qT,qF,qt]at hQ ⊢;try (refine no_implicit_lambda% (st ?_);try with_reducible exact wT))|(refine AC.callK 40 (by omega) (by first|omega|exact wF|((refine no_implicit_lambda% (st ?_);try with_reducible exact wT);omega)) (zac (F:=cd107) (hH.has _ _ rfl) (Nat.le_of_ble_eq_true rfl) fun Q hQ hR=>?_);dsimp only[cd107,qm,ql,qf,qi,qb,qc,qp,qv,qN,qT,qF,qt]at hQ ⊢;try (refine no_implicit_lambda% (st ?_);try with_reducible exact wT))|refine wS c0 ?_|fail)
   all_goals first|(exfalso;contradiction)|skip
   all_goals (refine zaz (ι:=Nat) [0,1,2,3,8,17,18,19] (fun z=>[(19,.n z)]) (fun _=>[]) (fun z=>z) (0) (fun _=>True) (0) ?_;rintro k ⟨hk,-⟩;(try dsimp only at hk ⊢);rcases Nat.lt_or_ge k 0 with hlt|hge)
   all_goals first|(exfalso;omega)|skip
   all_goals (repeat' first|refine zaa [0,1,2,3,4,5,8,9,10,11,12,13,17,18,19,20,23,32,49] fun K hK=>?_|(refine hK.go ?_;clear hK K)|with_reducible exact wT|refine wA ?_|(refine wB (fun h=>?_) (fun h=>?_)<;>first|exact wN h|subst (h:(_:Bool)=_)|skip)|(refine wQ ?_;clear hQ hR)|fail)
   all_goals (subst hW';refine ⟨[],trivial, ?_⟩;simp only[swS,stW,Wk.c];(refine no_implicit_lambda% (st ?_);try with_reducible exact wT);(try simp))
theorem zld (hH:HasAll P inv) (hM:∀ b,M b→b<w0.heap.size) (p:Pln) (hp:Sm p) (r:Rte) (x y:Sgn) (w:Wk) (all:List Int) (i:Int) (s:Int) (ba bo:Bool) (hw:w.asks.length≤1000000) (hw2:w.outs.length≤1000000) :
  AC P inv w0 M 30 102 [.ptr 5 11 0,.n s,.n i,.fn 104 [.ptr 23 1 0,.ptr 4 3 0]] (stW p r x y w all i s ba bo) fun r0 σ'=>r0=.tup []∧σ'=stW p r x y (zaJ p w s i (fun e _=>decide (s=y.sec)&&decide (e=y.ed))) all i s (ba||decide (w.asks.length<(zaJ p w s i (fun e _=>decide (s=y.sec)&&decide (e=y.ed))).asks.length)) (bo||decide (w.outs.length<(zaJ p w s i (fun e _=>decide (s=y.sec)&&decide (e=y.ed))).outs.length)):=by
 have hs:=zbX (fun t:Section=>decide (t.id=s)) p.sections 0
 have c0:=zhG hH p.sections (fun t _=>zgQ hH s t) (Nat.le_trans hp.sec (by omega))
 have hl:=hp.sec
 obtain ⟨inn,asks,outs,lost⟩:=w
 dsimp only at hw hw2
 generalize hW:zaJ p ⟨inn,asks,outs,lost⟩ s i (fun e _=>decide (s=y.sec)&&decide (e=y.ed))=W
 unfold zaJ zj6 zoh at hW
 dsimp only at hW
 rcases hs with ⟨h1,h2⟩|⟨k0,hk0,h1,h2⟩
 ·rw[h1]at c0
  rw[h2,ite_self]at hW
  refine za1 (F:=cd102) (hH.has _ _ rfl) rfl (Nat.le_of_ble_eq_true rfl) fun Q hQ hR=>?_;have hE:=hH.callable;dsimp only[cd102,qm,ql,qf,qi,qb,qc,qp,qv,qN,qT,qF,qt]at hQ ⊢
  skip
  unfold stW
  (refine no_implicit_lambda% (st ?_);try with_reducible exact wT)
  (repeat' first|refine zaa [0,1,2,3,4,5,8,9,10,11,12,13,17,18,19,20,23,32,49] fun K hK=>?_|(refine hK.go ?_;clear hK K)|with_reducible exact wT|refine wA ?_|(refine wB (fun h=>?_) (fun h=>?_)<;>first|exact wN h|subst (h:(_:Bool)=_)|skip)|(refine wQ ?_;clear hQ hR)|(refine AC.callK 30 (by omega) (by first|omega|exact wF|((refine no_implicit_lambda% (st ?_);try with_reducible exact wT);omega)) (zac (F:=cd130) (hH.has _ _ rfl) (Nat.le_of_ble_eq_true rfl) fun Q hQ hR=>?_);dsimp only[cd130,qm,ql,qf,qi,qb,qc,qp,qv,qN,qT,qF,qt]at hQ ⊢;try (refine no_implicit_lambda% (st ?_);try with_reducible exact wT))|(refine AC.callK 40 (by omega) (by first|omega|exact wF|((refine no_implicit_lambda% (st ?_);try with_reducible exact wT);omega)) (zac (F:=cd107) (hH.has _ _ rfl) (Nat.le_of_ble_eq_true rfl) fun Q hQ hR=>?_);dsimp only[cd107,qm,ql,qf,qi,qb,qc,qp,qv,qN,qT,qF,qt]at hQ ⊢;try (refine no_implicit_lambda% (st ?_);try with_reducible exact wT))|refine wS c0 ?_|fail)
  all_goals (refine zaz (ι:=Nat) [0,1,2,3,8,17,18,19] (fun z=>[(19,.n z)]) (fun _=>[]) (fun z=>z) (0) (fun _=>True) (0) ?_;rintro k ⟨hk,-⟩;(try dsimp only at hk ⊢);rcases Nat.lt_or_ge k 0 with hlt|hge)
  all_goals first|(exfalso;omega)|skip
  all_goals (repeat' first|refine zaa [0,1,2,3,4,5,8,9,10,11,12,13,17,18,19,20,23,32,49] fun K hK=>?_|(refine hK.go ?_;clear hK K)|with_reducible exact wT|refine wA ?_|(refine wB (fun h=>?_) (fun h=>?_)<;>first|exact wN h|subst (h:(_:Bool)=_)|skip)|(refine wQ ?_;clear hQ hR)|fail)
  all_goals (have hW':W=⟨inn,asks,outs,true⟩:=(by rw[←hW];split<;>simp_all);subst hW';refine ⟨[],trivial, ?_⟩;simp only[swS,stW,Wk.c];(refine no_implicit_lambda% (st ?_);try with_reducible exact wT);(try simp))
 ·rw[h1,Int.zero_add]at c0
  rw[h2]at hW
  by_cases hin:inn.to=s
  ·rw[if_pos hin]at hW
   dsimp only at hW
   have hse:=hp.ends _ (zae hk0)
   revert hW hse
   generalize hS:nth p.sections k0=S
   intro hW hse
   cases lost with
   |true =>
    rw[if_pos rfl]at hW
    subst hW
    refine za1 (F:=cd102) (hH.has _ _ rfl) rfl (Nat.le_of_ble_eq_true rfl) fun Q hQ hR=>?_;have hE:=hH.callable;dsimp only[cd102,qm,ql,qf,qi,qb,qc,qp,qv,qN,qT,qF,qt]at hQ ⊢
    skip
    unfold stW
    (refine no_implicit_lambda% (st ?_);try with_reducible exact wT)
    (have hX:=@hS;(repeat' first|refine zaa [0,1,2,3,4,5,8,9,10,11,12,13,17,18,19,20,23,32,49] fun K hK=>?_|(refine hK.go ?_;clear hK K)|with_reducible exact wT|refine wA ?_|(refine wB (fun h=>?_) (fun h=>?_)<;>first|exact wN h|subst (h:(_:Bool)=_)|skip)|(refine wQ ?_;clear hQ hR)|(refine AC.callK 30 (by omega) (by first|omega|exact wF|((refine no_implicit_lambda% (st ?_);try with_reducible exact wT);omega)) (zac (F:=cd130) (hH.has _ _ rfl) (Nat.le_of_ble_eq_true rfl) fun Q hQ hR=>?_);dsimp only[cd130,qm,ql,qf,qi,qb,qc,qp,qv,qN,qT,qF,qt]at hQ ⊢;try (refine no_implicit_lambda% (st ?_);try with_reducible exact wT))|(refine AC.callK 40 (by omega) (by first|omega|exact wF|((refine no_implicit_lambda% (st ?_);try with_reducible exact wT);omega)) (zac (F:=cd107) (hH.has _ _ rfl) (Nat.le_of_ble_eq_true rfl) fun Q hQ hR=>?_);dsimp only[cd107,qm,ql,qf,qi,qb,qc,qp,qv,qN,qT,qF,qt]at hQ ⊢;try (refine no_implicit_lambda% (st ?_);try with_reducible exact wT))|refine wS c0 ?_|fail);all_goals clear hX)
    all_goals first|(exfalso;contradiction)|skip
    refine zaz (ι:=Nat) [0,1,2,3,8,17,18,19] (fun z=>[(19,.n z)]) (fun _=>[]) (fun z=>z) (S.ends.length) (fun _=>True) (0) ?_;rintro k ⟨hk,-⟩;(try dsimp only at hk ⊢);rcases Nat.lt_or_ge k S.ends.length with hlt|hge
    ·have c1:=zcq hH S inn.ed k
     revert c1
     generalize zbl S inn.ed k=v
     intro c1
     (repeat' first|refine zaa [0,1,2,3,4,5,8,9,10,11,12,13,17,18,19,20,23,32,49] fun K hK=>?_|(refine hK.go ?_;clear hK K)|with_reducible exact wT|refine wA ?_|(refine wB (fun h=>?_) (fun h=>?_)<;>first|exact wN h|subst (h:(_:Bool)=_)|skip)|(refine wQ ?_;clear hQ hR)|refine wC c1 ?_|fail)
     all_goals exact ⟨k+1,by omega,by omega,by omega⟩
    ·(repeat' first|refine zaa [0,1,2,3,4,5,8,9,10,11,12,13,17,18,19,20,23,32,49] fun K hK=>?_|(refine hK.go ?_;clear hK K)|with_reducible exact wT|refine wA ?_|(refine wB (fun h=>?_) (fun h=>?_)<;>first|exact wN h|subst (h:(_:Bool)=_)|skip)|(refine wQ ?_;clear hQ hR)|fail)
     refine ⟨[],trivial, ?_⟩;simp only[swS,stW,Wk.c];(refine no_implicit_lambda% (st ?_);try with_reducible exact wT);(try simp)
   |false =>
    rw[if_neg (by simp)]at hW
    refine za1 (F:=cd102) (hH.has _ _ rfl) rfl (Nat.le_of_ble_eq_true rfl) fun Q hQ hR=>?_;have hE:=hH.callable;dsimp only[cd102,qm,ql,qf,qi,qb,qc,qp,qv,qN,qT,qF,qt]at hQ ⊢
    skip
    unfold stW
    (refine no_implicit_lambda% (st ?_);try with_reducible exact wT)
    (have hX:=@hS;(repeat' first|refine zaa [0,1,2,3,4,5,8,9,10,11,12,13,17,18,19,20,23,32,49] fun K hK=>?_|(refine hK.go ?_;clear hK K)|with_reducible exact wT|refine wA ?_|(refine wB (fun h=>?_) (fun h=>?_)<;>first|exact wN h|subst (h:(_:Bool)=_)|skip)|(refine wQ ?_;clear hQ hR)|(refine AC.callK 30 (by omega) (by first|omega|exact wF|((refine no_implicit_lambda% (st ?_);try with_reducible exact wT);omega)) (zac (F:=cd130) (hH.has _ _ rfl) (Nat.le_of_ble_eq_true rfl) fun Q hQ hR=>?_);dsimp only[cd130,qm,ql,qf,qi,qb,qc,qp,qv,qN,qT,qF,qt]at hQ ⊢;try (refine no_implicit_lambda% (st ?_);try with_reducible exact wT))|(refine AC.callK 40 (by omega) (by first|omega|exact wF|((refine no_implicit_lambda% (st ?_);try with_reducible exact wT);omega)) (zac (F:=cd107) (hH.has _ _ rfl) (Nat.le_of_ble_eq_true rfl) fun Q hQ hR=>?_);dsimp only[cd107,qm,ql,qf,qi,qb,qc,qp,qv,qN,qT,qF,qt]at hQ ⊢;try (refine no_implicit_lambda% (st ?_);try with_reducible exact wT))|refine wS c0 ?_|fail);all_goals clear hX)
    all_goals first|(exfalso;contradiction)|skip
    refine zaz (ι:=Nat) [0,1,2,3,8,17,18,19] (fun z=>[(19,.n z)]) (fun _=>[]) (fun z=>z) (S.ends.length) (fun z=>(zbJ S inn.ed (fun e _=>decide (s=y.sec)&&decide (e=y.ed)) z (S.ends.drop z)=zbJ S inn.ed (fun e _=>decide (s=y.sec)&&decide (e=y.ed)) 0 S.ends)) (0) ?_;rintro k ⟨hk,hg⟩;(try dsimp only at hk hg ⊢);rcases Nat.lt_or_ge k S.ends.length with hlt|hge
    ·rw[zag hlt,zbJ]at hg
     have c1:=zcq hH S inn.ed k
     have c2:=zpd hH k (nth S.ends k) s y
     revert c1 c2 hg
     generalize zbl S inn.ed k=v
     generalize hb:(decide (s=y.sec)&&decide ((k:Int)=y.ed))=b
     intro hg c1 c2
     (repeat' first|refine zaa [0,1,2,3,4,5,8,9,10,11,12,13,17,18,19,20,23,32,49] fun K hK=>?_|(refine hK.go ?_;clear hK K)|with_reducible exact wT|refine wA ?_|(refine wB (fun h=>?_) (fun h=>?_)<;>first|exact wN h|subst (h:(_:Bool)=_)|skip)|(refine wQ ?_;clear hQ hR)|refine wC c1 ?_|refine wS c2 ?_|(refine AC.callK 40 (by omega) (by first|omega|exact wF|((refine no_implicit_lambda% (st ?_);try with_reducible exact wT);omega)) (zac (F:=cd107) (hH.has _ _ rfl) (Nat.le_of_ble_eq_true rfl) fun Q hQ hR=>?_);dsimp only[cd107,qm,ql,qf,qi,qb,qc,qp,qv,qN,qT,qF,qt]at hQ ⊢;try (refine no_implicit_lambda% (st ?_);try with_reducible exact wT))|fail)
     all_goals first|(refine ⟨k+1,by omega,⟨by omega, ?_⟩,by omega⟩;rw[←hg,if_neg (by simp[*])];done)|skip
     all_goals (rw[if_pos ⟨by assumption,rfl⟩]at hg;rw[←hg]at hW;dsimp only at hW)
     all_goals (first|rw[if_pos ⟨by assumption,by assumption⟩]at hW|rw[if_neg (fun hh=>absurd hh.1 (by assumption))]at hW|rw[if_neg (fun hh=>absurd hh.2 (by assumption))]at hW)
     all_goals (subst hW;refine ⟨[],trivial, ?_⟩;simp only[swS,stW,Wk.c];(refine no_implicit_lambda% (st ?_);try with_reducible exact wT);(try simp[AskR.c,Join.c]))
    ·rw[List.drop_eq_nil_of_le hge,zbJ]at hg
     (repeat' first|refine zaa [0,1,2,3,4,5,8,9,10,11,12,13,17,18,19,20,23,32,49] fun K hK=>?_|(refine hK.go ?_;clear hK K)|with_reducible exact wT|refine wA ?_|(refine wB (fun h=>?_) (fun h=>?_)<;>first|exact wN h|subst (h:(_:Bool)=_)|skip)|(refine wQ ?_;clear hQ hR)|fail)
     rw[←hg]at hW
     dsimp only at hW
     subst hW
     refine ⟨[],trivial, ?_⟩;simp only[swS,stW,Wk.c];(refine no_implicit_lambda% (st ?_);try with_reducible exact wT);(try simp)
  ·have hW':W=⟨inn,asks,outs,true⟩:=by rw[←hW,if_neg hin];split<;>simp_all
   clear hW
   refine za1 (F:=cd102) (hH.has _ _ rfl) rfl (Nat.le_of_ble_eq_true rfl) fun Q hQ hR=>?_;have hE:=hH.callable;dsimp only[cd102,qm,ql,qf,qi,qb,qc,qp,qv,qN,qT,qF,qt]at hQ ⊢
   skip
   unfold stW
   (refine no_implicit_lambda% (st ?_);try with_reducible exact wT)
   (repeat' first|refine zaa [0,1,2,3,4,5,8,9,10,11,12,13,17,18,19,20,23,32,49] fun K hK=>?_|(refine hK.go ?_;clear hK K)|with_reducible exact wT|refine wA ?_|(refine wB (fun h=>?_) (fun h=>?_)<;>first|exact wN h|subst (h:(_:Bool)=_)|skip)|(refine wQ ?_;clear hQ hR)|(refine AC.callK 30 (by omega) (by first|omega|exact wF|((refine no_implicit_lambda% (st ?_);try with_reducible exact wT);omega)) (zac (F:=cd130) (hH.has _ _ rfl) (Nat.le_of_ble_eq_true rfl) fun Q hQ hR=>?_);dsimp only[cd130,qm,ql,qf,qi,qb,qc,qp,qv,qN,qT,qF,qt]at hQ ⊢;try (refine no_implicit_lambda% (st ?_);try with_reducible exact wT))|(refine AC.callK 40 (by omega) (by first|omega|exact wF|((refine no_implicit_lambda% (st ?_);try with_reducible exact wT);omega)) (zac (F:=cd107) (hH.has _ _ rfl) (Nat.le_of_ble_eq_true rfl) fun Q hQ hR=>?_);dsimp only[cd107,qm,ql,qf,qi,qb,qc,qp,qv,qN,qT,qF,qt]at hQ ⊢;try (refine no_implicit_lambda% (st ?_);try with_reducible exact wT))|refine wS c0 ?_|fail)
   all_goals first|(exfalso;contradiction)|skip
   all_goals (refine zaz (ι:=Nat) [0,1,2,3,8,17,18,19] (fun z=>[(19,.n z)]) (fun _=>[]) (fun z=>z) (0) (fun _=>True) (0) ?_;rintro k ⟨hk,-⟩;(try dsimp only at hk ⊢);rcases Nat.lt_or_ge k 0 with hlt|hge)
   all_goals first|(exfalso;omega)|skip
   all_goals (repeat' first|refine zaa [0,1,2,3,4,5,8,9,10,11,12,13,17,18,19,20,23,32,49] fun K hK=>?_|(refine hK.go ?_;clear hK K)|with_reducible exact wT|refine wA ?_|(refine wB (fun h=>?_) (fun h=>?_)<;>first|exact wN h|subst (h:(_:Bool)=_)|skip)|(refine wQ ?_;clear hQ hR)|fail)
   all_goals (subst hW';refine ⟨[],trivial, ?_⟩;simp only[swS,stW,Wk.c];(refine no_implicit_lambda% (st ?_);try with_reducible exact wT);(try simp))
theorem zlc (hH:HasAll P inv) (hM:∀ b,M b→b<w0.heap.size) (p:Pln) (hp:Sm p) (r:Rte) (x y:Sgn) (w:Wk) (all:List Int) (i:Nat) (s:Int) (ba bo:Bool) (hw:w.asks.length≤1000000) (hw2:w.outs.length≤1000000) (hi:i+1<all.length) (ha:all.length≤1000000000) :
  AC P inv w0 M 30 102 [.ptr 5 11 0,.n s,.n i,.fn 106 [.ptr 6 1 0,.ptr 22 1 0]] (stW p r x y w all i s ba bo) fun r0 σ'=>r0=.tup []∧σ'=stW p r x y (zaJ p w s i (fun _ j=>decide (j.to=nth all (i+1)))) all i s (ba||decide (w.asks.length<(zaJ p w s i (fun _ j=>decide (j.to=nth all (i+1)))).asks.length)) (bo||decide (w.outs.length<(zaJ p w s i (fun _ j=>decide (j.to=nth all (i+1)))).outs.length)):=by
 have hs:=zbX (fun t:Section=>decide (t.id=s)) p.sections 0
 have c0:=zhG hH p.sections (fun t _=>zgQ hH s t) (Nat.le_trans hp.sec (by omega))
 have hl:=hp.sec
 obtain ⟨inn,asks,outs,lost⟩:=w
 dsimp only at hw hw2
 generalize hW:zaJ p ⟨inn,asks,outs,lost⟩ s i (fun _ j=>decide (j.to=nth all (i+1)))=W
 unfold zaJ zj6 zoh at hW
 dsimp only at hW
 rcases hs with ⟨h1,h2⟩|⟨k0,hk0,h1,h2⟩
 ·rw[h1]at c0
  rw[h2,ite_self]at hW
  refine za1 (F:=cd102) (hH.has _ _ rfl) rfl (Nat.le_of_ble_eq_true rfl) fun Q hQ hR=>?_;have hE:=hH.callable;dsimp only[cd102,qm,ql,qf,qi,qb,qc,qp,qv,qN,qT,qF,qt]at hQ ⊢
  skip
  unfold stW
  (refine no_implicit_lambda% (st ?_);try with_reducible exact wT)
  (repeat' first|refine zaa [0,1,2,3,4,5,8,9,10,11,12,13,17,18,19,20,23,32,49] fun K hK=>?_|(refine hK.go ?_;clear hK K)|with_reducible exact wT|refine wA ?_|(refine wB (fun h=>?_) (fun h=>?_)<;>first|exact wN h|subst (h:(_:Bool)=_)|skip)|(refine wQ ?_;clear hQ hR)|(refine AC.callK 30 (by omega) (by first|omega|exact wF|((refine no_implicit_lambda% (st ?_);try with_reducible exact wT);omega)) (zac (F:=cd130) (hH.has _ _ rfl) (Nat.le_of_ble_eq_true rfl) fun Q hQ hR=>?_);dsimp only[cd130,qm,ql,qf,qi,qb,qc,qp,qv,qN,qT,qF,qt]at hQ ⊢;try (refine no_implicit_lambda% (st ?_);try with_reducible exact wT))|(refine AC.callK 40 (by omega) (by first|omega|exact wF|((refine no_implicit_lambda% (st ?_);try with_reducible exact wT);omega)) (zac (F:=cd107) (hH.has _ _ rfl) (Nat.le_of_ble_eq_true rfl) fun Q hQ hR=>?_);dsimp only[cd107,qm,ql,qf,qi,qb,qc,qp,qv,qN,qT,qF,qt]at hQ ⊢;try (refine no_implicit_lambda% (st ?_);try with_reducible exact wT))|refine wS c0 ?_|fail)
  all_goals (refine zaz (ι:=Nat) [0,1,2,3,8,17,18,19] (fun z=>[(19,.n z)]) (fun _=>[]) (fun z=>z) (0) (fun _=>True) (0) ?_;rintro k ⟨hk,-⟩;(try dsimp only at hk ⊢);rcases Nat.lt_or_ge k 0 with hlt|hge)
  all_goals first|(exfalso;omega)|skip
  all_goals (repeat' first|refine zaa [0,1,2,3,4,5,8,9,10,11,12,13,17,18,19,20,23,32,49] fun K hK=>?_|(refine hK.go ?_;clear hK K)|with_reducible exact wT|refine wA ?_|(refine wB (fun h=>?_) (fun h=>?_)<;>first|exact wN h|subst (h:(_:Bool)=_)|skip)|(refine wQ ?_;clear hQ hR)|fail)
  all_goals (have hW':W=⟨inn,asks,outs,true⟩:=(by rw[←hW];split<;>simp_all);subst hW';refine ⟨[],trivial, ?_⟩;simp only[swS,stW,Wk.c];(refine no_implicit_lambda% (st ?_);try with_reducible exact wT);(try simp))
 ·rw[h1,Int.zero_add]at c0
  rw[h2]at hW
  by_cases hin:inn.to=s
  ·rw[if_pos hin]at hW
   dsimp only at hW
   have hse:=hp.ends _ (zae hk0)
   revert hW hse
   generalize hS:nth p.sections k0=S
   intro hW hse
   cases lost with
   |true =>
    rw[if_pos rfl]at hW
    subst hW
    refine za1 (F:=cd102) (hH.has _ _ rfl) rfl (Nat.le_of_ble_eq_true rfl) fun Q hQ hR=>?_;have hE:=hH.callable;dsimp only[cd102,qm,ql,qf,qi,qb,qc,qp,qv,qN,qT,qF,qt]at hQ ⊢
    skip
    unfold stW
    (refine no_implicit_lambda% (st ?_);try with_reducible exact wT)
    (have hX:=@hS;(repeat' first|refine zaa [0,1,2,3,4,5,8,9,10,11,12,13,17,18,19,20,23,32,49] fun K hK=>?_|(refine hK.go ?_;clear hK K)|with_reducible exact wT|refine wA ?_|(refine wB (fun h=>?_) (fun h=>?_)<;>first|exact wN h|subst (h:(_:Bool)=_)|skip)|(refine wQ ?_;clear hQ hR)|(refine AC.callK 30 (by omega) (by first|omega|exact wF|((refine no_implicit_lambda% (st ?_);try with_reducible exact wT);omega)) (zac (F:=cd130) (hH.has _ _ rfl) (Nat.le_of_ble_eq_true rfl) fun Q hQ hR=>?_);dsimp only[cd130,qm,ql,qf,qi,qb,qc,qp,qv,qN,qT,qF,qt]at hQ ⊢;try (refine no_implicit_lambda% (st ?_);try with_reducible exact wT))|(refine AC.callK 40 (by omega) (by first|omega|exact wF|((refine no_implicit_lambda% (st ?_);try with_reducible exact wT);omega)) (zac (F:=cd107) (hH.has _ _ rfl) (Nat.le_of_ble_eq_true rfl) fun Q hQ hR=>?_);dsimp only[cd107,qm,ql,qf,qi,qb,qc,qp,qv,qN,qT,qF,qt]at hQ ⊢;try (refine no_implicit_lambda% (st ?_);try with_reducible exact wT))|refine wS c0 ?_|fail);all_goals clear hX)
    all_goals first|(exfalso;contradiction)|skip
    refine zaz (ι:=Nat) [0,1,2,3,8,17,18,19] (fun z=>[(19,.n z)]) (fun _=>[]) (fun z=>z) (S.ends.length) (fun _=>True) (0) ?_;rintro k ⟨hk,-⟩;(try dsimp only at hk ⊢);rcases Nat.lt_or_ge k S.ends.length with hlt|hge
    ·have c1:=zcq hH S inn.ed k
     revert c1
     generalize zbl S inn.ed k=v
     intro c1
     (repeat' first|refine zaa [0,1,2,3,4,5,8,9,10,11,12,13,17,18,19,20,23,32,49] fun K hK=>?_|(refine hK.go ?_;clear hK K)|with_reducible exact wT|refine wA ?_|(refine wB (fun h=>?_) (fun h=>?_)<;>first|exact wN h|subst (h:(_:Bool)=_)|skip)|(refine wQ ?_;clear hQ hR)|refine wC c1 ?_|fail)
     all_goals exact ⟨k+1,by omega,by omega,by omega⟩
    ·(repeat' first|refine zaa [0,1,2,3,4,5,8,9,10,11,12,13,17,18,19,20,23,32,49] fun K hK=>?_|(refine hK.go ?_;clear hK K)|with_reducible exact wT|refine wA ?_|(refine wB (fun h=>?_) (fun h=>?_)<;>first|exact wN h|subst (h:(_:Bool)=_)|skip)|(refine wQ ?_;clear hQ hR)|fail)
     refine ⟨[],trivial, ?_⟩;simp only[swS,stW,Wk.c];(refine no_implicit_lambda% (st ?_);try with_reducible exact wT);(try simp)
   |false =>
    rw[if_neg (by simp)]at hW
    refine za1 (F:=cd102) (hH.has _ _ rfl) rfl (Nat.le_of_ble_eq_true rfl) fun Q hQ hR=>?_;have hE:=hH.callable;dsimp only[cd102,qm,ql,qf,qi,qb,qc,qp,qv,qN,qT,qF,qt]at hQ ⊢
    skip
    unfold stW
    (refine no_implicit_lambda% (st ?_);try with_reducible exact wT)
    (have hX:=@hS;(repeat' first|refine zaa [0,1,2,3,4,5,8,9,10,11,12,13,17,18,19,20,23,32,49] fun K hK=>?_|(refine hK.go ?_;clear hK K)|with_reducible exact wT|refine wA ?_|(refine wB (fun h=>?_) (fun h=>?_)<;>first|exact wN h|subst (h:(_:Bool)=_)|skip)|(refine wQ ?_;clear hQ hR)|(refine AC.callK 30 (by omega) (by first|omega|exact wF|((refine no_implicit_lambda% (st ?_);try with_reducible exact wT);omega)) (zac (F:=cd130) (hH.has _ _ rfl) (Nat.le_of_ble_eq_true rfl) fun Q hQ hR=>?_);dsimp only[cd130,qm,ql,qf,qi,qb,qc,qp,qv,qN,qT,qF,qt]at hQ ⊢;try (refine no_implicit_lambda% (st ?_);try with_reducible exact wT))|(refine AC.callK 40 (by omega) (by first|omega|exact wF|((refine no_implicit_lambda% (st ?_);try with_reducible exact wT);omega)) (zac (F:=cd107) (hH.has _ _ rfl) (Nat.le_of_ble_eq_true rfl) fun Q hQ hR=>?_);dsimp only[cd107,qm,ql,qf,qi,qb,qc,qp,qv,qN,qT,qF,qt]at hQ ⊢;try (refine no_implicit_lambda% (st ?_);try with_reducible exact wT))|refine wS c0 ?_|fail);all_goals clear hX)
    all_goals first|(exfalso;contradiction)|skip
    refine zaz (ι:=Nat) [0,1,2,3,8,17,18,19] (fun z=>[(19,.n z)]) (fun _=>[]) (fun z=>z) (S.ends.length) (fun z=>(zbJ S inn.ed (fun _ j=>decide (j.to=nth all (i+1))) z (S.ends.drop z)=zbJ S inn.ed (fun _ j=>decide (j.to=nth all (i+1))) 0 S.ends)) (0) ?_;rintro k ⟨hk,hg⟩;(try dsimp only at hk hg ⊢);rcases Nat.lt_or_ge k S.ends.length with hlt|hge
    ·rw[zag hlt,zbJ]at hg
     have c1:=zcq hH S inn.ed k
     have c2:=zpc hH k (nth S.ends k) all i hi ha
     revert c1 c2 hg
     generalize zbl S inn.ed k=v
     generalize hb:decide ((nth S.ends k).to=nth all (i+1))=b
     intro hg c1 c2
     (repeat' first|refine zaa [0,1,2,3,4,5,8,9,10,11,12,13,17,18,19,20,23,32,49] fun K hK=>?_|(refine hK.go ?_;clear hK K)|with_reducible exact wT|refine wA ?_|(refine wB (fun h=>?_) (fun h=>?_)<;>first|exact wN h|subst (h:(_:Bool)=_)|skip)|(refine wQ ?_;clear hQ hR)|refine wC c1 ?_|refine wS c2 ?_|(refine AC.callK 40 (by omega) (by first|omega|exact wF|((refine no_implicit_lambda% (st ?_);try with_reducible exact wT);omega)) (zac (F:=cd107) (hH.has _ _ rfl) (Nat.le_of_ble_eq_true rfl) fun Q hQ hR=>?_);dsimp only[cd107,qm,ql,qf,qi,qb,qc,qp,qv,qN,qT,qF,qt]at hQ ⊢;try (refine no_implicit_lambda% (st ?_);try with_reducible exact wT))|fail)
     all_goals first|(refine ⟨k+1,by omega,⟨by omega, ?_⟩,by omega⟩;rw[←hg,if_neg (by simp[*])];done)|skip
     all_goals (rw[if_pos ⟨by assumption,rfl⟩]at hg;rw[←hg]at hW;dsimp only at hW)
     all_goals (first|rw[if_pos ⟨by assumption,by assumption⟩]at hW|rw[if_neg (fun hh=>absurd hh.1 (by assumption))]at hW|rw[if_neg (fun hh=>absurd hh.2 (by assumption))]at hW)
     all_goals (subst hW;refine ⟨[],trivial, ?_⟩;simp only[swS,stW,Wk.c];(refine no_implicit_lambda% (st ?_);try with_reducible exact wT);(try simp[AskR.c,Join.c]))
    ·rw[List.drop_eq_nil_of_le hge,zbJ]at hg
     (repeat' first|refine zaa [0,1,2,3,4,5,8,9,10,11,12,13,17,18,19,20,23,32,49] fun K hK=>?_|(refine hK.go ?_;clear hK K)|with_reducible exact wT|refine wA ?_|(refine wB (fun h=>?_) (fun h=>?_)<;>first|exact wN h|subst (h:(_:Bool)=_)|skip)|(refine wQ ?_;clear hQ hR)|fail)
     rw[←hg]at hW
     dsimp only at hW
     subst hW
     refine ⟨[],trivial, ?_⟩;simp only[swS,stW,Wk.c];(refine no_implicit_lambda% (st ?_);try with_reducible exact wT);(try simp)
  ·have hW':W=⟨inn,asks,outs,true⟩:=by rw[←hW,if_neg hin];split<;>simp_all
   clear hW
   refine za1 (F:=cd102) (hH.has _ _ rfl) rfl (Nat.le_of_ble_eq_true rfl) fun Q hQ hR=>?_;have hE:=hH.callable;dsimp only[cd102,qm,ql,qf,qi,qb,qc,qp,qv,qN,qT,qF,qt]at hQ ⊢
   skip
   unfold stW
   (refine no_implicit_lambda% (st ?_);try with_reducible exact wT)
   (repeat' first|refine zaa [0,1,2,3,4,5,8,9,10,11,12,13,17,18,19,20,23,32,49] fun K hK=>?_|(refine hK.go ?_;clear hK K)|with_reducible exact wT|refine wA ?_|(refine wB (fun h=>?_) (fun h=>?_)<;>first|exact wN h|subst (h:(_:Bool)=_)|skip)|(refine wQ ?_;clear hQ hR)|(refine AC.callK 30 (by omega) (by first|omega|exact wF|((refine no_implicit_lambda% (st ?_);try with_reducible exact wT);omega)) (zac (F:=cd130) (hH.has _ _ rfl) (Nat.le_of_ble_eq_true rfl) fun Q hQ hR=>?_);dsimp only[cd130,qm,ql,qf,qi,qb,qc,qp,qv,qN,qT,qF,qt]at hQ ⊢;try (refine no_implicit_lambda% (st ?_);try with_reducible exact wT))|(refine AC.callK 40 (by omega) (by first|omega|exact wF|((refine no_implicit_lambda% (st ?_);try with_reducible exact wT);omega)) (zac (F:=cd107) (hH.has _ _ rfl) (Nat.le_of_ble_eq_true rfl) fun Q hQ hR=>?_);dsimp only[cd107,qm,ql,qf,qi,qb,qc,qp,qv,qN,qT,qF,qt]at hQ ⊢;try (refine no_implicit_lambda% (st ?_);try with_reducible exact wT))|refine wS c0 ?_|fail)
   all_goals first|(exfalso;contradiction)|skip
   all_goals (refine zaz (ι:=Nat) [0,1,2,3,8,17,18,19] (fun z=>[(19,.n z)]) (fun _=>[]) (fun z=>z) (0) (fun _=>True) (0) ?_;rintro k ⟨hk,-⟩;(try dsimp only at hk ⊢);rcases Nat.lt_or_ge k 0 with hlt|hge)
   all_goals first|(exfalso;omega)|skip
   all_goals (repeat' first|refine zaa [0,1,2,3,4,5,8,9,10,11,12,13,17,18,19,20,23,32,49] fun K hK=>?_|(refine hK.go ?_;clear hK K)|with_reducible exact wT|refine wA ?_|(refine wB (fun h=>?_) (fun h=>?_)<;>first|exact wN h|subst (h:(_:Bool)=_)|skip)|(refine wQ ?_;clear hQ hR)|fail)
   all_goals (subst hW';refine ⟨[],trivial, ?_⟩;simp only[swS,stW,Wk.c];(refine no_implicit_lambda% (st ?_);try with_reducible exact wT);(try simp))
end Go.Lev
namespace Go.Lev
open Go.Eng
set_option maxRecDepth 10000
set_option maxHeartbeats 4000000
variable {P:Program} {inv:Nat→Option Nat} {w0:World} {M:Nat→Prop}
abbrev WayR:=Go.Eng.Way
def zm2 (x:Sgn):Join→List Section→Join
 |j,[]=>j
 |j,s::r=>zm2 x (if s.id=x.sec then nth s.ends x.ed.toNat else j) r
def zg3 (p:Pln) (r:Rte) (y:Sgn) (all:List Int) (i:Nat) (s:Int) (w:Wk):Wk :=
 if (i:Int)=(r.path.length:Int)-1∧r.exit=0 then zaJ p w s i fun _ j=>decide (j=⟨0,0⟩)
 else if (i:Int)=(r.path.length:Int)-1 then zaJ p w s i fun e _=>decide (s=y.sec)&&decide (e=y.ed)
 else if (i:Int)=(all.length:Int)-1 then zfc p w s i
 else zaJ p w s i fun _ j=>decide (j.to=nth all (i+1))
def zcL (p:Pln) (r:Rte) (y:Sgn) (all:List Int):Nat→Wk→List Int→Wk
 |_,w,[]=>w
 |i,w,s::l=>zcL p r y all (i+1) (zg3 p r y all i s w) l
def zih:List AskR→List Flk→List AskR
 |l,[]=>l
 |l,f::r=>zih (zoh f.pnt f.lie (-1) l) r
def ziV (p:Pln) (r:Rte):Wk:=zcL p r (sig p r.exit) (r.path++r.over) 0 ⟨zm2 (sig p r.entry) ⟨0,0⟩ p.sections,[],[],false⟩ (r.path++r.over)
def zaq (p:Pln) (r:Rte):WayR×List Join×Int :=
 if (ziV p r).lost=true then (⟨[],[],[],0⟩,[],90) else (⟨r.path,r.over,zih (ziV p r).asks r.flanks,(sig p r.entry).sec⟩,(ziV p r).outs,0)
theorem zjQ (a b c:Int) (l:List AskR):(zoh a b c l).length≤l.length+1:=by unfold zoh;split<;>simp
theorem zc5 (p:Pln) (w:Wk) (s i:Int) (R:Int→Join→Bool):(zaJ p w s i R).asks.length≤w.asks.length+1∧(zaJ p w s i R).outs.length≤w.outs.length+1:=by
 unfold zaJ
 split
 ·omega
 ·split
  ·dsimp only;omega
  ·split
   ·dsimp only;omega
   ·refine ⟨zjQ _ _ _ _,by simp⟩
theorem zjZ (p:Pln) (w:Wk) (s i:Int):(zfc p w s i).asks.length≤w.asks.length+1∧(zfc p w s i).outs.length≤w.outs.length+1:=by
 unfold zfc
 split
 ·dsimp only;omega
 ·split
  ·refine ⟨zjQ _ _ _ _,by simp⟩
  ·omega
def zmo (p:Pln) (r:Rte):Prop:=∀ s∈p.sections,s.id=(sig p r.entry).sec→0≤(sig p r.entry).ed∧(sig p r.entry).ed<s.ends.length
theorem dropRow {n N:Nat} {φ:List (Nat×AV)} {σ:List (Nat×AO)} {c:ACode} {Q:Exit→List (Nat×AV)→List (Nat×AO)→Prop} (l:Nat) (h:AWp P inv w0 M N n c Q φ (zir σ l)):AWp P inv w0 M N n c Q φ σ:=by
 have hsd:∀ l' o,zax (zir σ l) l'=some o→zax σ l'=some o:=by
  intro l' o e
  rw[zfi]at e
  split at e
  ·cases e
  ·exact e
 intro c₀ hc β a w hs
 have hd:=fun N=>hs.mem.drop hsd N
 have hs':St inv w0 M n φ (zir σ l) β a w:=⟨⟨fun i=>(hd (zaC φ)).2.rel (zaI _ (zbC φ i)) (hs.slots i),(hd 0).1⟩,hs.size,hs.defers⟩
 exact Code.wp_mono (fun _ _ _ ⟨φ2,σ2,β2,q2,hst2,hext2⟩=>⟨φ2,σ2,β2,q2,hst2,(hd N).2.trans hext2⟩) (h c₀ hc β a w hs')
theorem zl3 (hH:HasAll P inv) (p:Pln) (hp:Sm p) (r:Rte) (hr:r.path.length≤1000∧r.over.length≤1000∧r.flanks.length≤1000) (he:zmo p r):PC P inv 90 [.agg p.c,.agg r.c] (·=.tup [.agg (zaq p r).1.c,.sl 2 ((zaq p r).2.1.map Join.c),.n (zaq p r).2.2]):=by
 have c1:=zj2 hH p hp r.entry
 have c2:=zj2 hH p hp r.exit
 have c3:=zkM hH [r.path,r.over] (by simp) (by simp[zju];omega)
 have hl:=hp.sec
 have hall:∃ all,all=r.path++r.over:=⟨_,rfl⟩
 obtain ⟨all,hall⟩:=hall
 have hal:all.length≤2000∧r.path.length≤all.length:=by rw[hall];simp;omega
 rw[show [r.path,r.over].flatten=all by rw[hall];simp]at c3
 obtain ⟨ans,ha⟩:∃ ans,ans=zaq p r:=⟨_,rfl⟩
 rw[←ha]
 unfold zaq ziV at ha
 rw[←hall]at ha
 unfold zmo at he
 revert ha he c1 c2
 generalize sig p r.entry=x
 generalize sig p r.exit=y
 intro he c1 c2 ha
 refine PC.fn hH cd90 fun w0 M Q hM hE hQ hR=>?_;dsimp only[cd90,qm,ql,qf,qi,qb,qc,qp,qv,qN,qT,qF,qt]at hQ ⊢
 (repeat' first|refine zaa [0,1,2,3,4,5,6,7,8,9,11,12,13,14,16,29,30,31,32,39,56,57,58,59,68,84,96,110,113,114,115,116] fun K hK=>?_|(refine hK.go ?_;clear hK K)|with_reducible exact wT|refine wA ?_|(refine wB (fun h=>?_) (fun h=>?_)<;>first|exact wN h|subst (h:(_:Bool)=_)|skip)|(refine wQ ?_;clear hQ hR hE hM)|refine wU c1 ?_|refine wU c2 ?_|fail)
 refine zaz (ι:=Nat×Join) [3,4,5,6,7,8,9,29,30,31] (fun z=>[(31,.n z.1)]) (fun z=>[(5,.cells [.n p.version,.n p.parent,.sl 3 (p.sections.map Section.c),.sl 2 (p.points.map Pnt.c),.sl 3 (p.signals.map Sgn.c),.sl 7 (p.routes.map Rte.c),.n z.2.to,.n z.2.ed,.s0 3,.s0 2,.b false] true)]) (fun z=>z.1) (p.sections.length) (fun z=>(zm2 x z.2 (p.sections.drop z.1)=zm2 x ⟨0,0⟩ p.sections)) (0,(⟨0,0⟩:Join)) ?_;rintro ⟨k,j⟩ ⟨hk,hg⟩;(try dsimp only at hk hg ⊢);rcases Nat.lt_or_ge k p.sections.length with hlt|hge
 ·rw[zag hlt]at hg
  rw[zm2]at hg
  have hx:=he _ (zae hlt)
  by_cases hid:(nth p.sections k).id=x.sec
  ·have hx':=hx hid
   rw[if_pos hid]at hg
   (repeat' first|refine zaa [0,1,2,3,4,5,6,7,8,9,11,12,13,14,16,29,30,31,32,39,56,57,58,59,68,84,96,110,113,114,115,116] fun K hK=>?_|(refine hK.go ?_;clear hK K)|with_reducible exact wT|refine wA ?_|(refine wB (fun h=>?_) (fun h=>?_)<;>first|exact wN h|subst (h:(_:Bool)=_)|skip)|(refine wQ ?_;clear hQ hR hE hM)|fail)
   exact nY (k+1,nth (nth p.sections k).ends x.ed.toNat) ⟨by (try dsimp only);omega,hg⟩
  ·rw[if_neg hid]at hg
   (repeat' first|refine zaa [0,1,2,3,4,5,6,7,8,9,11,12,13,14,16,29,30,31,32,39,56,57,58,59,68,84,96,110,113,114,115,116] fun K hK=>?_|(refine hK.go ?_;clear hK K)|with_reducible exact wT|refine wA ?_|(refine wB (fun h=>?_) (fun h=>?_)<;>first|exact wN h|subst (h:(_:Bool)=_)|skip)|(refine wQ ?_;clear hQ hR hE hM)|fail)
   exact nY (k+1,j) ⟨by (try dsimp only);omega,hg⟩
 ·rw[List.drop_eq_nil_of_le hge,zm2]at hg
  subst hg
  (repeat' first|refine zaa [0,1,2,3,4,5,6,7,8,9,11,12,13,14,16,29,30,31,32,39,56,57,58,59,68,84,96,110,113,114,115,116] fun K hK=>?_|(refine hK.go ?_;clear hK K)|with_reducible exact wT|refine wA ?_|(refine wB (fun h=>?_) (fun h=>?_)<;>first|exact wN h|subst (h:(_:Bool)=_)|skip)|(refine wQ ?_;clear hQ hR hE hM)|refine wC c3 ?_|fail)
  refine zdF 5 8 20 3 rfl rfl (by omega) (by (refine no_implicit_lambda% (st ?_);try with_reducible exact wT)) (by (refine no_implicit_lambda% (st ?_);try with_reducible exact wT)) ?_
  refine zdF 5 9 21 2 rfl rfl (by omega) (by (refine no_implicit_lambda% (st ?_);try with_reducible exact wT)) (by (refine no_implicit_lambda% (st ?_);try with_reducible exact wT)) ?_
  refine dropRow 0 ?_
  (refine no_implicit_lambda% (st ?_);try with_reducible exact wT)
  generalize hw0:(⟨zm2 x ⟨0,0⟩ p.sections,[],[],false⟩:Wk)=W0 at ha
  have e0:W0.asks=[]∧W0.outs=[]∧W0.lost=false∧W0.inn=zm2 x ⟨0,0⟩ p.sections:=by rw[←hw0];simp
  rw[←e0.2.2.2]
  clear hw0
  obtain ⟨inn0,as0,os0,l0⟩:=W0
  dsimp only at e0
  obtain ⟨rfl,rfl,rfl,e0⟩:=e0
  clear e0
  refine zaz (ι:=Nat×Wk×Bool×Bool) [3,4,5,6,7,8,9,12,56,57,58] (fun z=>[(58,.n z.1)]) (fun z=>[(5,.cells (z.2.1.c p) true),(20,.cells (z.2.1.asks.map AskR.c).flatten z.2.2.1),(21,.cells (z.2.1.outs.map Join.c).flatten z.2.2.2)]) (fun z=>z.1) (all.length) (fun z=>(zcL p r y all z.1 z.2.1 (all.drop z.1)=zcL p r y all 0 ⟨inn0,[],[],false⟩ all)∧(z.2.1.asks.length≤z.1∧z.2.1.outs.length≤z.1)) (0,(⟨inn0,[],[],false⟩:Wk),false,false) ?_;rintro ⟨k,w,ba,bo⟩ ⟨hk,hg,hx⟩;(try dsimp only at hk hg hx ⊢);rcases Nat.lt_or_ge k all.length with hlt|hge
  ·rw[zag hlt]at hg
   rw[zcL,zg3]at hg
   have hx1:w.asks.length≤1000000:=by omega
   have hx2:w.outs.length≤1000000:=by omega
   by_cases hk1:(k:Int)=(r.path.length:Int)-1
   ·by_cases hk2:r.exit=0
    ·rw[if_pos ⟨hk1,hk2⟩]at hg
     have hlen:=zc5 p w (nth all k) k (fun _ j=>decide (j=⟨0,0⟩))
     (have hX:=@stW.eq_1;(repeat' first|refine zaa [0,1,2,3,4,5,6,7,8,9,11,12,13,14,16,29,30,31,32,39,56,57,58,59,68,84,96,110,113,114,115,116] fun K hK=>?_|(refine hK.go ?_;clear hK K)|with_reducible exact wT|refine wA ?_|(refine wB (fun h=>?_) (fun h=>?_)<;>first|exact wN h|subst (h:(_:Bool)=_)|skip)|(refine wQ ?_;clear hQ hR hE hM)|(refine zb1 30 (zle hH hM p hp r x y w all (k:Int) (nth all k) ba bo hx1 hx2) (by omega) (by first|omega|exact wF|((refine no_implicit_lambda% (st ?_);try with_reducible exact wT);omega)) ?_;try (refine no_implicit_lambda% (st ?_);try with_reducible exact wT))|fail);all_goals clear hX)
     generalize (zaJ p w (nth all k) k (fun _ j=>decide (j=⟨0,0⟩)))=W' at hg hlen ⊢
     exact ⟨(k+1,W',_,_),by dsimp only;omega,⟨by dsimp only;omega,hg,by dsimp only;omega⟩,by dsimp only;omega,rfl,rfl,rfl⟩
    ·rw[if_neg (fun h=>hk2 h.2),if_pos hk1]at hg
     have hlen:=zc5 p w (nth all k) k (fun e _=>decide (nth all k=y.sec)&&decide (e=y.ed))
     (have hX:=@stW.eq_1;(repeat' first|refine zaa [0,1,2,3,4,5,6,7,8,9,11,12,13,14,16,29,30,31,32,39,56,57,58,59,68,84,96,110,113,114,115,116] fun K hK=>?_|(refine hK.go ?_;clear hK K)|with_reducible exact wT|refine wA ?_|(refine wB (fun h=>?_) (fun h=>?_)<;>first|exact wN h|subst (h:(_:Bool)=_)|skip)|(refine wQ ?_;clear hQ hR hE hM)|(refine zb1 30 (zld hH hM p hp r x y w all (k:Int) (nth all k) ba bo hx1 hx2) (by omega) (by first|omega|exact wF|((refine no_implicit_lambda% (st ?_);try with_reducible exact wT);omega)) ?_;try (refine no_implicit_lambda% (st ?_);try with_reducible exact wT))|fail);all_goals clear hX)
     generalize (zaJ p w (nth all k) k (fun e _=>decide (nth all k=y.sec)&&decide (e=y.ed)))=W' at hg hlen ⊢
     exact ⟨(k+1,W',_,_),by dsimp only;omega,⟨by dsimp only;omega,hg,by dsimp only;omega⟩,by dsimp only;omega,rfl,rfl,rfl⟩
   ·by_cases hk3:(k:Int)=(all.length:Int)-1
    ·rw[if_neg (fun h=>hk1 h.1),if_neg hk1,if_pos hk3]at hg
     have hlen:=zjZ p w (nth all k) k
     (have hX:=@stW.eq_1;(repeat' first|refine zaa [0,1,2,3,4,5,6,7,8,9,11,12,13,14,16,29,30,31,32,39,56,57,58,59,68,84,96,110,113,114,115,116] fun K hK=>?_|(refine hK.go ?_;clear hK K)|with_reducible exact wT|refine wA ?_|(refine wB (fun h=>?_) (fun h=>?_)<;>first|exact wN h|subst (h:(_:Bool)=_)|skip)|(refine wQ ?_;clear hQ hR hE hM)|(refine zb1 30 (stay_ac hH hM p hp r x y w all (k:Int) (nth all k) ba bo hx1) (by omega) (by first|omega|exact wF|((refine no_implicit_lambda% (st ?_);try with_reducible exact wT);omega)) ?_;try (refine no_implicit_lambda% (st ?_);try with_reducible exact wT))|fail);all_goals clear hX)
     generalize (zfc p w (nth all k) k)=W' at hg hlen ⊢
     exact ⟨(k+1,W',_,_),by dsimp only;omega,⟨by dsimp only;omega,hg,by dsimp only;omega⟩,by dsimp only;omega,rfl,rfl,rfl⟩
    ·rw[if_neg (fun h=>hk1 h.1),if_neg hk1,if_neg hk3]at hg
     have hlen:=zc5 p w (nth all k) k (fun _ j=>decide (j.to=nth all (k+1)))
     (have hX:=@stW.eq_1;(repeat' first|refine zaa [0,1,2,3,4,5,6,7,8,9,11,12,13,14,16,29,30,31,32,39,56,57,58,59,68,84,96,110,113,114,115,116] fun K hK=>?_|(refine hK.go ?_;clear hK K)|with_reducible exact wT|refine wA ?_|(refine wB (fun h=>?_) (fun h=>?_)<;>first|exact wN h|subst (h:(_:Bool)=_)|skip)|(refine wQ ?_;clear hQ hR hE hM)|(refine zb1 30 (zlc hH hM p hp r x y w all k (nth all k) ba bo hx1 hx2 (by omega) (by omega)) (by omega) (by first|omega|exact wF|((refine no_implicit_lambda% (st ?_);try with_reducible exact wT);omega)) ?_;try (refine no_implicit_lambda% (st ?_);try with_reducible exact wT))|fail);all_goals clear hX)
     generalize (zaJ p w (nth all k) k (fun _ j=>decide (j.to=nth all (k+1))))=W' at hg hlen ⊢
     exact ⟨(k+1,W',_,_),by dsimp only;omega,⟨by dsimp only;omega,hg,by dsimp only;omega⟩,by dsimp only;omega,rfl,rfl,rfl⟩
  ·rw[List.drop_eq_nil_of_le hge,zcL]at hg
   rw[←hg]at ha
   clear hg
   obtain ⟨inn,asks,outs,lost⟩:=w
   dsimp only at ha hx ⊢
   cases lost with
   |true =>
    rw[if_pos rfl]at ha
    subst ha
    (repeat' first|refine zaa [0,1,2,3,4,5,6,7,8,9,11,12,13,14,16,29,30,31,32,39,56,57,58,59,68,84,96,110,113,114,115,116] fun K hK=>?_|(refine hK.go ?_;clear hK K)|with_reducible exact wT|refine wA ?_|(refine wB (fun h=>?_) (fun h=>?_)<;>first|exact wN h|subst (h:(_:Bool)=_)|skip)|(refine wQ ?_;clear hQ hR hE hM)|fail)
    all_goals first|(exfalso;contradiction)|skip
   |false =>
    rw[if_neg (by simp)]at ha
    (repeat' first|refine zaa [0,1,2,3,4,5,6,7,8,9,11,12,13,14,16,29,30,31,32,39,56,57,58,59,68,84,96,110,113,114,115,116] fun K hK=>?_|(refine hK.go ?_;clear hK K)|with_reducible exact wT|refine wA ?_|(refine wB (fun h=>?_) (fun h=>?_)<;>first|exact wN h|subst (h:(_:Bool)=_)|skip)|(refine wQ ?_;clear hQ hR hE hM)|fail)
    all_goals first|(exfalso;contradiction)|skip
    skip
    refine zaz (ι:=Nat×(List AskR)×Bool) [3,4,5,6,7,9,113,114,115] (fun z=>[(115,.n z.1)]) (fun z=>[(5,.cells (Wk.c p ⟨inn,z.2.1,outs,false⟩) true),(20,.cells (z.2.1.map AskR.c).flatten z.2.2)]) (fun z=>z.1) (r.flanks.length) (fun z=>(zih z.2.1 (r.flanks.drop z.1)=zih asks r.flanks)∧(z.2.1.length≤2000+z.1)) (0,asks,ba) ?_;rintro ⟨k2,l,b2⟩ ⟨hk,hg,hx2⟩;(try dsimp only at hk hg hx2 ⊢);rcases Nat.lt_or_ge k2 r.flanks.length with hlt|hge
    ·rw[zag (by assumption),zih,zoh]at hg
     (repeat' first|refine zaa [0,1,2,3,4,5,6,7,8,9,11,12,13,14,16,29,30,31,32,39,56,57,58,59,68,84,96,110,113,114,115,116] fun K hK=>?_|(refine hK.go ?_;clear hK K)|with_reducible exact wT|refine wA ?_|(refine wB (fun h=>?_) (fun h=>?_)<;>first|exact wN h|subst (h:(_:Bool)=_)|skip)|(refine wQ ?_;clear hQ hR)|(refine AC.callK 40 (by omega) (by first|omega|exact wF|((refine no_implicit_lambda% (st ?_);try with_reducible exact wT);omega)) (zac (F:=cd107) (hH.has _ _ rfl) (Nat.le_of_ble_eq_true rfl) fun Q hQ hR=>?_);dsimp only[cd107,qm,ql,qf,qi,qb,qc,qp,qv,qN,qT,qF,qt]at hQ ⊢;try (refine no_implicit_lambda% (st ?_);try with_reducible exact wT))|fail)
     ·rw[if_pos ⟨by assumption,by assumption⟩]at hg
      exact nY (k2+1,l++[⟨(nth r.flanks k2).pnt,(nth r.flanks k2).lie,-1⟩],true) ⟨by (try dsimp only);omega,hg,by (try dsimp only);simp;omega⟩
     all_goals (first|rw[if_neg (fun hh=>absurd hh.2 (by assumption))]at hg|rw[if_neg (fun hh=>absurd hh.1 (by assumption))]at hg)
     all_goals (exact nY (k2+1,l,b2) ⟨by (try dsimp only);omega,hg,by (try dsimp only);omega⟩)
    ·rw[List.drop_eq_nil_of_le (by assumption),zih]at hg
     (repeat' first|refine zaa [0,1,2,3,4,5,6,7,8,9,11,12,13,14,16,29,30,31,32,39,56,57,58,59,68,84,96,110,113,114,115,116] fun K hK=>?_|(refine hK.go ?_;clear hK K)|with_reducible exact wT|refine wA ?_|(refine wB (fun h=>?_) (fun h=>?_)<;>first|exact wN h|subst (h:(_:Bool)=_)|skip)|(refine wQ ?_;clear hQ hR)|(refine zaj hM (zcy hH r.path (by omega)) ?_;try (refine no_implicit_lambda% (st ?_);try with_reducible exact wT))|(refine zaj hM (zcy hH r.over (by omega)) ?_;try (refine no_implicit_lambda% (st ?_);try with_reducible exact wT))|fail)
     rw[ha,←hg]
end Go.Lev
namespace Go.Lev
open Go.Eng
set_option maxRecDepth 10000
set_option maxHeartbeats 4000000
variable {P:Program} {inv:Nat→Option Nat} {w0:World} {M:Nat→Prop}
structure OkP (p:Pln):Prop where
 sec:zep p.sections=true
 pts:points p=true
 sgn:signals p (ends p.sections)=true
 rise:rise (p.routes.map Rte.id) 16=true
 rte:∀ r∈p.routes,zgD p r (ends p.sections)=true
theorem zeL {p:Pln} (h:zbA p=true):OkP p:=by
 simp only[zbA,Bool.and_eq_true,List.all_eq_true]at h
 exact ⟨h.1.2.2.2.2,h.2.1,h.2.2.1,h.2.2.2.1,h.2.2.2.2⟩
theorem zi4 (n:Int):∀ (l:List Sgn) (o:Sgn),sigG n o l=o∨sigG n o l∈l
 |[],o=>.inl rfl
 |x::r,o=>by
  rw[sigG]
  split
  ·rcases zi4 n r x with h|h
   ·right;rw[h];simp
   ·right;simp[h]
  ·rcases zi4 n r o with h|h
   ·left;exact h
   ·right;simp[h]
theorem ziI {p:Pln} (h:OkP p) (r:Rte):zmo p r:=by
 intro s hs he
 have h1:=zbd h.sec s hs
 rcases zi4 r.entry p.signals Sgn.z with h2|h2
 ·have:sig p r.entry=Sgn.z:=h2
  rw[this]at he
  have:Sgn.z.sec=0:=rfl
  omega
 ·have h3:sig p r.entry∈p.signals:=h2
  have h4:=h.sgn
  simp only[signals,Bool.and_eq_true]at h4
  have h5:=zg9 _ _ _ h4.2 _ h3
  rw[←he,zl5 h.sec hs]at h5
  exact h5.2
theorem zeY {p:Pln} (h:OkP p) {r:Rte} (hr:r∈p.routes):1≤r.path.length∧r.path.length≤6∧r.over.length≤2∧r.flanks.length≤3:=by
 have h1:=h.rte r hr
 simp only[zgD,zf2,Bool.and_eq_true,Bool.not_eq_true',decide_eq_false_iff_not]at h1
 omega
def WayR.z:WayR:=⟨[],[],[],0⟩
def ofW (p:Pln) (n:Int):WayR×Int:=if zbA p=true then (match p.routes.find? fun x=>decide (x.id=n) with|some r=>((zaq p r).1,(zaq p r).2.2)|none=>(WayR.z,6)) else (WayR.z,8)
theorem zmr (hH:HasAll P inv) (p:Pln) (hp:Sm p) (h:OkP p) {r:Rte} (hr:r∈p.routes):PC P inv 90 [.agg p.c,.agg r.c] (·=.tup [.agg (zaq p r).1.c,.sl 2 ((zaq p r).2.1.map Join.c),.n (zaq p r).2.2]) :=
 zl3 hH p hp r (by have:=zeY h hr;omega) (ziI h r)
theorem zgZ (hH:HasAll P inv) (hI:HasIds P inv) (p:Pln) (hp:Sm p) (n:Int):PC P inv 76 [.agg p.c,.n n] (·=.tup [.agg (ofW p n).1.c,.n (ofW p n).2]):=by
 have c0:=zd4 hH hI p hp n
 unfold ofW
 cases ho:zbA p with
 |false =>
  rw[if_neg (by simp)]
  rw[show zcK p n=(Rte.z,8) by simp[zcK,ho]]at c0
  refine PC.fn hH cd76 fun w0 M Q hM hE hQ hR=>?_;dsimp only[cd76,qm,ql,qf,qi,qb,qc,qp,qv,qN,qT,qF,qt]at hQ ⊢
  (repeat' first|refine zaa [0,1,2,4,5,6,7,8,17] fun K hK=>?_|(refine hK.go ?_;clear hK K)|with_reducible exact wT|refine wA ?_|(refine wB (fun h=>?_) (fun h=>?_)<;>first|exact wN h|subst (h:(_:Bool)=_)|skip)|(refine wQ ?_;clear hQ hR hE hM)|refine wC c0 ?_|fail)
  all_goals first|rfl|(exfalso;contradiction)
 |true =>
  rw[if_pos rfl]
  unfold zcK at c0
  rw[if_pos ho]at c0
  cases hf:(p.routes.find? fun x=>decide (x.id=n)) with
  |none =>
   rw[hf]at c0
   dsimp only at c0 ⊢
   refine PC.fn hH cd76 fun w0 M Q hM hE hQ hR=>?_;dsimp only[cd76,qm,ql,qf,qi,qb,qc,qp,qv,qN,qT,qF,qt]at hQ ⊢
   (repeat' first|refine zaa [0,1,2,4,5,6,7,8,17] fun K hK=>?_|(refine hK.go ?_;clear hK K)|with_reducible exact wT|refine wA ?_|(refine wB (fun h=>?_) (fun h=>?_)<;>first|exact wN h|subst (h:(_:Bool)=_)|skip)|(refine wQ ?_;clear hQ hR hE hM)|refine wC c0 ?_|fail)
   all_goals first|rfl|(exfalso;contradiction)
  |some r =>
   rw[hf]at c0
   dsimp only at c0 ⊢
   have c1:=zmr hH p hp (zeL ho) (zea hf).1
   generalize zaq p r=W at c1 ⊢
   refine PC.fn hH cd76 fun w0 M Q hM hE hQ hR=>?_;dsimp only[cd76,qm,ql,qf,qi,qb,qc,qp,qv,qN,qT,qF,qt]at hQ ⊢
   (repeat' first|refine zaa [0,1,2,4,5,6,7,8,17] fun K hK=>?_|(refine hK.go ?_;clear hK K)|with_reducible exact wT|refine wA ?_|(refine wB (fun h=>?_) (fun h=>?_)<;>first|exact wN h|subst (h:(_:Bool)=_)|skip)|(refine wQ ?_;clear hQ hR hE hM)|refine wC c0 ?_|refine wC c1 ?_|fail)
end Go.Lev
namespace Go.Lev
open Go.Eng
set_option maxRecDepth 10000
set_option maxHeartbeats 4000000
variable {P:Program} {inv:Nat→Option Nat} {w0:World} {M:Nat→Prop}
def jls (l:List Join):List AV:=[.sl 2 (l.map Join.c)]
instance:Cells jls 1:=⟨fun _=>rfl,fun _=>rfl⟩
def allG (p:Pln):List Rte→List WayR→List (List Join)→List WayR×List (List Join)×Int
 |[],ws,os=>(ws,os,0)
 |r::l,ws,os=>if (zaq p r).2.2=0 then allG p l (ws++[(zaq p r).1]) (os++[(zaq p r).2.1]) else ([],[],(zaq p r).2.2)
def allW (p:Pln):List WayR×List (List Join)×Int:=if zbA p=true then allG p p.routes [] [] else ([],[],8)
theorem all_pc (hH:HasAll P inv) (hI:HasIds P inv) (p:Pln) (hp:Sm p):PC P inv 82 [.agg p.c] (·=.tup [.sl 4 ((allW p).1.map Way.c),.sl 1 ((allW p).2.1.map jls),.n (allW p).2.2]):=by
 have hlr:=hp.rte
 have c0:=zd5 hH hI p hp
 unfold allW zbV at *
 cases ho:zbA p with
 |false =>
  rw[ho,if_neg (by simp)]at c0
  rw[if_neg (by simp)]
  refine PC.fn hH cd82 fun w0 M Q hM hE hQ hR=>?_;dsimp only[cd82,qm,ql,qf,qi,qb,qc,qp,qv,qN,qT,qF,qt]at hQ ⊢
  (repeat' first|refine zaa [0,1,2,3,4,6,7,8,9,13,15,16,17,18,29] fun K hK=>?_|(refine hK.go ?_;clear hK K)|with_reducible exact wT|refine wA ?_|(refine wB (fun h=>?_) (fun h=>?_)<;>first|exact wN h|subst (h:(_:Bool)=_)|skip)|(refine wQ ?_;clear hQ hR hE hM)|refine wC c0 ?_|fail)
 |true =>
  rw[ho,if_pos rfl]at c0
  rw[if_pos rfl]
  have hok:=zeL ho
  clear ho
  obtain ⟨ans,ha⟩:∃ ans,ans=allG p p.routes [] []:=⟨_,rfl⟩
  rw[←ha]
  refine PC.fn hH cd82 fun w0 M Q hM hE hQ hR=>?_;dsimp only[cd82,qm,ql,qf,qi,qb,qc,qp,qv,qN,qT,qF,qt]at hQ ⊢
  (repeat' first|refine zaa [0,1,2,3,4,6,7,8,9,13,15,16,17,18,29] fun K hK=>?_|(refine hK.go ?_;clear hK K)|with_reducible exact wT|refine wA ?_|(refine wB (fun h=>?_) (fun h=>?_)<;>first|exact wN h|subst (h:(_:Bool)=_)|skip)|(refine wQ ?_;clear hQ hR hE hM)|refine wC c0 ?_|fail)
  refine AWp.empty 2 10 4 rfl (Nat.zero_le _) (by (refine no_implicit_lambda% (st ?_);try with_reducible exact wT)) (by (refine no_implicit_lambda% (st ?_);try with_reducible exact wT)) ?_
  refine AWp.empty 3 11 1 rfl (Nat.zero_le _) (by (refine no_implicit_lambda% (st ?_);try with_reducible exact wT)) (by (refine no_implicit_lambda% (st ?_);try with_reducible exact wT)) ?_
  refine zaz (ι:=Nat×(List WayR)×(List (List Join))×Bool×Bool) [1,2,3,4,15,16,17] (fun z=>[(2,.sm 10 (z.2.1.length*4) 0 z.2.1.length 4),(3,.sm 11 z.2.2.1.length 0 z.2.2.1.length 1),(17,.n z.1)]) (fun z=>[(10,.cells (z.2.1.map Way.c).flatten z.2.2.2.1),(11,.cells (z.2.2.1.map jls).flatten z.2.2.2.2)]) (fun z=>z.1) (p.routes.length) (fun z=>(allG p (p.routes.drop z.1) z.2.1 z.2.2.1=ans)∧(z.2.1.length≤z.1∧z.2.2.1.length≤z.1)) (0,[],[],false,false) ?_;rintro ⟨k,ws,os,b1,b2⟩ ⟨hk,hg,hx⟩;(try dsimp only at hk hg hx ⊢);rcases Nat.lt_or_ge k p.routes.length with hlt|hge
  ·rw[zag hlt]at hg
   rw[allG]at hg
   have c1:=zmr hH p hp hok (zae hlt)
   generalize zaq p (nth p.routes k)=W at c1 hg
   (repeat' first|refine zaa [0,1,2,3,4,6,7,8,9,13,15,16,17,18,29] fun K hK=>?_|(refine hK.go ?_;clear hK K)|with_reducible exact wT|refine wA ?_|(refine wB (fun h=>?_) (fun h=>?_)<;>first|exact wN h|subst (h:(_:Bool)=_)|skip)|(refine wQ ?_;clear hQ hR hE hM)|refine wC c1 ?_|fail)
   ·rw[if_neg (by assumption)]at hg
    rw[←hg]
    rfl
   ·rw[if_pos (by assumption)]at hg
    exact nY (k+1,ws++[W.1],os++[W.2.1],true,true) ⟨by (try dsimp only);omega,hg,by (try dsimp only);simp;omega⟩
  ·rw[List.drop_eq_nil_of_le hge,allG]at hg
   (repeat' first|refine zaa [0,1,2,3,4,6,7,8,9,13,15,16,17,18,29] fun K hK=>?_|(refine hK.go ?_;clear hK K)|with_reducible exact wT|refine wA ?_|(refine wB (fun h=>?_) (fun h=>?_)<;>first|exact wN h|subst (h:(_:Bool)=_)|skip)|(refine wQ ?_;clear hQ hR hE hM)|fail)
   all_goals (rw[←hg])
end Go.Lev
