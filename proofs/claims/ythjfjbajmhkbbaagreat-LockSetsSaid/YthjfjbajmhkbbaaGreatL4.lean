/-
  A part of the engine that walks the functions' codes, and of the functions' contracts. Conditions: those that each theorem names.
-/
import Derived.Test.YthjfjbajmhkbbaaGreatL3
import Derived.IntWalk
set_option linter.unusedSimpArgs false
set_option linter.unusedVariables false
set_option linter.unusedSectionVars false
namespace Go.Lev
open Go.Eng
set_option maxRecDepth 10000
set_option maxHeartbeats 4000000
variable {P:Program} {inv:Nat→Option Nat} {w0:World} {M:Nat→Prop}
theorem zlv (hH:HasAll P inv) (hM:∀ b,M b→b<w0.heap.size) (p:Pln) (hp:Sm p) (r:Rte) (x y:Sgn) (w:Wk) (all:List Int) (i:Int) (s:Int) (ba bo:Bool) (hw:w.asks.length≤1000000) (hw2:w.outs.length≤1000000) :
  AC P inv w0 M 30 102 [.ptr 5 11 0,.n s,.n i,.fn 103 []] (stW p r x y w all i s ba bo) fun r0 σ'=>r0=.tup []∧σ'=stW p r x y (zaC p w s i (fun _ j=>decide (j=⟨0,0⟩))) all i s (ba||decide (w.asks.length<(zaC p w s i (fun _ j=>decide (j=⟨0,0⟩))).asks.length)) (bo||decide (w.outs.length<(zaC p w s i (fun _ j=>decide (j=⟨0,0⟩))).outs.length)):=by
 have hs:=zb2 (fun t:Section=>decide (t.id=s)) p.sections 0
 have c0:=zhS hH p.sections (fun t _=>zgU hH s t) (Nat.le_trans hp.sec (by omega))
 have hl:=hp.sec
 obtain ⟨inn,asks,outs,lost⟩:=w
 dsimp only at hw hw2
 generalize hW:zaC p ⟨inn,asks,outs,lost⟩ s i (fun _ j=>decide (j=⟨0,0⟩))=W
 unfold zaC zgE ziG at hW
 dsimp only at hW
 rcases hs with ⟨h1,h2⟩|⟨k0,hk0,h1,h2⟩
 ·rw[h1]at c0
  rw[h2,ite_self]at hW
  refine za7 (F:=cd102) (hH.has _ _ rfl) rfl (Nat.le_of_ble_eq_true rfl) fun Q hQ hR=>?_;have hE:=hH.callable;dsimp only[cd102,qm,ql,qf,qi,qb,qc,qp,qv,qN,qT,qF,qt]at hQ ⊢
  skip
  unfold stW
  (refine no_implicit_lambda% (st ?_);try with_reducible exact wT)
  (repeat' first|refine zaa [0,1,2,3,4,5,8,9,10,11,12,13,17,18,19,20,23,32,49] fun K hK=>?_|(refine hK.go ?_;clear hK K)|with_reducible exact wT|refine wA ?_|(refine wB (fun h=>?_) (fun h=>?_)<;>first|exact wN h|subst (h:(_:Bool)=_)|skip)|(refine wQ ?_;clear hQ hR)|(refine AC.callK 30 (by omega) (by first|omega|exact wF|((refine no_implicit_lambda% (st ?_);try with_reducible exact wT);omega)) (zam (F:=cd130) (hH.has _ _ rfl) (Nat.le_of_ble_eq_true rfl) fun Q hQ hR=>?_);dsimp only[cd130,qm,ql,qf,qi,qb,qc,qp,qv,qN,qT,qF,qt]at hQ ⊢;try (refine no_implicit_lambda% (st ?_);try with_reducible exact wT))|(refine AC.callK 40 (by omega) (by first|omega|exact wF|((refine no_implicit_lambda% (st ?_);try with_reducible exact wT);omega)) (zam (F:=cd107) (hH.has _ _ rfl) (Nat.le_of_ble_eq_true rfl) fun Q hQ hR=>?_);dsimp only[cd107,qm,ql,qf,qi,qb,qc,qp,qv,qN,qT,qF,qt]at hQ ⊢;try (refine no_implicit_lambda% (st ?_);try with_reducible exact wT))|refine wS c0 ?_|fail)
  all_goals (refine zae (ι:=Nat) [0,1,2,3,8,17,18,19] (fun z=>[(19,.n z)]) (fun _=>[]) (fun z=>z) (0) (fun _=>True) (0) ?_;rintro k ⟨hk,-⟩;(try dsimp only at hk ⊢);rcases Nat.lt_or_ge k 0 with hlt|hge)
  all_goals first|(exfalso;omega)|skip
  all_goals (repeat' first|refine zaa [0,1,2,3,4,5,8,9,10,11,12,13,17,18,19,20,23,32,49] fun K hK=>?_|(refine hK.go ?_;clear hK K)|with_reducible exact wT|refine wA ?_|(refine wB (fun h=>?_) (fun h=>?_)<;>first|exact wN h|subst (h:(_:Bool)=_)|skip)|(refine wQ ?_;clear hQ hR)|fail)
  all_goals (have hW':W=⟨inn,asks,outs,true⟩:=(by rw[←hW];split<;>simp_all);subst hW';refine ⟨[],trivial, ?_⟩;simp only[swS,stW,Wk.c];(refine no_implicit_lambda% (st ?_);try with_reducible exact wT);(try simp))
 ·rw[h1,Int.zero_add]at c0
  rw[h2]at hW
  by_cases hin:inn.to=s
  ·rw[if_pos hin]at hW
   dsimp only at hW
   have hse:=hp.ends _ (zab hk0)
   revert hW hse
   generalize hS:nth p.sections k0=S
   intro hW hse
   cases lost with
   |true =>
    rw[if_pos rfl]at hW
    subst hW
    refine za7 (F:=cd102) (hH.has _ _ rfl) rfl (Nat.le_of_ble_eq_true rfl) fun Q hQ hR=>?_;have hE:=hH.callable;dsimp only[cd102,qm,ql,qf,qi,qb,qc,qp,qv,qN,qT,qF,qt]at hQ ⊢
    skip
    unfold stW
    (refine no_implicit_lambda% (st ?_);try with_reducible exact wT)
    (have hX:=@hS;(repeat' first|refine zaa [0,1,2,3,4,5,8,9,10,11,12,13,17,18,19,20,23,32,49] fun K hK=>?_|(refine hK.go ?_;clear hK K)|with_reducible exact wT|refine wA ?_|(refine wB (fun h=>?_) (fun h=>?_)<;>first|exact wN h|subst (h:(_:Bool)=_)|skip)|(refine wQ ?_;clear hQ hR)|(refine AC.callK 30 (by omega) (by first|omega|exact wF|((refine no_implicit_lambda% (st ?_);try with_reducible exact wT);omega)) (zam (F:=cd130) (hH.has _ _ rfl) (Nat.le_of_ble_eq_true rfl) fun Q hQ hR=>?_);dsimp only[cd130,qm,ql,qf,qi,qb,qc,qp,qv,qN,qT,qF,qt]at hQ ⊢;try (refine no_implicit_lambda% (st ?_);try with_reducible exact wT))|(refine AC.callK 40 (by omega) (by first|omega|exact wF|((refine no_implicit_lambda% (st ?_);try with_reducible exact wT);omega)) (zam (F:=cd107) (hH.has _ _ rfl) (Nat.le_of_ble_eq_true rfl) fun Q hQ hR=>?_);dsimp only[cd107,qm,ql,qf,qi,qb,qc,qp,qv,qN,qT,qF,qt]at hQ ⊢;try (refine no_implicit_lambda% (st ?_);try with_reducible exact wT))|refine wS c0 ?_|fail);all_goals clear hX)
    all_goals first|(exfalso;contradiction)|skip
    refine zae (ι:=Nat) [0,1,2,3,8,17,18,19] (fun z=>[(19,.n z)]) (fun _=>[]) (fun z=>z) (S.ends.length) (fun _=>True) (0) ?_;rintro k ⟨hk,-⟩;(try dsimp only at hk ⊢);rcases Nat.lt_or_ge k S.ends.length with hlt|hge
    ·have c1:=zcr hH S inn.ed k
     revert c1
     generalize zbc S inn.ed k=v
     intro c1
     (repeat' first|refine zaa [0,1,2,3,4,5,8,9,10,11,12,13,17,18,19,20,23,32,49] fun K hK=>?_|(refine hK.go ?_;clear hK K)|with_reducible exact wT|refine wA ?_|(refine wB (fun h=>?_) (fun h=>?_)<;>first|exact wN h|subst (h:(_:Bool)=_)|skip)|(refine wQ ?_;clear hQ hR)|refine wC c1 ?_|fail)
     all_goals exact ⟨k+1,by omega,by omega,by omega⟩
    ·(repeat' first|refine zaa [0,1,2,3,4,5,8,9,10,11,12,13,17,18,19,20,23,32,49] fun K hK=>?_|(refine hK.go ?_;clear hK K)|with_reducible exact wT|refine wA ?_|(refine wB (fun h=>?_) (fun h=>?_)<;>first|exact wN h|subst (h:(_:Bool)=_)|skip)|(refine wQ ?_;clear hQ hR)|fail)
     refine ⟨[],trivial, ?_⟩;simp only[swS,stW,Wk.c];(refine no_implicit_lambda% (st ?_);try with_reducible exact wT);(try simp)
   |false =>
    rw[if_neg (by simp)]at hW
    refine za7 (F:=cd102) (hH.has _ _ rfl) rfl (Nat.le_of_ble_eq_true rfl) fun Q hQ hR=>?_;have hE:=hH.callable;dsimp only[cd102,qm,ql,qf,qi,qb,qc,qp,qv,qN,qT,qF,qt]at hQ ⊢
    skip
    unfold stW
    (refine no_implicit_lambda% (st ?_);try with_reducible exact wT)
    (have hX:=@hS;(repeat' first|refine zaa [0,1,2,3,4,5,8,9,10,11,12,13,17,18,19,20,23,32,49] fun K hK=>?_|(refine hK.go ?_;clear hK K)|with_reducible exact wT|refine wA ?_|(refine wB (fun h=>?_) (fun h=>?_)<;>first|exact wN h|subst (h:(_:Bool)=_)|skip)|(refine wQ ?_;clear hQ hR)|(refine AC.callK 30 (by omega) (by first|omega|exact wF|((refine no_implicit_lambda% (st ?_);try with_reducible exact wT);omega)) (zam (F:=cd130) (hH.has _ _ rfl) (Nat.le_of_ble_eq_true rfl) fun Q hQ hR=>?_);dsimp only[cd130,qm,ql,qf,qi,qb,qc,qp,qv,qN,qT,qF,qt]at hQ ⊢;try (refine no_implicit_lambda% (st ?_);try with_reducible exact wT))|(refine AC.callK 40 (by omega) (by first|omega|exact wF|((refine no_implicit_lambda% (st ?_);try with_reducible exact wT);omega)) (zam (F:=cd107) (hH.has _ _ rfl) (Nat.le_of_ble_eq_true rfl) fun Q hQ hR=>?_);dsimp only[cd107,qm,ql,qf,qi,qb,qc,qp,qv,qN,qT,qF,qt]at hQ ⊢;try (refine no_implicit_lambda% (st ?_);try with_reducible exact wT))|refine wS c0 ?_|fail);all_goals clear hX)
    all_goals first|(exfalso;contradiction)|skip
    refine zae (ι:=Nat) [0,1,2,3,8,17,18,19] (fun z=>[(19,.n z)]) (fun _=>[]) (fun z=>z) (S.ends.length) (fun z=>(zaU S inn.ed (fun _ j=>decide (j=⟨0,0⟩)) z (S.ends.drop z)=zaU S inn.ed (fun _ j=>decide (j=⟨0,0⟩)) 0 S.ends)) (0) ?_;rintro k ⟨hk,hg⟩;(try dsimp only at hk hg ⊢);rcases Nat.lt_or_ge k S.ends.length with hlt|hge
    ·rw[zaf hlt,zaU]at hg
     have c1:=zcr hH S inn.ed k
     have c2:=zoW hH k (nth S.ends k)
     revert c1 c2 hg
     generalize zbc S inn.ed k=v
     generalize hb:decide (nth S.ends k=⟨0,0⟩)=b
     intro hg c1 c2
     (repeat' first|refine zaa [0,1,2,3,4,5,8,9,10,11,12,13,17,18,19,20,23,32,49] fun K hK=>?_|(refine hK.go ?_;clear hK K)|with_reducible exact wT|refine wA ?_|(refine wB (fun h=>?_) (fun h=>?_)<;>first|exact wN h|subst (h:(_:Bool)=_)|skip)|(refine wQ ?_;clear hQ hR)|refine wC c1 ?_|refine wC c2 ?_|(refine AC.callK 40 (by omega) (by first|omega|exact wF|((refine no_implicit_lambda% (st ?_);try with_reducible exact wT);omega)) (zam (F:=cd107) (hH.has _ _ rfl) (Nat.le_of_ble_eq_true rfl) fun Q hQ hR=>?_);dsimp only[cd107,qm,ql,qf,qi,qb,qc,qp,qv,qN,qT,qF,qt]at hQ ⊢;try (refine no_implicit_lambda% (st ?_);try with_reducible exact wT))|fail)
     all_goals first|(refine ⟨k+1,by omega,⟨by omega, ?_⟩,by omega⟩;rw[←hg,if_neg (by simp[*])];done)|skip
     all_goals (rw[if_pos ⟨by assumption,rfl⟩]at hg;rw[←hg]at hW;dsimp only at hW)
     all_goals (first|rw[if_pos ⟨by assumption,by assumption⟩]at hW|rw[if_neg (fun hh=>absurd hh.1 (by assumption))]at hW|rw[if_neg (fun hh=>absurd hh.2 (by assumption))]at hW)
     all_goals (subst hW;refine ⟨[],trivial, ?_⟩;simp only[swS,stW,Wk.c];(refine no_implicit_lambda% (st ?_);try with_reducible exact wT);(try simp[AskR.c,Join.c]))
    ·rw[List.drop_eq_nil_of_le hge,zaU]at hg
     (repeat' first|refine zaa [0,1,2,3,4,5,8,9,10,11,12,13,17,18,19,20,23,32,49] fun K hK=>?_|(refine hK.go ?_;clear hK K)|with_reducible exact wT|refine wA ?_|(refine wB (fun h=>?_) (fun h=>?_)<;>first|exact wN h|subst (h:(_:Bool)=_)|skip)|(refine wQ ?_;clear hQ hR)|fail)
     rw[←hg]at hW
     dsimp only at hW
     subst hW
     refine ⟨[],trivial, ?_⟩;simp only[swS,stW,Wk.c];(refine no_implicit_lambda% (st ?_);try with_reducible exact wT);(try simp)
  ·have hW':W=⟨inn,asks,outs,true⟩:=by rw[←hW,if_neg hin];split<;>simp_all
   clear hW
   refine za7 (F:=cd102) (hH.has _ _ rfl) rfl (Nat.le_of_ble_eq_true rfl) fun Q hQ hR=>?_;have hE:=hH.callable;dsimp only[cd102,qm,ql,qf,qi,qb,qc,qp,qv,qN,qT,qF,qt]at hQ ⊢
   skip
   unfold stW
   (refine no_implicit_lambda% (st ?_);try with_reducible exact wT)
   (repeat' first|refine zaa [0,1,2,3,4,5,8,9,10,11,12,13,17,18,19,20,23,32,49] fun K hK=>?_|(refine hK.go ?_;clear hK K)|with_reducible exact wT|refine wA ?_|(refine wB (fun h=>?_) (fun h=>?_)<;>first|exact wN h|subst (h:(_:Bool)=_)|skip)|(refine wQ ?_;clear hQ hR)|(refine AC.callK 30 (by omega) (by first|omega|exact wF|((refine no_implicit_lambda% (st ?_);try with_reducible exact wT);omega)) (zam (F:=cd130) (hH.has _ _ rfl) (Nat.le_of_ble_eq_true rfl) fun Q hQ hR=>?_);dsimp only[cd130,qm,ql,qf,qi,qb,qc,qp,qv,qN,qT,qF,qt]at hQ ⊢;try (refine no_implicit_lambda% (st ?_);try with_reducible exact wT))|(refine AC.callK 40 (by omega) (by first|omega|exact wF|((refine no_implicit_lambda% (st ?_);try with_reducible exact wT);omega)) (zam (F:=cd107) (hH.has _ _ rfl) (Nat.le_of_ble_eq_true rfl) fun Q hQ hR=>?_);dsimp only[cd107,qm,ql,qf,qi,qb,qc,qp,qv,qN,qT,qF,qt]at hQ ⊢;try (refine no_implicit_lambda% (st ?_);try with_reducible exact wT))|refine wS c0 ?_|fail)
   all_goals first|(exfalso;contradiction)|skip
   all_goals (refine zae (ι:=Nat) [0,1,2,3,8,17,18,19] (fun z=>[(19,.n z)]) (fun _=>[]) (fun z=>z) (0) (fun _=>True) (0) ?_;rintro k ⟨hk,-⟩;(try dsimp only at hk ⊢);rcases Nat.lt_or_ge k 0 with hlt|hge)
   all_goals first|(exfalso;omega)|skip
   all_goals (repeat' first|refine zaa [0,1,2,3,4,5,8,9,10,11,12,13,17,18,19,20,23,32,49] fun K hK=>?_|(refine hK.go ?_;clear hK K)|with_reducible exact wT|refine wA ?_|(refine wB (fun h=>?_) (fun h=>?_)<;>first|exact wN h|subst (h:(_:Bool)=_)|skip)|(refine wQ ?_;clear hQ hR)|fail)
   all_goals (subst hW';refine ⟨[],trivial, ?_⟩;simp only[swS,stW,Wk.c];(refine no_implicit_lambda% (st ?_);try with_reducible exact wT);(try simp))
theorem zlu (hH:HasAll P inv) (hM:∀ b,M b→b<w0.heap.size) (p:Pln) (hp:Sm p) (r:Rte) (x y:Sgn) (w:Wk) (all:List Int) (i:Int) (s:Int) (ba bo:Bool) (hw:w.asks.length≤1000000) (hw2:w.outs.length≤1000000) :
  AC P inv w0 M 30 102 [.ptr 5 11 0,.n s,.n i,.fn 104 [.ptr 23 1 0,.ptr 4 3 0]] (stW p r x y w all i s ba bo) fun r0 σ'=>r0=.tup []∧σ'=stW p r x y (zaC p w s i (fun e _=>decide (s=y.sec)&&decide (e=y.ed))) all i s (ba||decide (w.asks.length<(zaC p w s i (fun e _=>decide (s=y.sec)&&decide (e=y.ed))).asks.length)) (bo||decide (w.outs.length<(zaC p w s i (fun e _=>decide (s=y.sec)&&decide (e=y.ed))).outs.length)):=by
 have hs:=zb2 (fun t:Section=>decide (t.id=s)) p.sections 0
 have c0:=zhS hH p.sections (fun t _=>zgU hH s t) (Nat.le_trans hp.sec (by omega))
 have hl:=hp.sec
 obtain ⟨inn,asks,outs,lost⟩:=w
 dsimp only at hw hw2
 generalize hW:zaC p ⟨inn,asks,outs,lost⟩ s i (fun e _=>decide (s=y.sec)&&decide (e=y.ed))=W
 unfold zaC zgE ziG at hW
 dsimp only at hW
 rcases hs with ⟨h1,h2⟩|⟨k0,hk0,h1,h2⟩
 ·rw[h1]at c0
  rw[h2,ite_self]at hW
  refine za7 (F:=cd102) (hH.has _ _ rfl) rfl (Nat.le_of_ble_eq_true rfl) fun Q hQ hR=>?_;have hE:=hH.callable;dsimp only[cd102,qm,ql,qf,qi,qb,qc,qp,qv,qN,qT,qF,qt]at hQ ⊢
  skip
  unfold stW
  (refine no_implicit_lambda% (st ?_);try with_reducible exact wT)
  (repeat' first|refine zaa [0,1,2,3,4,5,8,9,10,11,12,13,17,18,19,20,23,32,49] fun K hK=>?_|(refine hK.go ?_;clear hK K)|with_reducible exact wT|refine wA ?_|(refine wB (fun h=>?_) (fun h=>?_)<;>first|exact wN h|subst (h:(_:Bool)=_)|skip)|(refine wQ ?_;clear hQ hR)|(refine AC.callK 30 (by omega) (by first|omega|exact wF|((refine no_implicit_lambda% (st ?_);try with_reducible exact wT);omega)) (zam (F:=cd130) (hH.has _ _ rfl) (Nat.le_of_ble_eq_true rfl) fun Q hQ hR=>?_);dsimp only[cd130,qm,ql,qf,qi,qb,qc,qp,qv,qN,qT,qF,qt]at hQ ⊢;try (refine no_implicit_lambda% (st ?_);try with_reducible exact wT))|(refine AC.callK 40 (by omega) (by first|omega|exact wF|((refine no_implicit_lambda% (st ?_);try with_reducible exact wT);omega)) (zam (F:=cd107) (hH.has _ _ rfl) (Nat.le_of_ble_eq_true rfl) fun Q hQ hR=>?_);dsimp only[cd107,qm,ql,qf,qi,qb,qc,qp,qv,qN,qT,qF,qt]at hQ ⊢;try (refine no_implicit_lambda% (st ?_);try with_reducible exact wT))|refine wS c0 ?_|fail)
  all_goals (refine zae (ι:=Nat) [0,1,2,3,8,17,18,19] (fun z=>[(19,.n z)]) (fun _=>[]) (fun z=>z) (0) (fun _=>True) (0) ?_;rintro k ⟨hk,-⟩;(try dsimp only at hk ⊢);rcases Nat.lt_or_ge k 0 with hlt|hge)
  all_goals first|(exfalso;omega)|skip
  all_goals (repeat' first|refine zaa [0,1,2,3,4,5,8,9,10,11,12,13,17,18,19,20,23,32,49] fun K hK=>?_|(refine hK.go ?_;clear hK K)|with_reducible exact wT|refine wA ?_|(refine wB (fun h=>?_) (fun h=>?_)<;>first|exact wN h|subst (h:(_:Bool)=_)|skip)|(refine wQ ?_;clear hQ hR)|fail)
  all_goals (have hW':W=⟨inn,asks,outs,true⟩:=(by rw[←hW];split<;>simp_all);subst hW';refine ⟨[],trivial, ?_⟩;simp only[swS,stW,Wk.c];(refine no_implicit_lambda% (st ?_);try with_reducible exact wT);(try simp))
 ·rw[h1,Int.zero_add]at c0
  rw[h2]at hW
  by_cases hin:inn.to=s
  ·rw[if_pos hin]at hW
   dsimp only at hW
   have hse:=hp.ends _ (zab hk0)
   revert hW hse
   generalize hS:nth p.sections k0=S
   intro hW hse
   cases lost with
   |true =>
    rw[if_pos rfl]at hW
    subst hW
    refine za7 (F:=cd102) (hH.has _ _ rfl) rfl (Nat.le_of_ble_eq_true rfl) fun Q hQ hR=>?_;have hE:=hH.callable;dsimp only[cd102,qm,ql,qf,qi,qb,qc,qp,qv,qN,qT,qF,qt]at hQ ⊢
    skip
    unfold stW
    (refine no_implicit_lambda% (st ?_);try with_reducible exact wT)
    (have hX:=@hS;(repeat' first|refine zaa [0,1,2,3,4,5,8,9,10,11,12,13,17,18,19,20,23,32,49] fun K hK=>?_|(refine hK.go ?_;clear hK K)|with_reducible exact wT|refine wA ?_|(refine wB (fun h=>?_) (fun h=>?_)<;>first|exact wN h|subst (h:(_:Bool)=_)|skip)|(refine wQ ?_;clear hQ hR)|(refine AC.callK 30 (by omega) (by first|omega|exact wF|((refine no_implicit_lambda% (st ?_);try with_reducible exact wT);omega)) (zam (F:=cd130) (hH.has _ _ rfl) (Nat.le_of_ble_eq_true rfl) fun Q hQ hR=>?_);dsimp only[cd130,qm,ql,qf,qi,qb,qc,qp,qv,qN,qT,qF,qt]at hQ ⊢;try (refine no_implicit_lambda% (st ?_);try with_reducible exact wT))|(refine AC.callK 40 (by omega) (by first|omega|exact wF|((refine no_implicit_lambda% (st ?_);try with_reducible exact wT);omega)) (zam (F:=cd107) (hH.has _ _ rfl) (Nat.le_of_ble_eq_true rfl) fun Q hQ hR=>?_);dsimp only[cd107,qm,ql,qf,qi,qb,qc,qp,qv,qN,qT,qF,qt]at hQ ⊢;try (refine no_implicit_lambda% (st ?_);try with_reducible exact wT))|refine wS c0 ?_|fail);all_goals clear hX)
    all_goals first|(exfalso;contradiction)|skip
    refine zae (ι:=Nat) [0,1,2,3,8,17,18,19] (fun z=>[(19,.n z)]) (fun _=>[]) (fun z=>z) (S.ends.length) (fun _=>True) (0) ?_;rintro k ⟨hk,-⟩;(try dsimp only at hk ⊢);rcases Nat.lt_or_ge k S.ends.length with hlt|hge
    ·have c1:=zcr hH S inn.ed k
     revert c1
     generalize zbc S inn.ed k=v
     intro c1
     (repeat' first|refine zaa [0,1,2,3,4,5,8,9,10,11,12,13,17,18,19,20,23,32,49] fun K hK=>?_|(refine hK.go ?_;clear hK K)|with_reducible exact wT|refine wA ?_|(refine wB (fun h=>?_) (fun h=>?_)<;>first|exact wN h|subst (h:(_:Bool)=_)|skip)|(refine wQ ?_;clear hQ hR)|refine wC c1 ?_|fail)
     all_goals exact ⟨k+1,by omega,by omega,by omega⟩
    ·(repeat' first|refine zaa [0,1,2,3,4,5,8,9,10,11,12,13,17,18,19,20,23,32,49] fun K hK=>?_|(refine hK.go ?_;clear hK K)|with_reducible exact wT|refine wA ?_|(refine wB (fun h=>?_) (fun h=>?_)<;>first|exact wN h|subst (h:(_:Bool)=_)|skip)|(refine wQ ?_;clear hQ hR)|fail)
     refine ⟨[],trivial, ?_⟩;simp only[swS,stW,Wk.c];(refine no_implicit_lambda% (st ?_);try with_reducible exact wT);(try simp)
   |false =>
    rw[if_neg (by simp)]at hW
    refine za7 (F:=cd102) (hH.has _ _ rfl) rfl (Nat.le_of_ble_eq_true rfl) fun Q hQ hR=>?_;have hE:=hH.callable;dsimp only[cd102,qm,ql,qf,qi,qb,qc,qp,qv,qN,qT,qF,qt]at hQ ⊢
    skip
    unfold stW
    (refine no_implicit_lambda% (st ?_);try with_reducible exact wT)
    (have hX:=@hS;(repeat' first|refine zaa [0,1,2,3,4,5,8,9,10,11,12,13,17,18,19,20,23,32,49] fun K hK=>?_|(refine hK.go ?_;clear hK K)|with_reducible exact wT|refine wA ?_|(refine wB (fun h=>?_) (fun h=>?_)<;>first|exact wN h|subst (h:(_:Bool)=_)|skip)|(refine wQ ?_;clear hQ hR)|(refine AC.callK 30 (by omega) (by first|omega|exact wF|((refine no_implicit_lambda% (st ?_);try with_reducible exact wT);omega)) (zam (F:=cd130) (hH.has _ _ rfl) (Nat.le_of_ble_eq_true rfl) fun Q hQ hR=>?_);dsimp only[cd130,qm,ql,qf,qi,qb,qc,qp,qv,qN,qT,qF,qt]at hQ ⊢;try (refine no_implicit_lambda% (st ?_);try with_reducible exact wT))|(refine AC.callK 40 (by omega) (by first|omega|exact wF|((refine no_implicit_lambda% (st ?_);try with_reducible exact wT);omega)) (zam (F:=cd107) (hH.has _ _ rfl) (Nat.le_of_ble_eq_true rfl) fun Q hQ hR=>?_);dsimp only[cd107,qm,ql,qf,qi,qb,qc,qp,qv,qN,qT,qF,qt]at hQ ⊢;try (refine no_implicit_lambda% (st ?_);try with_reducible exact wT))|refine wS c0 ?_|fail);all_goals clear hX)
    all_goals first|(exfalso;contradiction)|skip
    refine zae (ι:=Nat) [0,1,2,3,8,17,18,19] (fun z=>[(19,.n z)]) (fun _=>[]) (fun z=>z) (S.ends.length) (fun z=>(zaU S inn.ed (fun e _=>decide (s=y.sec)&&decide (e=y.ed)) z (S.ends.drop z)=zaU S inn.ed (fun e _=>decide (s=y.sec)&&decide (e=y.ed)) 0 S.ends)) (0) ?_;rintro k ⟨hk,hg⟩;(try dsimp only at hk hg ⊢);rcases Nat.lt_or_ge k S.ends.length with hlt|hge
    ·rw[zaf hlt,zaU]at hg
     have c1:=zcr hH S inn.ed k
     have c2:=zoV hH k (nth S.ends k) s y
     revert c1 c2 hg
     generalize zbc S inn.ed k=v
     generalize hb:(decide (s=y.sec)&&decide ((k:Int)=y.ed))=b
     intro hg c1 c2
     (repeat' first|refine zaa [0,1,2,3,4,5,8,9,10,11,12,13,17,18,19,20,23,32,49] fun K hK=>?_|(refine hK.go ?_;clear hK K)|with_reducible exact wT|refine wA ?_|(refine wB (fun h=>?_) (fun h=>?_)<;>first|exact wN h|subst (h:(_:Bool)=_)|skip)|(refine wQ ?_;clear hQ hR)|refine wC c1 ?_|refine wS c2 ?_|(refine AC.callK 40 (by omega) (by first|omega|exact wF|((refine no_implicit_lambda% (st ?_);try with_reducible exact wT);omega)) (zam (F:=cd107) (hH.has _ _ rfl) (Nat.le_of_ble_eq_true rfl) fun Q hQ hR=>?_);dsimp only[cd107,qm,ql,qf,qi,qb,qc,qp,qv,qN,qT,qF,qt]at hQ ⊢;try (refine no_implicit_lambda% (st ?_);try with_reducible exact wT))|fail)
     all_goals first|(refine ⟨k+1,by omega,⟨by omega, ?_⟩,by omega⟩;rw[←hg,if_neg (by simp[*])];done)|skip
     all_goals (rw[if_pos ⟨by assumption,rfl⟩]at hg;rw[←hg]at hW;dsimp only at hW)
     all_goals (first|rw[if_pos ⟨by assumption,by assumption⟩]at hW|rw[if_neg (fun hh=>absurd hh.1 (by assumption))]at hW|rw[if_neg (fun hh=>absurd hh.2 (by assumption))]at hW)
     all_goals (subst hW;refine ⟨[],trivial, ?_⟩;simp only[swS,stW,Wk.c];(refine no_implicit_lambda% (st ?_);try with_reducible exact wT);(try simp[AskR.c,Join.c]))
    ·rw[List.drop_eq_nil_of_le hge,zaU]at hg
     (repeat' first|refine zaa [0,1,2,3,4,5,8,9,10,11,12,13,17,18,19,20,23,32,49] fun K hK=>?_|(refine hK.go ?_;clear hK K)|with_reducible exact wT|refine wA ?_|(refine wB (fun h=>?_) (fun h=>?_)<;>first|exact wN h|subst (h:(_:Bool)=_)|skip)|(refine wQ ?_;clear hQ hR)|fail)
     rw[←hg]at hW
     dsimp only at hW
     subst hW
     refine ⟨[],trivial, ?_⟩;simp only[swS,stW,Wk.c];(refine no_implicit_lambda% (st ?_);try with_reducible exact wT);(try simp)
  ·have hW':W=⟨inn,asks,outs,true⟩:=by rw[←hW,if_neg hin];split<;>simp_all
   clear hW
   refine za7 (F:=cd102) (hH.has _ _ rfl) rfl (Nat.le_of_ble_eq_true rfl) fun Q hQ hR=>?_;have hE:=hH.callable;dsimp only[cd102,qm,ql,qf,qi,qb,qc,qp,qv,qN,qT,qF,qt]at hQ ⊢
   skip
   unfold stW
   (refine no_implicit_lambda% (st ?_);try with_reducible exact wT)
   (repeat' first|refine zaa [0,1,2,3,4,5,8,9,10,11,12,13,17,18,19,20,23,32,49] fun K hK=>?_|(refine hK.go ?_;clear hK K)|with_reducible exact wT|refine wA ?_|(refine wB (fun h=>?_) (fun h=>?_)<;>first|exact wN h|subst (h:(_:Bool)=_)|skip)|(refine wQ ?_;clear hQ hR)|(refine AC.callK 30 (by omega) (by first|omega|exact wF|((refine no_implicit_lambda% (st ?_);try with_reducible exact wT);omega)) (zam (F:=cd130) (hH.has _ _ rfl) (Nat.le_of_ble_eq_true rfl) fun Q hQ hR=>?_);dsimp only[cd130,qm,ql,qf,qi,qb,qc,qp,qv,qN,qT,qF,qt]at hQ ⊢;try (refine no_implicit_lambda% (st ?_);try with_reducible exact wT))|(refine AC.callK 40 (by omega) (by first|omega|exact wF|((refine no_implicit_lambda% (st ?_);try with_reducible exact wT);omega)) (zam (F:=cd107) (hH.has _ _ rfl) (Nat.le_of_ble_eq_true rfl) fun Q hQ hR=>?_);dsimp only[cd107,qm,ql,qf,qi,qb,qc,qp,qv,qN,qT,qF,qt]at hQ ⊢;try (refine no_implicit_lambda% (st ?_);try with_reducible exact wT))|refine wS c0 ?_|fail)
   all_goals first|(exfalso;contradiction)|skip
   all_goals (refine zae (ι:=Nat) [0,1,2,3,8,17,18,19] (fun z=>[(19,.n z)]) (fun _=>[]) (fun z=>z) (0) (fun _=>True) (0) ?_;rintro k ⟨hk,-⟩;(try dsimp only at hk ⊢);rcases Nat.lt_or_ge k 0 with hlt|hge)
   all_goals first|(exfalso;omega)|skip
   all_goals (repeat' first|refine zaa [0,1,2,3,4,5,8,9,10,11,12,13,17,18,19,20,23,32,49] fun K hK=>?_|(refine hK.go ?_;clear hK K)|with_reducible exact wT|refine wA ?_|(refine wB (fun h=>?_) (fun h=>?_)<;>first|exact wN h|subst (h:(_:Bool)=_)|skip)|(refine wQ ?_;clear hQ hR)|fail)
   all_goals (subst hW';refine ⟨[],trivial, ?_⟩;simp only[swS,stW,Wk.c];(refine no_implicit_lambda% (st ?_);try with_reducible exact wT);(try simp))
theorem zlt (hH:HasAll P inv) (hM:∀ b,M b→b<w0.heap.size) (p:Pln) (hp:Sm p) (r:Rte) (x y:Sgn) (w:Wk) (all:List Int) (i:Nat) (s:Int) (ba bo:Bool) (hw:w.asks.length≤1000000) (hw2:w.outs.length≤1000000) (hi:i+1<all.length) (ha:all.length≤1000000000) :
  AC P inv w0 M 30 102 [.ptr 5 11 0,.n s,.n i,.fn 106 [.ptr 6 1 0,.ptr 22 1 0]] (stW p r x y w all i s ba bo) fun r0 σ'=>r0=.tup []∧σ'=stW p r x y (zaC p w s i (fun _ j=>decide (j.to=nth all (i+1)))) all i s (ba||decide (w.asks.length<(zaC p w s i (fun _ j=>decide (j.to=nth all (i+1)))).asks.length)) (bo||decide (w.outs.length<(zaC p w s i (fun _ j=>decide (j.to=nth all (i+1)))).outs.length)):=by
 have hs:=zb2 (fun t:Section=>decide (t.id=s)) p.sections 0
 have c0:=zhS hH p.sections (fun t _=>zgU hH s t) (Nat.le_trans hp.sec (by omega))
 have hl:=hp.sec
 obtain ⟨inn,asks,outs,lost⟩:=w
 dsimp only at hw hw2
 generalize hW:zaC p ⟨inn,asks,outs,lost⟩ s i (fun _ j=>decide (j.to=nth all (i+1)))=W
 unfold zaC zgE ziG at hW
 dsimp only at hW
 rcases hs with ⟨h1,h2⟩|⟨k0,hk0,h1,h2⟩
 ·rw[h1]at c0
  rw[h2,ite_self]at hW
  refine za7 (F:=cd102) (hH.has _ _ rfl) rfl (Nat.le_of_ble_eq_true rfl) fun Q hQ hR=>?_;have hE:=hH.callable;dsimp only[cd102,qm,ql,qf,qi,qb,qc,qp,qv,qN,qT,qF,qt]at hQ ⊢
  skip
  unfold stW
  (refine no_implicit_lambda% (st ?_);try with_reducible exact wT)
  (repeat' first|refine zaa [0,1,2,3,4,5,8,9,10,11,12,13,17,18,19,20,23,32,49] fun K hK=>?_|(refine hK.go ?_;clear hK K)|with_reducible exact wT|refine wA ?_|(refine wB (fun h=>?_) (fun h=>?_)<;>first|exact wN h|subst (h:(_:Bool)=_)|skip)|(refine wQ ?_;clear hQ hR)|(refine AC.callK 30 (by omega) (by first|omega|exact wF|((refine no_implicit_lambda% (st ?_);try with_reducible exact wT);omega)) (zam (F:=cd130) (hH.has _ _ rfl) (Nat.le_of_ble_eq_true rfl) fun Q hQ hR=>?_);dsimp only[cd130,qm,ql,qf,qi,qb,qc,qp,qv,qN,qT,qF,qt]at hQ ⊢;try (refine no_implicit_lambda% (st ?_);try with_reducible exact wT))|(refine AC.callK 40 (by omega) (by first|omega|exact wF|((refine no_implicit_lambda% (st ?_);try with_reducible exact wT);omega)) (zam (F:=cd107) (hH.has _ _ rfl) (Nat.le_of_ble_eq_true rfl) fun Q hQ hR=>?_);dsimp only[cd107,qm,ql,qf,qi,qb,qc,qp,qv,qN,qT,qF,qt]at hQ ⊢;try (refine no_implicit_lambda% (st ?_);try with_reducible exact wT))|refine wS c0 ?_|fail)
  all_goals (refine zae (ι:=Nat) [0,1,2,3,8,17,18,19] (fun z=>[(19,.n z)]) (fun _=>[]) (fun z=>z) (0) (fun _=>True) (0) ?_;rintro k ⟨hk,-⟩;(try dsimp only at hk ⊢);rcases Nat.lt_or_ge k 0 with hlt|hge)
  all_goals first|(exfalso;omega)|skip
  all_goals (repeat' first|refine zaa [0,1,2,3,4,5,8,9,10,11,12,13,17,18,19,20,23,32,49] fun K hK=>?_|(refine hK.go ?_;clear hK K)|with_reducible exact wT|refine wA ?_|(refine wB (fun h=>?_) (fun h=>?_)<;>first|exact wN h|subst (h:(_:Bool)=_)|skip)|(refine wQ ?_;clear hQ hR)|fail)
  all_goals (have hW':W=⟨inn,asks,outs,true⟩:=(by rw[←hW];split<;>simp_all);subst hW';refine ⟨[],trivial, ?_⟩;simp only[swS,stW,Wk.c];(refine no_implicit_lambda% (st ?_);try with_reducible exact wT);(try simp))
 ·rw[h1,Int.zero_add]at c0
  rw[h2]at hW
  by_cases hin:inn.to=s
  ·rw[if_pos hin]at hW
   dsimp only at hW
   have hse:=hp.ends _ (zab hk0)
   revert hW hse
   generalize hS:nth p.sections k0=S
   intro hW hse
   cases lost with
   |true =>
    rw[if_pos rfl]at hW
    subst hW
    refine za7 (F:=cd102) (hH.has _ _ rfl) rfl (Nat.le_of_ble_eq_true rfl) fun Q hQ hR=>?_;have hE:=hH.callable;dsimp only[cd102,qm,ql,qf,qi,qb,qc,qp,qv,qN,qT,qF,qt]at hQ ⊢
    skip
    unfold stW
    (refine no_implicit_lambda% (st ?_);try with_reducible exact wT)
    (have hX:=@hS;(repeat' first|refine zaa [0,1,2,3,4,5,8,9,10,11,12,13,17,18,19,20,23,32,49] fun K hK=>?_|(refine hK.go ?_;clear hK K)|with_reducible exact wT|refine wA ?_|(refine wB (fun h=>?_) (fun h=>?_)<;>first|exact wN h|subst (h:(_:Bool)=_)|skip)|(refine wQ ?_;clear hQ hR)|(refine AC.callK 30 (by omega) (by first|omega|exact wF|((refine no_implicit_lambda% (st ?_);try with_reducible exact wT);omega)) (zam (F:=cd130) (hH.has _ _ rfl) (Nat.le_of_ble_eq_true rfl) fun Q hQ hR=>?_);dsimp only[cd130,qm,ql,qf,qi,qb,qc,qp,qv,qN,qT,qF,qt]at hQ ⊢;try (refine no_implicit_lambda% (st ?_);try with_reducible exact wT))|(refine AC.callK 40 (by omega) (by first|omega|exact wF|((refine no_implicit_lambda% (st ?_);try with_reducible exact wT);omega)) (zam (F:=cd107) (hH.has _ _ rfl) (Nat.le_of_ble_eq_true rfl) fun Q hQ hR=>?_);dsimp only[cd107,qm,ql,qf,qi,qb,qc,qp,qv,qN,qT,qF,qt]at hQ ⊢;try (refine no_implicit_lambda% (st ?_);try with_reducible exact wT))|refine wS c0 ?_|fail);all_goals clear hX)
    all_goals first|(exfalso;contradiction)|skip
    refine zae (ι:=Nat) [0,1,2,3,8,17,18,19] (fun z=>[(19,.n z)]) (fun _=>[]) (fun z=>z) (S.ends.length) (fun _=>True) (0) ?_;rintro k ⟨hk,-⟩;(try dsimp only at hk ⊢);rcases Nat.lt_or_ge k S.ends.length with hlt|hge
    ·have c1:=zcr hH S inn.ed k
     revert c1
     generalize zbc S inn.ed k=v
     intro c1
     (repeat' first|refine zaa [0,1,2,3,4,5,8,9,10,11,12,13,17,18,19,20,23,32,49] fun K hK=>?_|(refine hK.go ?_;clear hK K)|with_reducible exact wT|refine wA ?_|(refine wB (fun h=>?_) (fun h=>?_)<;>first|exact wN h|subst (h:(_:Bool)=_)|skip)|(refine wQ ?_;clear hQ hR)|refine wC c1 ?_|fail)
     all_goals exact ⟨k+1,by omega,by omega,by omega⟩
    ·(repeat' first|refine zaa [0,1,2,3,4,5,8,9,10,11,12,13,17,18,19,20,23,32,49] fun K hK=>?_|(refine hK.go ?_;clear hK K)|with_reducible exact wT|refine wA ?_|(refine wB (fun h=>?_) (fun h=>?_)<;>first|exact wN h|subst (h:(_:Bool)=_)|skip)|(refine wQ ?_;clear hQ hR)|fail)
     refine ⟨[],trivial, ?_⟩;simp only[swS,stW,Wk.c];(refine no_implicit_lambda% (st ?_);try with_reducible exact wT);(try simp)
   |false =>
    rw[if_neg (by simp)]at hW
    refine za7 (F:=cd102) (hH.has _ _ rfl) rfl (Nat.le_of_ble_eq_true rfl) fun Q hQ hR=>?_;have hE:=hH.callable;dsimp only[cd102,qm,ql,qf,qi,qb,qc,qp,qv,qN,qT,qF,qt]at hQ ⊢
    skip
    unfold stW
    (refine no_implicit_lambda% (st ?_);try with_reducible exact wT)
    (have hX:=@hS;(repeat' first|refine zaa [0,1,2,3,4,5,8,9,10,11,12,13,17,18,19,20,23,32,49] fun K hK=>?_|(refine hK.go ?_;clear hK K)|with_reducible exact wT|refine wA ?_|(refine wB (fun h=>?_) (fun h=>?_)<;>first|exact wN h|subst (h:(_:Bool)=_)|skip)|(refine wQ ?_;clear hQ hR)|(refine AC.callK 30 (by omega) (by first|omega|exact wF|((refine no_implicit_lambda% (st ?_);try with_reducible exact wT);omega)) (zam (F:=cd130) (hH.has _ _ rfl) (Nat.le_of_ble_eq_true rfl) fun Q hQ hR=>?_);dsimp only[cd130,qm,ql,qf,qi,qb,qc,qp,qv,qN,qT,qF,qt]at hQ ⊢;try (refine no_implicit_lambda% (st ?_);try with_reducible exact wT))|(refine AC.callK 40 (by omega) (by first|omega|exact wF|((refine no_implicit_lambda% (st ?_);try with_reducible exact wT);omega)) (zam (F:=cd107) (hH.has _ _ rfl) (Nat.le_of_ble_eq_true rfl) fun Q hQ hR=>?_);dsimp only[cd107,qm,ql,qf,qi,qb,qc,qp,qv,qN,qT,qF,qt]at hQ ⊢;try (refine no_implicit_lambda% (st ?_);try with_reducible exact wT))|refine wS c0 ?_|fail);all_goals clear hX)
    all_goals first|(exfalso;contradiction)|skip
    refine zae (ι:=Nat) [0,1,2,3,8,17,18,19] (fun z=>[(19,.n z)]) (fun _=>[]) (fun z=>z) (S.ends.length) (fun z=>(zaU S inn.ed (fun _ j=>decide (j.to=nth all (i+1))) z (S.ends.drop z)=zaU S inn.ed (fun _ j=>decide (j.to=nth all (i+1))) 0 S.ends)) (0) ?_;rintro k ⟨hk,hg⟩;(try dsimp only at hk hg ⊢);rcases Nat.lt_or_ge k S.ends.length with hlt|hge
    ·rw[zaf hlt,zaU]at hg
     have c1:=zcr hH S inn.ed k
     have c2:=zoU hH k (nth S.ends k) all i hi ha
     revert c1 c2 hg
     generalize zbc S inn.ed k=v
     generalize hb:decide ((nth S.ends k).to=nth all (i+1))=b
     intro hg c1 c2
     (repeat' first|refine zaa [0,1,2,3,4,5,8,9,10,11,12,13,17,18,19,20,23,32,49] fun K hK=>?_|(refine hK.go ?_;clear hK K)|with_reducible exact wT|refine wA ?_|(refine wB (fun h=>?_) (fun h=>?_)<;>first|exact wN h|subst (h:(_:Bool)=_)|skip)|(refine wQ ?_;clear hQ hR)|refine wC c1 ?_|refine wS c2 ?_|(refine AC.callK 40 (by omega) (by first|omega|exact wF|((refine no_implicit_lambda% (st ?_);try with_reducible exact wT);omega)) (zam (F:=cd107) (hH.has _ _ rfl) (Nat.le_of_ble_eq_true rfl) fun Q hQ hR=>?_);dsimp only[cd107,qm,ql,qf,qi,qb,qc,qp,qv,qN,qT,qF,qt]at hQ ⊢;try (refine no_implicit_lambda% (st ?_);try with_reducible exact wT))|fail)
     all_goals first|(refine ⟨k+1,by omega,⟨by omega, ?_⟩,by omega⟩;rw[←hg,if_neg (by simp[*])];done)|skip
     all_goals (rw[if_pos ⟨by assumption,rfl⟩]at hg;rw[←hg]at hW;dsimp only at hW)
     all_goals (first|rw[if_pos ⟨by assumption,by assumption⟩]at hW|rw[if_neg (fun hh=>absurd hh.1 (by assumption))]at hW|rw[if_neg (fun hh=>absurd hh.2 (by assumption))]at hW)
     all_goals (subst hW;refine ⟨[],trivial, ?_⟩;simp only[swS,stW,Wk.c];(refine no_implicit_lambda% (st ?_);try with_reducible exact wT);(try simp[AskR.c,Join.c]))
    ·rw[List.drop_eq_nil_of_le hge,zaU]at hg
     (repeat' first|refine zaa [0,1,2,3,4,5,8,9,10,11,12,13,17,18,19,20,23,32,49] fun K hK=>?_|(refine hK.go ?_;clear hK K)|with_reducible exact wT|refine wA ?_|(refine wB (fun h=>?_) (fun h=>?_)<;>first|exact wN h|subst (h:(_:Bool)=_)|skip)|(refine wQ ?_;clear hQ hR)|fail)
     rw[←hg]at hW
     dsimp only at hW
     subst hW
     refine ⟨[],trivial, ?_⟩;simp only[swS,stW,Wk.c];(refine no_implicit_lambda% (st ?_);try with_reducible exact wT);(try simp)
  ·have hW':W=⟨inn,asks,outs,true⟩:=by rw[←hW,if_neg hin];split<;>simp_all
   clear hW
   refine za7 (F:=cd102) (hH.has _ _ rfl) rfl (Nat.le_of_ble_eq_true rfl) fun Q hQ hR=>?_;have hE:=hH.callable;dsimp only[cd102,qm,ql,qf,qi,qb,qc,qp,qv,qN,qT,qF,qt]at hQ ⊢
   skip
   unfold stW
   (refine no_implicit_lambda% (st ?_);try with_reducible exact wT)
   (repeat' first|refine zaa [0,1,2,3,4,5,8,9,10,11,12,13,17,18,19,20,23,32,49] fun K hK=>?_|(refine hK.go ?_;clear hK K)|with_reducible exact wT|refine wA ?_|(refine wB (fun h=>?_) (fun h=>?_)<;>first|exact wN h|subst (h:(_:Bool)=_)|skip)|(refine wQ ?_;clear hQ hR)|(refine AC.callK 30 (by omega) (by first|omega|exact wF|((refine no_implicit_lambda% (st ?_);try with_reducible exact wT);omega)) (zam (F:=cd130) (hH.has _ _ rfl) (Nat.le_of_ble_eq_true rfl) fun Q hQ hR=>?_);dsimp only[cd130,qm,ql,qf,qi,qb,qc,qp,qv,qN,qT,qF,qt]at hQ ⊢;try (refine no_implicit_lambda% (st ?_);try with_reducible exact wT))|(refine AC.callK 40 (by omega) (by first|omega|exact wF|((refine no_implicit_lambda% (st ?_);try with_reducible exact wT);omega)) (zam (F:=cd107) (hH.has _ _ rfl) (Nat.le_of_ble_eq_true rfl) fun Q hQ hR=>?_);dsimp only[cd107,qm,ql,qf,qi,qb,qc,qp,qv,qN,qT,qF,qt]at hQ ⊢;try (refine no_implicit_lambda% (st ?_);try with_reducible exact wT))|refine wS c0 ?_|fail)
   all_goals first|(exfalso;contradiction)|skip
   all_goals (refine zae (ι:=Nat) [0,1,2,3,8,17,18,19] (fun z=>[(19,.n z)]) (fun _=>[]) (fun z=>z) (0) (fun _=>True) (0) ?_;rintro k ⟨hk,-⟩;(try dsimp only at hk ⊢);rcases Nat.lt_or_ge k 0 with hlt|hge)
   all_goals first|(exfalso;omega)|skip
   all_goals (repeat' first|refine zaa [0,1,2,3,4,5,8,9,10,11,12,13,17,18,19,20,23,32,49] fun K hK=>?_|(refine hK.go ?_;clear hK K)|with_reducible exact wT|refine wA ?_|(refine wB (fun h=>?_) (fun h=>?_)<;>first|exact wN h|subst (h:(_:Bool)=_)|skip)|(refine wQ ?_;clear hQ hR)|fail)
   all_goals (subst hW';refine ⟨[],trivial, ?_⟩;simp only[swS,stW,Wk.c];(refine no_implicit_lambda% (st ?_);try with_reducible exact wT);(try simp))
end Go.Lev
namespace Go.Lev
open Go.Eng
set_option maxRecDepth 10000
set_option maxHeartbeats 4000000
variable {P:Program} {inv:Nat→Option Nat} {w0:World} {M:Nat→Prop}
abbrev WayR:=Go.Eng.Way
def zjU (x:Sgn):Join→List Section→Join
 |j,[]=>j
 |j,s::r=>zjU x (if s.id=x.sec then nth s.ends x.ed.toNat else j) r
def zd8 (p:Pln) (r:Rte) (y:Sgn) (all:List Int) (i:Nat) (s:Int) (w:Wk):Wk :=
 if (i:Int)=(r.path.length:Int)-1∧r.exit=0 then zaC p w s i fun _ j=>decide (j=⟨0,0⟩)
 else if (i:Int)=(r.path.length:Int)-1 then zaC p w s i fun e _=>decide (s=y.sec)&&decide (e=y.ed)
 else if (i:Int)=(all.length:Int)-1 then zd0 p w s i
 else zaC p w s i fun _ j=>decide (j.to=nth all (i+1))
def zbD (p:Pln) (r:Rte) (y:Sgn) (all:List Int):Nat→Wk→List Int→Wk
 |_,w,[]=>w
 |i,w,s::l=>zbD p r y all (i+1) (zd8 p r y all i s w) l
def zgd:List AskR→List Flk→List AskR
 |l,[]=>l
 |l,f::r=>zgd (ziG f.pnt f.lie (-1) l) r
def zg1 (p:Pln) (r:Rte):Wk:=zbD p r (sig p r.exit) (r.path++r.over) 0 ⟨zjU (sig p r.entry) ⟨0,0⟩ p.sections,[],[],false⟩ (r.path++r.over)
def zai (p:Pln) (r:Rte):WayR×List Join×Int :=
 if (zg1 p r).lost=true then (⟨[],[],[],0⟩,[],90) else (⟨r.path,r.over,zgd (zg1 p r).asks r.flanks,(sig p r.entry).sec⟩,(zg1 p r).outs,0)
theorem zkb (a b c:Int) (l:List AskR):(ziG a b c l).length≤l.length+1:=by unfold ziG;split<;>simp
theorem zdd (p:Pln) (w:Wk) (s i:Int) (R:Int→Join→Bool):(zaC p w s i R).asks.length≤w.asks.length+1∧(zaC p w s i R).outs.length≤w.outs.length+1:=by
 unfold zaC
 split
 ·omega
 ·split
  ·dsimp only;omega
  ·split
   ·dsimp only;omega
   ·refine ⟨zkb _ _ _ _,by simp⟩
theorem zkh (p:Pln) (w:Wk) (s i:Int):(zd0 p w s i).asks.length≤w.asks.length+1∧(zd0 p w s i).outs.length≤w.outs.length+1:=by
 unfold zd0
 split
 ·dsimp only;omega
 ·split
  ·refine ⟨zkb _ _ _ _,by simp⟩
  ·omega
def zml (p:Pln) (r:Rte):Prop:=∀ s∈p.sections,s.id=(sig p r.entry).sec→0≤(sig p r.entry).ed∧(sig p r.entry).ed<s.ends.length
theorem dropRow {n N:Nat} {φ:List (Nat×AV)} {σ:List (Nat×AO)} {c:ACode} {Q:Exit→List (Nat×AV)→List (Nat×AO)→Prop} (l:Nat) (h:AWp P inv w0 M N n c Q φ (ziP σ l)):AWp P inv w0 M N n c Q φ σ:=by
 have hsd:∀ l' o,zaF (ziP σ l) l'=some o→zaF σ l'=some o:=by
  intro l' o e
  rw[zfi]at e
  split at e
  ·cases e
  ·exact e
 intro c₀ hc β a w hs
 have hd:=fun N=>hs.mem.drop hsd N
 have hs':St inv w0 M n φ (ziP σ l) β a w:=⟨⟨fun i=>(hd (zaQ φ)).2.rel (zaL _ (zbM φ i)) (hs.slots i),(hd 0).1⟩,hs.size,hs.defers⟩
 exact Code.wp_mono (fun _ _ _ ⟨φ2,σ2,β2,q2,hst2,hext2⟩=>⟨φ2,σ2,β2,q2,hst2,(hd N).2.trans hext2⟩) (h c₀ hc β a w hs')
theorem zl8 (hH:HasAll P inv) (p:Pln) (hp:Sm p) (r:Rte) (hr:r.path.length≤1000∧r.over.length≤1000∧r.flanks.length≤1000) (he:zml p r):PC P inv 90 [.agg p.c,.agg r.c] (·=.tup [.agg (zai p r).1.c,.sl 2 ((zai p r).2.1.map Join.c),.n (zai p r).2.2]):=by
 have c1:=zkm hH p hp r.entry
 have c2:=zkm hH p hp r.exit
 have c3:=zk7 hH [r.path,r.over] (by simp) (by simp[lens];omega)
 have hl:=hp.sec
 have hall:∃ all,all=r.path++r.over:=⟨_,rfl⟩
 obtain ⟨all,hall⟩:=hall
 have hal:all.length≤2000∧r.path.length≤all.length:=by rw[hall];simp;omega
 rw[show [r.path,r.over].flatten=all by rw[hall];simp]at c3
 obtain ⟨ans,ha⟩:∃ ans,ans=zai p r:=⟨_,rfl⟩
 rw[←ha]
 unfold zai zg1 at ha
 rw[←hall]at ha
 unfold zml at he
 revert ha he c1 c2
 generalize sig p r.entry=x
 generalize sig p r.exit=y
 intro he c1 c2 ha
 refine PC.fn hH cd90 fun w0 M Q hM hE hQ hR=>?_;dsimp only[cd90,qm,ql,qf,qi,qb,qc,qp,qv,qN,qT,qF,qt]at hQ ⊢
 (repeat' first|refine zaa [0,1,2,3,4,5,6,7,8,9,11,12,13,14,16,29,30,31,32,39,56,57,58,59,68,84,96,110,113,114,115,116] fun K hK=>?_|(refine hK.go ?_;clear hK K)|with_reducible exact wT|refine wA ?_|(refine wB (fun h=>?_) (fun h=>?_)<;>first|exact wN h|subst (h:(_:Bool)=_)|skip)|(refine wQ ?_;clear hQ hR hE hM)|refine wU c1 ?_|refine wU c2 ?_|fail)
 refine zae (ι:=Nat×Join) [3,4,5,6,7,8,9,29,30,31] (fun z=>[(31,.n z.1)]) (fun z=>[(5,.cells [.n p.version,.n p.parent,.sl 3 (p.sections.map Section.c),.sl 2 (p.points.map Pnt.c),.sl 3 (p.signals.map Sgn.c),.sl 7 (p.routes.map Rte.c),.n z.2.to,.n z.2.ed,.s0 3,.s0 2,.b false] true)]) (fun z=>z.1) (p.sections.length) (fun z=>(zjU x z.2 (p.sections.drop z.1)=zjU x ⟨0,0⟩ p.sections)) (0,(⟨0,0⟩:Join)) ?_;rintro ⟨k,j⟩ ⟨hk,hg⟩;(try dsimp only at hk hg ⊢);rcases Nat.lt_or_ge k p.sections.length with hlt|hge
 ·rw[zaf hlt]at hg
  rw[zjU]at hg
  have hx:=he _ (zab hlt)
  by_cases hid:(nth p.sections k).id=x.sec
  ·have hx':=hx hid
   rw[if_pos hid]at hg
   (repeat' first|refine zaa [0,1,2,3,4,5,6,7,8,9,11,12,13,14,16,29,30,31,32,39,56,57,58,59,68,84,96,110,113,114,115,116] fun K hK=>?_|(refine hK.go ?_;clear hK K)|with_reducible exact wT|refine wA ?_|(refine wB (fun h=>?_) (fun h=>?_)<;>first|exact wN h|subst (h:(_:Bool)=_)|skip)|(refine wQ ?_;clear hQ hR hE hM)|fail)
   exact nY (k+1,nth (nth p.sections k).ends x.ed.toNat) ⟨by (try dsimp only);omega,hg⟩
  ·rw[if_neg hid]at hg
   (repeat' first|refine zaa [0,1,2,3,4,5,6,7,8,9,11,12,13,14,16,29,30,31,32,39,56,57,58,59,68,84,96,110,113,114,115,116] fun K hK=>?_|(refine hK.go ?_;clear hK K)|with_reducible exact wT|refine wA ?_|(refine wB (fun h=>?_) (fun h=>?_)<;>first|exact wN h|subst (h:(_:Bool)=_)|skip)|(refine wQ ?_;clear hQ hR hE hM)|fail)
   exact nY (k+1,j) ⟨by (try dsimp only);omega,hg⟩
 ·rw[List.drop_eq_nil_of_le hge,zjU]at hg
  subst hg
  (repeat' first|refine zaa [0,1,2,3,4,5,6,7,8,9,11,12,13,14,16,29,30,31,32,39,56,57,58,59,68,84,96,110,113,114,115,116] fun K hK=>?_|(refine hK.go ?_;clear hK K)|with_reducible exact wT|refine wA ?_|(refine wB (fun h=>?_) (fun h=>?_)<;>first|exact wN h|subst (h:(_:Bool)=_)|skip)|(refine wQ ?_;clear hQ hR hE hM)|refine wC c3 ?_|fail)
  refine zbW 5 8 20 3 rfl rfl (by omega) (by (refine no_implicit_lambda% (st ?_);try with_reducible exact wT)) (by (refine no_implicit_lambda% (st ?_);try with_reducible exact wT)) ?_
  refine zbW 5 9 21 2 rfl rfl (by omega) (by (refine no_implicit_lambda% (st ?_);try with_reducible exact wT)) (by (refine no_implicit_lambda% (st ?_);try with_reducible exact wT)) ?_
  refine dropRow 0 ?_
  (refine no_implicit_lambda% (st ?_);try with_reducible exact wT)
  generalize hw0:(⟨zjU x ⟨0,0⟩ p.sections,[],[],false⟩:Wk)=W0 at ha
  have e0:W0.asks=[]∧W0.outs=[]∧W0.lost=false∧W0.inn=zjU x ⟨0,0⟩ p.sections:=by rw[←hw0];simp
  rw[←e0.2.2.2]
  clear hw0
  obtain ⟨inn0,as0,os0,l0⟩:=W0
  dsimp only at e0
  obtain ⟨rfl,rfl,rfl,e0⟩:=e0
  clear e0
  refine zae (ι:=Nat×Wk×Bool×Bool) [3,4,5,6,7,8,9,12,56,57,58] (fun z=>[(58,.n z.1)]) (fun z=>[(5,.cells (z.2.1.c p) true),(20,.cells (z.2.1.asks.map AskR.c).flatten z.2.2.1),(21,.cells (z.2.1.outs.map Join.c).flatten z.2.2.2)]) (fun z=>z.1) (all.length) (fun z=>(zbD p r y all z.1 z.2.1 (all.drop z.1)=zbD p r y all 0 ⟨inn0,[],[],false⟩ all)∧(z.2.1.asks.length≤z.1∧z.2.1.outs.length≤z.1)) (0,(⟨inn0,[],[],false⟩:Wk),false,false) ?_;rintro ⟨k,w,ba,bo⟩ ⟨hk,hg,hx⟩;(try dsimp only at hk hg hx ⊢);rcases Nat.lt_or_ge k all.length with hlt|hge
  ·rw[zaf hlt]at hg
   rw[zbD,zd8]at hg
   have hx1:w.asks.length≤1000000:=by omega
   have hx2:w.outs.length≤1000000:=by omega
   by_cases hk1:(k:Int)=(r.path.length:Int)-1
   ·by_cases hk2:r.exit=0
    ·rw[if_pos ⟨hk1,hk2⟩]at hg
     have hlen:=zdd p w (nth all k) k (fun _ j=>decide (j=⟨0,0⟩))
     (have hX:=@stW.eq_1;(repeat' first|refine zaa [0,1,2,3,4,5,6,7,8,9,11,12,13,14,16,29,30,31,32,39,56,57,58,59,68,84,96,110,113,114,115,116] fun K hK=>?_|(refine hK.go ?_;clear hK K)|with_reducible exact wT|refine wA ?_|(refine wB (fun h=>?_) (fun h=>?_)<;>first|exact wN h|subst (h:(_:Bool)=_)|skip)|(refine wQ ?_;clear hQ hR hE hM)|(refine zeI 30 (zlv hH hM p hp r x y w all (k:Int) (nth all k) ba bo hx1 hx2) (by omega) (by first|omega|exact wF|((refine no_implicit_lambda% (st ?_);try with_reducible exact wT);omega)) ?_;try (refine no_implicit_lambda% (st ?_);try with_reducible exact wT))|fail);all_goals clear hX)
     generalize (zaC p w (nth all k) k (fun _ j=>decide (j=⟨0,0⟩)))=W' at hg hlen ⊢
     exact ⟨(k+1,W',_,_),by dsimp only;omega,⟨by dsimp only;omega,hg,by dsimp only;omega⟩,by dsimp only;omega,rfl,rfl,rfl⟩
    ·rw[if_neg (fun h=>hk2 h.2),if_pos hk1]at hg
     have hlen:=zdd p w (nth all k) k (fun e _=>decide (nth all k=y.sec)&&decide (e=y.ed))
     (have hX:=@stW.eq_1;(repeat' first|refine zaa [0,1,2,3,4,5,6,7,8,9,11,12,13,14,16,29,30,31,32,39,56,57,58,59,68,84,96,110,113,114,115,116] fun K hK=>?_|(refine hK.go ?_;clear hK K)|with_reducible exact wT|refine wA ?_|(refine wB (fun h=>?_) (fun h=>?_)<;>first|exact wN h|subst (h:(_:Bool)=_)|skip)|(refine wQ ?_;clear hQ hR hE hM)|(refine zeI 30 (zlu hH hM p hp r x y w all (k:Int) (nth all k) ba bo hx1 hx2) (by omega) (by first|omega|exact wF|((refine no_implicit_lambda% (st ?_);try with_reducible exact wT);omega)) ?_;try (refine no_implicit_lambda% (st ?_);try with_reducible exact wT))|fail);all_goals clear hX)
     generalize (zaC p w (nth all k) k (fun e _=>decide (nth all k=y.sec)&&decide (e=y.ed)))=W' at hg hlen ⊢
     exact ⟨(k+1,W',_,_),by dsimp only;omega,⟨by dsimp only;omega,hg,by dsimp only;omega⟩,by dsimp only;omega,rfl,rfl,rfl⟩
   ·by_cases hk3:(k:Int)=(all.length:Int)-1
    ·rw[if_neg (fun h=>hk1 h.1),if_neg hk1,if_pos hk3]at hg
     have hlen:=zkh p w (nth all k) k
     (have hX:=@stW.eq_1;(repeat' first|refine zaa [0,1,2,3,4,5,6,7,8,9,11,12,13,14,16,29,30,31,32,39,56,57,58,59,68,84,96,110,113,114,115,116] fun K hK=>?_|(refine hK.go ?_;clear hK K)|with_reducible exact wT|refine wA ?_|(refine wB (fun h=>?_) (fun h=>?_)<;>first|exact wN h|subst (h:(_:Bool)=_)|skip)|(refine wQ ?_;clear hQ hR hE hM)|(refine zeI 30 (stay_ac hH hM p hp r x y w all (k:Int) (nth all k) ba bo hx1) (by omega) (by first|omega|exact wF|((refine no_implicit_lambda% (st ?_);try with_reducible exact wT);omega)) ?_;try (refine no_implicit_lambda% (st ?_);try with_reducible exact wT))|fail);all_goals clear hX)
     generalize (zd0 p w (nth all k) k)=W' at hg hlen ⊢
     exact ⟨(k+1,W',_,_),by dsimp only;omega,⟨by dsimp only;omega,hg,by dsimp only;omega⟩,by dsimp only;omega,rfl,rfl,rfl⟩
    ·rw[if_neg (fun h=>hk1 h.1),if_neg hk1,if_neg hk3]at hg
     have hlen:=zdd p w (nth all k) k (fun _ j=>decide (j.to=nth all (k+1)))
     (have hX:=@stW.eq_1;(repeat' first|refine zaa [0,1,2,3,4,5,6,7,8,9,11,12,13,14,16,29,30,31,32,39,56,57,58,59,68,84,96,110,113,114,115,116] fun K hK=>?_|(refine hK.go ?_;clear hK K)|with_reducible exact wT|refine wA ?_|(refine wB (fun h=>?_) (fun h=>?_)<;>first|exact wN h|subst (h:(_:Bool)=_)|skip)|(refine wQ ?_;clear hQ hR hE hM)|(refine zeI 30 (zlt hH hM p hp r x y w all k (nth all k) ba bo hx1 hx2 (by omega) (by omega)) (by omega) (by first|omega|exact wF|((refine no_implicit_lambda% (st ?_);try with_reducible exact wT);omega)) ?_;try (refine no_implicit_lambda% (st ?_);try with_reducible exact wT))|fail);all_goals clear hX)
     generalize (zaC p w (nth all k) k (fun _ j=>decide (j.to=nth all (k+1))))=W' at hg hlen ⊢
     exact ⟨(k+1,W',_,_),by dsimp only;omega,⟨by dsimp only;omega,hg,by dsimp only;omega⟩,by dsimp only;omega,rfl,rfl,rfl⟩
  ·rw[List.drop_eq_nil_of_le hge,zbD]at hg
   rw[←hg]at ha
   clear hg
   obtain ⟨inn,asks,outs,lost⟩:=w
   dsimp only at ha hx ⊢
   cases lost with
   |true =>
    rw[if_pos rfl]at ha
    subst ha
    (repeat' first|refine zaa [0,1,2,3,4,5,6,7,8,9,11,12,13,14,16,29,30,31,32,39,56,57,58,59,68,84,96,110,113,114,115,116] fun K hK=>?_|(refine hK.go ?_;clear hK K)|with_reducible exact wT|refine wA ?_|(refine wB (fun h=>?_) (fun h=>?_)<;>first|exact wN h|subst (h:(_:Bool)=_)|skip)|(refine wQ ?_;clear hQ hR hE hM)|fail)
    all_goals first|(exfalso;contradiction)|skip
   |false =>
    rw[if_neg (by simp)]at ha
    (repeat' first|refine zaa [0,1,2,3,4,5,6,7,8,9,11,12,13,14,16,29,30,31,32,39,56,57,58,59,68,84,96,110,113,114,115,116] fun K hK=>?_|(refine hK.go ?_;clear hK K)|with_reducible exact wT|refine wA ?_|(refine wB (fun h=>?_) (fun h=>?_)<;>first|exact wN h|subst (h:(_:Bool)=_)|skip)|(refine wQ ?_;clear hQ hR hE hM)|fail)
    all_goals first|(exfalso;contradiction)|skip
    skip
    refine zae (ι:=Nat×(List AskR)×Bool) [3,4,5,6,7,9,113,114,115] (fun z=>[(115,.n z.1)]) (fun z=>[(5,.cells (Wk.c p ⟨inn,z.2.1,outs,false⟩) true),(20,.cells (z.2.1.map AskR.c).flatten z.2.2)]) (fun z=>z.1) (r.flanks.length) (fun z=>(zgd z.2.1 (r.flanks.drop z.1)=zgd asks r.flanks)∧(z.2.1.length≤2000+z.1)) (0,asks,ba) ?_;rintro ⟨k2,l,b2⟩ ⟨hk,hg,hx2⟩;(try dsimp only at hk hg hx2 ⊢);rcases Nat.lt_or_ge k2 r.flanks.length with hlt|hge
    ·rw[zaf (by assumption),zgd,ziG]at hg
     (repeat' first|refine zaa [0,1,2,3,4,5,6,7,8,9,11,12,13,14,16,29,30,31,32,39,56,57,58,59,68,84,96,110,113,114,115,116] fun K hK=>?_|(refine hK.go ?_;clear hK K)|with_reducible exact wT|refine wA ?_|(refine wB (fun h=>?_) (fun h=>?_)<;>first|exact wN h|subst (h:(_:Bool)=_)|skip)|(refine wQ ?_;clear hQ hR)|(refine AC.callK 40 (by omega) (by first|omega|exact wF|((refine no_implicit_lambda% (st ?_);try with_reducible exact wT);omega)) (zam (F:=cd107) (hH.has _ _ rfl) (Nat.le_of_ble_eq_true rfl) fun Q hQ hR=>?_);dsimp only[cd107,qm,ql,qf,qi,qb,qc,qp,qv,qN,qT,qF,qt]at hQ ⊢;try (refine no_implicit_lambda% (st ?_);try with_reducible exact wT))|fail)
     ·rw[if_pos ⟨by assumption,by assumption⟩]at hg
      exact nY (k2+1,l++[⟨(nth r.flanks k2).pnt,(nth r.flanks k2).lie,-1⟩],true) ⟨by (try dsimp only);omega,hg,by (try dsimp only);simp;omega⟩
     all_goals (first|rw[if_neg (fun hh=>absurd hh.2 (by assumption))]at hg|rw[if_neg (fun hh=>absurd hh.1 (by assumption))]at hg)
     all_goals (exact nY (k2+1,l,b2) ⟨by (try dsimp only);omega,hg,by (try dsimp only);omega⟩)
    ·rw[List.drop_eq_nil_of_le (by assumption),zgd]at hg
     (repeat' first|refine zaa [0,1,2,3,4,5,6,7,8,9,11,12,13,14,16,29,30,31,32,39,56,57,58,59,68,84,96,110,113,114,115,116] fun K hK=>?_|(refine hK.go ?_;clear hK K)|with_reducible exact wT|refine wA ?_|(refine wB (fun h=>?_) (fun h=>?_)<;>first|exact wN h|subst (h:(_:Bool)=_)|skip)|(refine wQ ?_;clear hQ hR)|(refine zaA hM (zie hH r.path (by omega)) ?_;try (refine no_implicit_lambda% (st ?_);try with_reducible exact wT))|(refine zaA hM (zie hH r.over (by omega)) ?_;try (refine no_implicit_lambda% (st ?_);try with_reducible exact wT))|fail)
     rw[ha,←hg]
end Go.Lev
namespace Go.Lev
open Go.Eng
set_option maxRecDepth 10000
set_option maxHeartbeats 4000000
variable {P:Program} {inv:Nat→Option Nat} {w0:World} {M:Nat→Prop}
structure OkP (p:Pln):Prop where
 sec:zb8 p.sections=true
 pts:points p=true
 sgn:signals p (ends p.sections)=true
 rise:rise (p.routes.map Rte.id) 16=true
 rte:∀ r∈p.routes,zcT p r (ends p.sections)=true
theorem zhH {p:Pln} (h:zbY p=true):OkP p:=by
 simp only[zbY,Bool.and_eq_true,List.all_eq_true]at h
 exact ⟨h.1.2.2.2.2,h.2.1,h.2.2.1,h.2.2.2.1,h.2.2.2.2⟩
theorem zjo (n:Int):∀ (l:List Sgn) (o:Sgn),zns n o l=o∨zns n o l∈l
 |[],o=>.inl rfl
 |x::r,o=>by
  rw[zns]
  split
  ·rcases zjo n r x with h|h
   ·right;rw[h];simp
   ·right;simp[h]
  ·rcases zjo n r o with h|h
   ·left;exact h
   ·right;simp[h]
theorem zi2 {p:Pln} (h:OkP p) (r:Rte):zml p r:=by
 intro s hs he
 have h1:=zbj h.sec s hs
 rcases zjo r.entry p.signals Sgn.z with h2|h2
 ·have:sig p r.entry=Sgn.z:=h2
  rw[this]at he
  have:Sgn.z.sec=0:=rfl
  omega
 ·have h3:sig p r.entry∈p.signals:=h2
  have h4:=h.sgn
  simp only[signals,Bool.and_eq_true]at h4
  have h5:=zg8 _ _ _ h4.2 _ h3
  rw[←he,zh8 h.sec hs]at h5
  exact h5.2
theorem ze2 {p:Pln} (h:OkP p) {r:Rte} (hr:r∈p.routes):1≤r.path.length∧r.path.length≤6∧r.over.length≤2∧r.flanks.length≤3:=by
 have h1:=h.rte r hr
 simp only[zcT,zf3,Bool.and_eq_true,Bool.not_eq_true',decide_eq_false_iff_not]at h1
 omega
def WayR.z:WayR:=⟨[],[],[],0⟩
def ofW (p:Pln) (n:Int):WayR×Int:=if zbY p=true then (match p.routes.find? fun x=>decide (x.id=n) with|some r=>((zai p r).1,(zai p r).2.2)|none=>(WayR.z,6)) else (WayR.z,8)
theorem wayOf_pc (hH:HasAll P inv) (p:Pln) (hp:Sm p) (h:OkP p) {r:Rte} (hr:r∈p.routes):PC P inv 90 [.agg p.c,.agg r.c] (·=.tup [.agg (zai p r).1.c,.sl 2 ((zai p r).2.1.map Join.c),.n (zai p r).2.2]) :=
 zl8 hH p hp r (by have:=ze2 h hr;omega) (zi2 h r)
end Go.Lev
namespace Go.Lev
open Go.Eng
set_option maxRecDepth 10000
set_option maxHeartbeats 4000000
variable {P:Program} {inv:Nat→Option Nat} {w0:World} {M:Nat→Prop}
def jls (l:List Join):List AV:=[.sl 2 (l.map Join.c)]
instance:Cells jls 1:=⟨fun _=>rfl,fun _=>rfl⟩
def allG (p:Pln):List Rte→List WayR→List (List Join)→List WayR×List (List Join)×Int
 |[],ws,os=>(ws,os,0)
 |r::l,ws,os=>if (zai p r).2.2=0 then allG p l (ws++[(zai p r).1]) (os++[(zai p r).2.1]) else ([],[],(zai p r).2.2)
def allW (p:Pln):List WayR×List (List Join)×Int:=if zbY p=true then allG p p.routes [] [] else ([],[],8)
theorem all_pc (hH:HasAll P inv) (hI:HasIds P inv) (p:Pln) (hp:Sm p):PC P inv 82 [.agg p.c] (·=.tup [.sl 4 ((allW p).1.map Way.c),.sl 1 ((allW p).2.1.map jls),.n (allW p).2.2]):=by
 have hlr:=hp.rte
 have c0:=zkF hH hI p hp
 unfold allW zdi at *
 cases ho:zbY p with
 |false =>
  rw[ho,if_neg (by simp)]at c0
  rw[if_neg (by simp)]
  refine PC.fn hH cd82 fun w0 M Q hM hE hQ hR=>?_;dsimp only[cd82,qm,ql,qf,qi,qb,qc,qp,qv,qN,qT,qF,qt]at hQ ⊢
  (repeat' first|refine zaa [0,1,2,3,4,6,7,8,9,13,15,16,17,18,29] fun K hK=>?_|(refine hK.go ?_;clear hK K)|with_reducible exact wT|refine wA ?_|(refine wB (fun h=>?_) (fun h=>?_)<;>first|exact wN h|subst (h:(_:Bool)=_)|skip)|(refine wQ ?_;clear hQ hR hE hM)|refine wC c0 ?_|fail)
 |true =>
  rw[ho,if_pos rfl]at c0
  rw[if_pos rfl]
  have hok:=zhH ho
  clear ho
  obtain ⟨ans,ha⟩:∃ ans,ans=allG p p.routes [] []:=⟨_,rfl⟩
  rw[←ha]
  refine PC.fn hH cd82 fun w0 M Q hM hE hQ hR=>?_;dsimp only[cd82,qm,ql,qf,qi,qb,qc,qp,qv,qN,qT,qF,qt]at hQ ⊢
  (repeat' first|refine zaa [0,1,2,3,4,6,7,8,9,13,15,16,17,18,29] fun K hK=>?_|(refine hK.go ?_;clear hK K)|with_reducible exact wT|refine wA ?_|(refine wB (fun h=>?_) (fun h=>?_)<;>first|exact wN h|subst (h:(_:Bool)=_)|skip)|(refine wQ ?_;clear hQ hR hE hM)|refine wC c0 ?_|fail)
  refine AWp.empty 2 10 4 rfl (Nat.zero_le _) (by (refine no_implicit_lambda% (st ?_);try with_reducible exact wT)) (by (refine no_implicit_lambda% (st ?_);try with_reducible exact wT)) ?_
  refine AWp.empty 3 11 1 rfl (Nat.zero_le _) (by (refine no_implicit_lambda% (st ?_);try with_reducible exact wT)) (by (refine no_implicit_lambda% (st ?_);try with_reducible exact wT)) ?_
  refine zae (ι:=Nat×(List WayR)×(List (List Join))×Bool×Bool) [1,2,3,4,15,16,17] (fun z=>[(2,.sm 10 (z.2.1.length*4) 0 z.2.1.length 4),(3,.sm 11 z.2.2.1.length 0 z.2.2.1.length 1),(17,.n z.1)]) (fun z=>[(10,.cells (z.2.1.map Way.c).flatten z.2.2.2.1),(11,.cells (z.2.2.1.map jls).flatten z.2.2.2.2)]) (fun z=>z.1) (p.routes.length) (fun z=>(allG p (p.routes.drop z.1) z.2.1 z.2.2.1=ans)∧(z.2.1.length≤z.1∧z.2.2.1.length≤z.1)) (0,[],[],false,false) ?_;rintro ⟨k,ws,os,b1,b2⟩ ⟨hk,hg,hx⟩;(try dsimp only at hk hg hx ⊢);rcases Nat.lt_or_ge k p.routes.length with hlt|hge
  ·rw[zaf hlt]at hg
   rw[allG]at hg
   have c1:=wayOf_pc hH p hp hok (zab hlt)
   generalize zai p (nth p.routes k)=W at c1 hg
   (repeat' first|refine zaa [0,1,2,3,4,6,7,8,9,13,15,16,17,18,29] fun K hK=>?_|(refine hK.go ?_;clear hK K)|with_reducible exact wT|refine wA ?_|(refine wB (fun h=>?_) (fun h=>?_)<;>first|exact wN h|subst (h:(_:Bool)=_)|skip)|(refine wQ ?_;clear hQ hR hE hM)|refine wC c1 ?_|fail)
   ·rw[if_neg (by assumption)]at hg
    rw[←hg]
    rfl
   ·rw[if_pos (by assumption)]at hg
    exact nY (k+1,ws++[W.1],os++[W.2.1],true,true) ⟨by (try dsimp only);omega,hg,by (try dsimp only);simp;omega⟩
  ·rw[List.drop_eq_nil_of_le hge,allG]at hg
   (repeat' first|refine zaa [0,1,2,3,4,6,7,8,9,13,15,16,17,18,29] fun K hK=>?_|(refine hK.go ?_;clear hK K)|with_reducible exact wT|refine wA ?_|(refine wB (fun h=>?_) (fun h=>?_)<;>first|exact wN h|subst (h:(_:Bool)=_)|skip)|(refine wQ ?_;clear hQ hR hE hM)|fail)
   all_goals (rw[←hg])
end Go.Lev
namespace Go.Lev
open Go.Eng
theorem zd6 {p:Pln} {w:Wk} {s i:Int} {R:Int→Join→Bool} (h:(zaC p w s i R).lost=false):w.lost=false∧w.outs.length+1=(zaC p w s i R).outs.length:=by
 unfold zaC at h ⊢
 split
 ·rename_i h1;rw[if_pos h1,h1]at h;cases h
 ·rename_i h1
  rw[if_neg h1]at h
  split
  ·rename_i h2;rw[h2]at h;cases h
  ·rename_i s' h2
   rw[h2]at h
   dsimp only at h
   split
   ·rename_i h3;rw[h3]at h;cases h
   ·refine ⟨by simpa using h1,by simp⟩
theorem zou {p:Pln} {w:Wk} {s i:Int} (h:(zd0 p w s i).lost=false):w.lost=false∧w.outs.length=(zd0 p w s i).outs.length:=by
 unfold zd0 at h ⊢
 split
 ·rename_i h2;rw[h2]at h;cases h
 ·rename_i s' h2
  rw[h2]at h
  dsimp only at h
  split
  ·rename_i h3;exact ⟨h3.1,rfl⟩
  ·rename_i h3;rw[if_neg h3]at h;exact ⟨h,rfl⟩
theorem zos {p:Pln} {r:Rte} {y:Sgn} {all:List Int} {i:Nat} {s:Int} {w:Wk} (hl:r.path.length≤all.length) (h:(zd8 p r y all i s w).lost=false):w.lost=false∧w.outs.length≤(zd8 p r y all i s w).outs.length∧(i<r.path.length→w.outs.length+1≤(zd8 p r y all i s w).outs.length):=by
 unfold zd8 at h ⊢
 split
 ·rename_i h1;rw[if_pos h1]at h;have:=zd6 h;exact ⟨this.1,by omega,fun _=>by omega⟩
 ·rename_i h1
  rw[if_neg h1]at h
  split
  ·rename_i h2;rw[if_pos h2]at h;have:=zd6 h;exact ⟨this.1,by omega,fun _=>by omega⟩
  ·rename_i h2
   rw[if_neg h2]at h
   split
   ·rename_i h3;rw[if_pos h3]at h;have:=zou h;exact ⟨this.1,by omega,fun _=>by omega⟩
   ·rename_i h3;rw[if_neg h3]at h;have:=zd6 h;exact ⟨this.1,by omega,fun _=>by omega⟩
theorem ziK {p:Pln} {r:Rte} {y:Sgn} {all:List Int} (hl:r.path.length≤all.length):∀ (l:List Int) (i:Nat) (w:Wk),i+l.length=all.length→(zbD p r y all i w l).lost=false→w.lost=false∧w.outs.length+(r.path.length-i)≤(zbD p r y all i w l).outs.length
 |[],i,w,hi,h=>by
  rw[zbD]at h ⊢
  simp only[List.length_nil]at hi
  exact ⟨h,by omega⟩
 |s::l,i,w,hi,h=>by
  rw[zbD]at h ⊢
  simp only[List.length_cons]at hi
  have h1:=ziK hl l (i+1) _ (by omega) h
  have h2:=zos hl h1.1
  refine ⟨h2.1, ?_⟩
  have h3:=h2.2.2
  have h4:=h2.2.1
  omega
theorem znm {p:Pln} {r:Rte} (h:(zai p r).2.2=0):r.path.length≤(zai p r).2.1.length:=by
 unfold zai at h ⊢
 split
 ·rename_i h1;rw[if_pos h1]at h;cases h
 ·rename_i h1
  have h2:(zg1 p r).lost=false:=by simpa using h1
  have:=(ziK (by simp) _ _ _ (by simp) h2).2
  dsimp only at this ⊢
  unfold zg1
  simp only[List.length_nil]at this
  omega
theorem zon (p:Pln) (r:Rte):(zai p r).2.2=0∨(zai p r).2.2=90:=by unfold zai;split<;>simp
theorem zbT {p:Pln} {r:Rte} (h:(zai p r).2.2=0):(zai p r).1.path=r.path∧(zai p r).1.over=r.over∧(zai p r).1.near=(sig p r.entry).sec:=by
 unfold zai at h ⊢
 split
 ·rename_i h1;rw[if_pos h1]at h;cases h
 ·exact ⟨rfl,rfl,rfl⟩
def zoe (p:Pln) (a:AskR):Prop:=((∃ s∈p.sections,s.pt=a.pnt)∨(∃ x∈p.points,x.id=a.pnt))∧0<a.pnt∧(a.lie=1∨a.lie=2)
theorem zme {p:Pln} {pt lie pos:Int} {l:List AskR} (hl:∀ a∈l,zoe p a) (h:0<pt∧0<lie→((∃ s∈p.sections,s.pt=pt)∨(∃ x∈p.points,x.id=pt))∧(lie=1∨lie=2)):∀ a∈ziG pt lie pos l,zoe p a:=by
 unfold ziG
 split
 ·rename_i hc
  intro a ha
  rcases List.mem_append.1 ha with ha|ha
  ·exact hl a ha
  ·simp only[List.mem_singleton]at ha
   subst ha
   exact ⟨(h hc).1,hc.1,(h hc).2⟩
 ·exact hl
end Go.Lev
namespace Go.Lev
open Go.Eng
set_option maxRecDepth 10000
set_option maxHeartbeats 4000000
variable {P:Program} {inv:Nat→Option Nat} {w0:World} {M:Nat→Prop}
def zkK:List Bool→List AskR→Bool
 |_,[]=>true
 |m,a::r=>!nth m a.pnt.toNat&&zkK (m.set a.pnt.toNat true) r
def once (l:List AskR):Bool:=zkK (List.replicate 100 false) l
theorem once_pc (hH:HasAll P inv) (l:List AskR) (hl:l.length≤1000000) (h:∀ a∈l,0≤a.pnt∧a.pnt≤99):PC P inv 83 [.sl 3 (l.map AskR.c)] (·=.b (once l)):=by
 refine PC.fn hH cd83 fun w0 M Q hM hE hQ hR=>?_;dsimp only[cd83,qm,ql,qf,qi,qb,qc,qp,qv,qN,qT,qF,qt]at hQ ⊢
 (repeat' first|refine zaa [0,2,3,5,6,7,8,9,15] fun K hK=>?_|(refine hK.go ?_;clear hK K)|with_reducible exact wT|refine wA ?_|(refine wB (fun h=>?_) (fun h=>?_)<;>first|exact wN h|subst (h:(_:Bool)=_)|skip)|(refine wQ ?_;clear hQ hR hE hM)|fail)
 refine zae (ι:=Nat×(List Bool)) [2,3,6,7,8] (fun z=>[(8,.n z.1)]) (fun z=>[(0,.cells (z.2.map AV.b) true)]) (fun z=>z.1) (l.length) (fun z=>(z.2.length=100)∧(zkK z.2 (l.drop z.1)=once l)) (0,List.replicate 100 false) ?_;rintro ⟨k,m⟩ ⟨hk,hp,hg⟩;(try dsimp only at hk hp hg ⊢);rcases Nat.lt_or_ge k l.length with hlt|hge
 ·rw[zaf hlt]at hg
  rw[zkK]at hg
  have hb:=h _ (zab hlt)
  (have hX:=@hp;(repeat' first|refine zaa [0,2,3,5,6,7,8,9,15] fun K hK=>?_|(refine hK.go ?_;clear hK K)|with_reducible exact wT|refine wA ?_|(refine wB (fun h=>?_) (fun h=>?_)<;>first|exact wN h|subst (h:(_:Bool)=_)|skip)|(refine wQ ?_;clear hQ hR hE hM)|fail);all_goals clear hX)
  ·rw[←hg];simp[*]
  ·exact nY (k+1,m.set (nth l k).pnt.toNat true) ⟨by (try dsimp only);omega,by (try dsimp only);simp[hp],by (try dsimp only);rw[←hg];simp[*]⟩
 ·rw[List.drop_eq_nil_of_le hge,zkK]at hg
  (have hX:=@hp;(repeat' first|refine zaa [0,2,3,5,6,7,8,9,15] fun K hK=>?_|(refine hK.go ?_;clear hK K)|with_reducible exact wT|refine wA ?_|(refine wB (fun h=>?_) (fun h=>?_)<;>first|exact wN h|subst (h:(_:Bool)=_)|skip)|(refine wQ ?_;clear hQ hR hE hM)|fail);all_goals clear hX)
  rw[←hg]
def zhb (r:Rte) (i:Int) (j:Join) (x:Sgn):Bool:=decide (x.sec=j.to)&&(decide (x.ed=j.ed)&&(decide (i<(r.path.length:Int)-1)||!decide (x.id=r.exit)))
def zfM (p:Pln) (r:Rte):Int→List Join→Bool
 |_,[]=>true
 |i,j::l=>!p.signals.any (zhb r i j)&&zfM p r (i+1) l
def zgh (p:Pln) (r:Rte) (outs:List Join):Bool:=zfM p r 0 (outs.take r.path.length)
theorem clear_pc (hH:HasAll P inv) (p:Pln) (hp:Sm p) (r:Rte) (outs:List Join) (h1:r.path.length≤outs.length) (h2:outs.length≤1000000):PC P inv 84 [.agg p.c,.agg r.c,.sl 2 (outs.map Join.c)] (·=.b (zgh p r outs)):=by
 have hls:=hp.sgn
 obtain ⟨l,hl⟩:∃ l,l=outs.take r.path.length:=⟨_,rfl⟩
 have hll:l.length=r.path.length:=by rw[hl];simp;omega
 have hlm:(outs.map Join.c).take r.path.length=l.map Join.c:=by rw[hl,List.map_take]
 unfold zgh
 rw[←hl]
 clear hl
 have hlm':(outs.map Join.c).take (r.path.length:Int).toNat=l.map Join.c:=hlm
 refine PC.fn hH cd84 fun w0 M Q hM hE hQ hR=>?_;dsimp only[cd84,qm,ql,qf,qi,qb,qc,qp,qv,qN,qT,qF,qt]at hQ ⊢
 (have hX:=zA @Int.toNat_natCast (zA @hlm @hlm');(repeat' first|refine zaa [0,1,2,3,4,6,7,8,10,15,16,17,18,23,24,25,26,55] fun K hK=>?_|(refine hK.go ?_;clear hK K)|with_reducible exact wT|refine wA ?_|(refine wB (fun h=>?_) (fun h=>?_)<;>first|exact wN h|subst (h:(_:Bool)=_)|skip)|(refine wQ ?_;clear hQ hR hE hM)|fail);all_goals clear hX)
 refine zae (ι:=Nat) [3,4,6,15,16,17] (fun z=>[(17,.n z)]) (fun _=>[]) (fun z=>z) (l.length) (fun z=>(zfM p r z (l.drop z)=zfM p r 0 l)) (0) ?_;rintro k ⟨hk,hg⟩;(try dsimp only at hk hg ⊢);rcases Nat.lt_or_ge k l.length with hlt|hge
 ·rw[zaf hlt]at hg
  rw[zfM]at hg
  generalize hj:nth l k=j at hg
  (have hX:=@hj;(repeat' first|refine zaa [0,1,2,3,4,6,7,8,10,15,16,17,18,23,24,25,26,55] fun K hK=>?_|(refine hK.go ?_;clear hK K)|with_reducible exact wT|refine wA ?_|(refine wB (fun h=>?_) (fun h=>?_)<;>first|exact wN h|subst (h:(_:Bool)=_)|skip)|(refine wQ ?_;clear hQ hR hE hM)|fail);all_goals clear hX)
  refine zae (ι:=Nat) [3,4,6,7,8,15,16,17,23,24,25] (fun z=>[(25,.n z)]) (fun _=>[]) (fun z=>z) (p.signals.length) (fun z=>(((p.signals.drop z).any (zhb r k j))=p.signals.any (zhb r k j))) (0) ?_;rintro m ⟨hk,hg2⟩;(try dsimp only at hk hg2 ⊢);rcases Nat.lt_or_ge m p.signals.length with hlt|hge
  ·rw[zaf (by assumption),List.any_cons]at hg2
   (repeat' first|refine zaa [0,1,2,3,4,6,7,8,10,15,16,17,18,23,24,25,26,55] fun K hK=>?_|(refine hK.go ?_;clear hK K)|with_reducible exact wT|refine wA ?_|(refine wB (fun h=>?_) (fun h=>?_)<;>first|exact wN h|subst (h:(_:Bool)=_)|skip)|(refine wQ ?_;clear hQ hR hE hM)|fail)
   all_goals first
    |(rw[show zhb r k j (nth p.signals m)=true by simp[zhb, *],Bool.true_or]at hg2;rw[←hg,←hg2];rfl)
    |(rw[show zhb r k j (nth p.signals m)=false by simp[zhb, *],Bool.false_or]at hg2;exact ⟨m+1,by omega,⟨by omega,hg2⟩,by omega⟩)
  ·rw[List.drop_eq_nil_of_le (by assumption),List.any_nil]at hg2
   (repeat' first|refine zaa [0,1,2,3,4,6,7,8,10,15,16,17,18,23,24,25,26,55] fun K hK=>?_|(refine hK.go ?_;clear hK K)|with_reducible exact wT|refine wA ?_|(refine wB (fun h=>?_) (fun h=>?_)<;>first|exact wN h|subst (h:(_:Bool)=_)|skip)|(refine wQ ?_;clear hQ hR hE hM)|fail)
   rw[←hg2,Bool.not_false,Bool.true_and]at hg
   exact ⟨k+1,by omega,⟨by omega,by rw[←hg];rfl⟩,by omega⟩
 ·rw[List.drop_eq_nil_of_le hge,zfM]at hg
  (repeat' first|refine zaa [0,1,2,3,4,6,7,8,10,15,16,17,18,23,24,25,26,55] fun K hK=>?_|(refine hK.go ?_;clear hK K)|with_reducible exact wT|refine wA ?_|(refine wB (fun h=>?_) (fun h=>?_)<;>first|exact wN h|subst (h:(_:Bool)=_)|skip)|(refine wQ ?_;clear hQ hR hE hM)|fail)
  rw[←hg]
def zqK (p:Pln):Bool:=p.routes.all fun r=>decide ((zai p r).2.2=0)
theorem zlk (p:Pln):∀ (l:List Rte) (ws:List WayR) (os:List (List Join)),allG p l ws os=if (l.all fun r=>decide ((zai p r).2.2=0))=true then (ws++l.map fun r=>(zai p r).1,os++l.map fun r=>(zai p r).2.1,0) else ([],[],90)
 |[],ws,os=>by simp[allG]
 |r::l,ws,os=>by
  rw[allG,zlk p l]
  rcases zon p r with h|h
  ·rw[if_pos h];simp[h]
  ·rw[if_neg (by omega),h];simp[h]
theorem zlj (p:Pln):allW p=if zbY p=true then (if zqK p=true then (p.routes.map fun r=>(zai p r).1,p.routes.map fun r=>(zai p r).2.1,0) else ([],[],90)) else ([],[],8):=by
 unfold allW zqK
 rw[zlk]
 simp
def zbA (p:Pln) (r:Rte):Bool:=once (zai p r).1.asks&&zgh p r (zai p r).2.1
def za5 (p:Pln):Bool:=zbY p&&(zqK p&&p.routes.all (zbA p))
def zbs (p:Pln):Int:=if za5 p=true then 0 else 100
end Go.Lev
namespace Go.Lev
open Go.Eng
theorem zku {s:Section} {f t:Int} (h:(zbc s f t).2=0):0≤(zbc s f t).1∧(zbc s f t).1≤2:=by
 unfold zbc at h ⊢
 split
 ·rename_i h1
  rw[if_pos h1]at h
  split
  ·rename_i h2;rw[if_pos h2]at h;simp at h
  ·rename_i h2
   dsimp only
   refine ⟨by omega, ?_⟩
   unfold zhx
   repeat' split
   all_goals omega
 ·rename_i h1;rw[if_neg h1]at h;simp at h
theorem joinEd {l:List Section} (h:zb8 l=true) {s:Section} (hs:s∈l) {j:Join} (hj:j∈s.ends):0≤j.ed∧j.ed≤2:=by
 have h1:=(zgt l).1 h
 obtain ⟨i,hi,rfl⟩:=List.mem_iff_getElem.1 hj
 rw[←zaW hi]
 rcases h1.join s hs i hi with h2|⟨_,h3,s',hs',_,h4,_⟩
 ·omega
 ·have:=(zbj h s' hs').2.2.2.2
  omega
theorem zgv {s:Section} {f:Int} {R:Int→Join→Bool}:∀ {l:List Join} {e:Nat} {v:Nat×Join×Int},zaU s f R e l=some v→v.2.1∈l∧0≤v.2.2∧v.2.2≤2
 |[],e,v,h=>by simp[zaU]at h
 |j::r,e,v,h=>by
  rw[zaU]at h
  split at h
  ·rename_i h1
   simp only[Option.some.injEq]at h
   subst h
   exact ⟨by simp,zku h1.1⟩
  ·have:=zgv h
   exact ⟨by simp[this.1],this.2⟩
theorem zkr {p:Pln} {w:Wk} {id:Int} {s:Section} (h:zgE p w id=some s):s∈p.sections:=by
 unfold zgE at h
 split at h
 ·exact List.mem_of_find?_eq_some h
 ·cases h
def WkOK (p:Pln) (w:Wk):Prop:=(0≤w.inn.ed∧w.inn.ed≤2)∧∀ a∈w.asks,zoe p a
theorem zls {p:Pln} (h:OkP p) {w:Wk} {s i:Int} {R:Int→Join→Bool} (hw:WkOK p w):WkOK p (zaC p w s i R):=by
 unfold zaC
 split
 ·exact hw
 ·split
  ·exact hw
  ·rename_i t ht
   have hs:=zkr ht
   split
   ·exact hw
   ·rename_i e j lie hp
    have:=zgv hp
    dsimp only at this
    exact ⟨joinEd h.sec hs this.1,zme hw.2 fun hc=>⟨.inl ⟨t,hs,rfl⟩,by omega⟩⟩
theorem stayW_ok {p:Pln} {w:Wk} {s i:Int} (hw:WkOK p w):WkOK p (zd0 p w s i):=by
 unfold zd0
 split
 ·exact hw
 ·rename_i t ht
  have hs:=zkr ht
  split
  ·exact ⟨hw.1,zme hw.2 fun hc=>⟨.inl ⟨t,hs,rfl⟩,by have:=hw.1;omega⟩⟩
  ·exact hw
theorem zkf {p:Pln} (h:OkP p) {r:Rte} {y:Sgn} {all:List Int}:∀ (l:List Int) (i:Nat) (w:Wk),WkOK p w→WkOK p (zbD p r y all i w l)
 |[],_,_,hw=>hw
 |s::l,i,w,hw=>by
  rw[zbD]
  refine zkf h l _ _ ?_
  unfold zd8
  repeat' split
  all_goals first|exact zls h hw|exact stayW_ok hw
theorem zpO {p:Pln} (h:OkP p) {x:Sgn} (he:∀ s∈p.sections,s.id=x.sec→0≤x.ed∧x.ed<s.ends.length):∀ (l:List Section) (j:Join),(∀ s∈l,s∈p.sections)→(0≤j.ed∧j.ed≤2)→0≤(zjU x j l).ed∧(zjU x j l).ed≤2
 |[],_,_,hj=>hj
 |s::l,j,hl,hj=>by
  rw[zjU]
  refine zpO h he l _ (fun t ht=>hl t (by simp[ht])) ?_
  split
  ·rename_i hid
   have:=he s (hl s (by simp)) hid
   exact joinEd h.sec (hl s (by simp)) (zab (by omega))
  ·exact hj
theorem zm3 {p:Pln}:∀ (f:List Flk) (l:List AskR),(∀ a∈l,zoe p a)→(∀ x∈f,(∃ y∈p.points,y.id=x.pnt)∧(x.lie=1∨x.lie=2))→∀ a∈zgd l f,zoe p a
 |[],l,hl,_=>hl
 |x::f,l,hl,hf=>by
  rw[zgd]
  refine zm3 f _ (zme hl fun _=>?_) fun y hy=>hf y (by simp[hy])
  have:=hf x (by simp)
  exact ⟨.inr this.1,this.2⟩
theorem znn {p:Pln} (h:OkP p) {r:Rte} (hr:r∈p.routes):∀ a∈(zai p r).1.asks,zoe p a:=by
 unfold zai
 split
 ·simp
 ·have h0:WkOK p (zg1 p r):=by
   unfold zg1
   exact zkf h _ _ _ ⟨zpO h (zi2 h r) _ _ (fun _ hs=>hs) (by simp),by simp⟩
  have h1:=h.rte r hr
  simp only[zcT,Bool.and_eq_true]at h1
  exact zm3 _ _ h0.2 (zm4 _ _ _ h1.2.2.2.2)
theorem zet:∀ (l:List Section) (a:List Int) (m:Int),(zlo a m l).2=m+((l.filter fun s=>decide (0<s.pt)).length:Int)
 |[],a,m=>by simp[zlo]
 |s::r,a,m=>by
  rw[zlo]
  split
  ·rename_i h1;rw[zet r,List.filter_cons_of_pos (by simpa using h1),List.length_cons];omega
  ·rename_i h1;rw[zet r,List.filter_cons_of_neg (by simpa using h1)]
theorem zjE:∀ (l:List Section) (a:List Int) (m:Int) (i:Nat),(∀ s∈l,s.pt≤99)→a.length=100→nth (zlo a m l).1 i=nth a i∨∃ s∈l,0<s.pt∧s.pt.toNat=i∧s.id=nth (zlo a m l).1 i
 |[],a,m,i,_,_=>.inl rfl
 |s::r,a,m,i,hl,ha=>by
  rw[zlo]
  have hs:=hl s (by simp)
  split
  ·rename_i h1
   rcases zjE r (a.set s.pt.toNat s.id) (m+1) i (fun t ht=>hl t (by simp[ht])) (by simpa using ha) with h2|⟨t,ht,h3⟩
   ·rw[h2,zbk _ _ _ _ (by omega)]
    by_cases h4:i=s.pt.toNat
    ·rw[if_pos h4];exact .inr ⟨s,by simp,h1,h4.symm,rfl⟩
    ·rw[if_neg h4];exact .inl rfl
   ·exact .inr ⟨t,by simp[ht],h3⟩
  ·rcases zjE r a m i (fun t ht=>hl t (by simp[ht])) ha with h2|⟨t,ht,h3⟩
   ·exact .inl h2
   ·exact .inr ⟨t,by simp[ht],h3⟩
theorem zjI {l1:List Int}:∀ {l2:List Int},l1.Nodup→(∀ x∈l1,x∈l2)→l1.length≤l2.length:=by
 induction l1 with
 |nil=>intro l2 _ _;simp
 |cons x l ih =>
  intro l2 hn hs
  simp only[List.nodup_cons]at hn
  have hx:=hs x (by simp)
  have:=ih (l2:=l2.erase x) hn.2 fun y hy=>(List.mem_erase_of_ne (by intro e;subst e;exact hn.1 hy)).2 (hs y (by simp[hy]))
  rw[List.length_erase_of_mem hx]at this
  have:=List.length_pos_of_mem hx
  simp only[List.length_cons]
  omega
theorem pigeon {l1 l2:List Int} (h1:l1.Nodup) (hs:∀ x∈l1,x∈l2) (hl:l2.length≤l1.length):∀ y∈l2,y∈l1:=by
 intro y hy
 rcases Classical.em (y∈l1) with h|h
 ·exact h
 ·exfalso
  have:=zjI (l1:=y::l1) (l2:=l2) (by simp[h,h1]) (by simp;exact ⟨hy,hs⟩)
  simp only[List.length_cons]at this
  omega
theorem zjv {l:List Int} {m:Int} (h:rise l m=true):l.Nodup:=zex ((zdg l m).1 h).2.1
theorem zo3 {p:Pln} (h:OkP p) {x:Pnt} (hx:x∈p.points):∃ s∈p.sections,0<s.pt∧s.pt=x.id∧s.id=x.sec:=by
 have hp:=h.pts
 simp only[points,Bool.and_eq_true,decide_eq_true_eq,Bool.not_eq_true']at hp
 have hr:=((zdg _ _).1 hp.1).1 x.id (List.mem_map_of_mem hx)
 have hb:=(List.any_eq_false.1 hp.2.2) x hx
 simp only[zjF,Bool.or_eq_true,decide_eq_true_eq,Bool.not_eq_true',decide_eq_false_iff_not,not_or]at hb
 have h1:=zbj h.sec
 rcases zjE p.sections (List.replicate 100 0) 0 x.id.toNat (fun s hs=>by have:=h1 s hs;omega) (by simp) with h2|⟨s,hs,h3,h4,h5⟩
 ·exfalso
  have h6:nth (pts p.sections).1 x.id.toNat=0:=by unfold pts;rw[h2,zdq _ _ _ (by omega)]
  have h7:nth (pts p.sections).1 x.id.toNat=x.sec:=by
   rcases Classical.em (nth (pts p.sections).1 x.id.toNat=x.sec) with h8|h8
   ·exact h8
   ·exact absurd h8 hb.2
  omega
 ·have h7:nth (pts p.sections).1 x.id.toNat=x.sec:=by
   rcases Classical.em (nth (pts p.sections).1 x.id.toNat=x.sec) with h8|h8
   ·exact h8
   ·exact absurd h8 hb.2
  exact ⟨s,hs,h3,by have:=h1 s hs;omega,by rw[h5];exact h7⟩
theorem sec_pts {p:Pln} (h:OkP p) {s:Section} (hs:s∈p.sections) (h0:0<s.pt):∃ x∈p.points,x.id=s.pt:=by
 have hp:=h.pts
 simp only[points,Bool.and_eq_true,decide_eq_true_eq,Bool.not_eq_true']at hp
 have hc:(pts p.sections).2=((p.sections.filter fun s=>decide (0<s.pt)).length:Int):=by unfold pts;rw[zet];omega
 have:=pigeon (l1:=p.points.map Pnt.id) (l2:=(p.sections.filter fun s=>decide (0<s.pt)).map Section.pt) (zjv hp.1) (fun i hi=>by
  obtain ⟨x,hx,rfl⟩:=List.mem_map.1 hi
  obtain ⟨t,ht,h3,h4,h5⟩:=zo3 h hx
  exact List.mem_map.2 ⟨t,List.mem_filter.2 ⟨ht,by simpa using h3⟩,h4⟩) (by simp only[List.length_map];have:=hp.2.1;omega) s.pt (List.mem_map.2 ⟨s,List.mem_filter.2 ⟨hs,by simpa using h0⟩,rfl⟩)
 obtain ⟨x,hx,e⟩:=List.mem_map.1 this
 exact ⟨x,hx,e⟩
theorem zbI {p:Pln} (h:OkP p) {r:Rte} (hr:r∈p.routes) {a:AskR} (ha:a∈(zai p r).1.asks):(∃ x∈p.points,x.id=a.pnt)∧(1≤a.pnt∧a.pnt≤99)∧(a.lie=1∨a.lie=2):=by
 have h1:=znn h hr a ha
 have h2:∃ x∈p.points,x.id=a.pnt:=by
  rcases h1.1 with ⟨s,hs,e⟩|h3
  ·rw[←e];exact sec_pts h hs (by rw[e];exact h1.2.1)
  ·exact h3
 refine ⟨h2, ?_,h1.2.2⟩
 obtain ⟨x,hx,e⟩:=h2
 have hp:=h.pts
 simp only[points,Bool.and_eq_true]at hp
 have:=((zdg _ _).1 hp.1).1 x.id (List.mem_map_of_mem hx)
 omega
theorem zcW {p:Pln} (h:OkP p) {r:Rte} (hr:r∈p.routes):(∀ n∈r.path++r.over,∃ s∈p.sections,s.id=n)∧(r.path++r.over).Nodup:=by
 have h1:=h.rte r hr
 simp only[zcT,zhj,Bool.and_eq_true]at h1
 have h2:=(zjM _ _ _ (by simp)).1 h1.2.2.2.1
 exact ⟨fun n hn=>(zd7 h.sec n).1 (h2.1 n hn).1,h2.2⟩
theorem zcc {p:Pln} (h:OkP p) {s:Section} (hs:s∈p.sections):1≤s.id∧s.id≤99:=by have:=zbj h.sec s hs;omega
end Go.Lev
namespace Go.Lev
open Go.Eng
set_option maxRecDepth 10000
set_option maxHeartbeats 4000000
variable {P:Program} {inv:Nat→Option Nat} {w0:World} {M:Nat→Prop}
theorem nthm {α β:Type} [Inhabited α] [Inhabited β] (f:α→β) {l:List α} {i:Nat} (h:i<l.length):nth (l.map f) i=f (nth l i):=by
 rw[zaW (by simpa using h),zaW h];simp
theorem zot (p:Pln) (r:Rte) (y:Sgn) (all:List Int) (i:Nat) (s:Int) (w:Wk):(zd8 p r y all i s w).asks.length≤w.asks.length+1∧(zd8 p r y all i s w).outs.length≤w.outs.length+1:=by
 unfold zd8
 repeat' split
 all_goals first|exact zdd _ _ _ _ _|exact zkh _ _ _ _
theorem ziL (p:Pln) (r:Rte) (y:Sgn) (all:List Int):∀ (l:List Int) (i:Nat) (w:Wk),(zbD p r y all i w l).asks.length≤w.asks.length+l.length∧(zbD p r y all i w l).outs.length≤w.outs.length+l.length
 |[],_,_=>⟨Nat.le_refl _,Nat.le_refl _⟩
 |s::l,i,w=>by
  rw[zbD]
  have h1:=ziL p r y all l (i+1) (zd8 p r y all i s w)
  have h2:=zot p r y all i s w
  simp only[List.length_cons]
  omega
theorem zkS:∀ (f:List Flk) (l:List AskR),(zgd l f).length≤l.length+f.length
 |[],l=>Nat.le_refl _
 |x::f,l=>by
  rw[zgd]
  have h1:=zkS f (ziG x.pnt x.lie (-1) l)
  have h2:=zkb x.pnt x.lie (-1) l
  simp only[List.length_cons]
  omega
theorem zbC {p:Pln} (h:OkP p) {r:Rte} (hr:r∈p.routes):(zai p r).1.asks.length≤1000∧(zai p r).2.1.length≤1000∧(zai p r).1.path.length≤1000∧(zai p r).1.over.length≤1000:=by
 have hl:=ze2 h hr
 unfold zai
 split
 ·simp
 ·unfold zg1
  have h1:=ziL p r (sig p r.exit) (r.path++r.over) (r.path++r.over) 0 ⟨zjU (sig p r.entry) ⟨0,0⟩ p.sections,[],[],false⟩
  have h2:=zkS r.flanks (zbD p r (sig p r.exit) (r.path++r.over) 0 ⟨zjU (sig p r.entry) ⟨0,0⟩ p.sections,[],[],false⟩ (r.path++r.over)).asks
  simp only[List.length_append,List.length_nil]at h1 h2
  dsimp only
  omega
theorem zdI (hH:HasAll P inv) (hI:HasIds P inv) (p:Pln) (hp:Sm p):PC P inv 70 [.agg p.c] (·=.n (zbs p)):=by
 have hlr:=hp.rte
 have c0:=all_pc hH hI p hp
 have hs:=zlj p
 unfold zbs za5
 cases ho:zbY p with
 |false =>
  rw[ho,if_neg (by simp)]at hs
  rw[hs]at c0
  rw[Bool.false_and,if_neg (by simp)]
  refine PC.fn hH cd70 fun w0 M Q hM hE hQ hR=>?_;dsimp only[cd70,qm,ql,qf,qi,qb,qc,qp,qv,qN,qT,qF,qt]at hQ ⊢
  (repeat' first|refine zaa [0,1,2,3,4,5,6,7,15,17,18,19,20,29,38,40] fun K hK=>?_|(refine hK.go ?_;clear hK K)|with_reducible exact wT|refine wA ?_|(refine wB (fun h=>?_) (fun h=>?_)<;>first|exact wN h|subst (h:(_:Bool)=_)|skip)|(refine wQ ?_;clear hQ hR hE hM)|refine wC c0 ?_|fail)
  all_goals first|rfl|(exfalso;contradiction)
 |true =>
  have hok:=zhH ho
  rw[ho,if_pos rfl]at hs
  cases ha:zqK p with
  |false =>
   rw[ha,if_neg (by simp)]at hs
   rw[hs]at c0
   rw[Bool.false_and,Bool.true_and,if_neg (by simp)]
   refine PC.fn hH cd70 fun w0 M Q hM hE hQ hR=>?_;dsimp only[cd70,qm,ql,qf,qi,qb,qc,qp,qv,qN,qT,qF,qt]at hQ ⊢
   (repeat' first|refine zaa [0,1,2,3,4,5,6,7,15,17,18,19,20,29,38,40] fun K hK=>?_|(refine hK.go ?_;clear hK K)|with_reducible exact wT|refine wA ?_|(refine wB (fun h=>?_) (fun h=>?_)<;>first|exact wN h|subst (h:(_:Bool)=_)|skip)|(refine wQ ?_;clear hQ hR hE hM)|refine wC c0 ?_|fail)
   all_goals first|rfl|(exfalso;contradiction)
  |true =>
   rw[ha,if_pos rfl]at hs
   rw[hs]at c0
   rw[Bool.true_and,Bool.true_and]
   dsimp only at c0
   clear hs
   obtain ⟨WS,hWS⟩:∃ WS,WS=p.routes.map fun r=>(zai p r).1:=⟨_,rfl⟩
   obtain ⟨OS,hOS⟩:∃ OS,OS=p.routes.map fun r=>(zai p r).2.1:=⟨_,rfl⟩
   rw[←hWS,←hOS]at c0
   have hl1:WS.length=p.routes.length:=by rw[hWS,List.length_map]
   have hl2:OS.length=p.routes.length:=by rw[hOS,List.length_map]
   refine PC.fn hH cd70 fun w0 M Q hM hE hQ hR=>?_;dsimp only[cd70,qm,ql,qf,qi,qb,qc,qp,qv,qN,qT,qF,qt]at hQ ⊢
   (repeat' first|refine zaa [0,1,2,3,4,5,6,7,15,17,18,19,20,29,38,40] fun K hK=>?_|(refine hK.go ?_;clear hK K)|with_reducible exact wT|refine wA ?_|(refine wB (fun h=>?_) (fun h=>?_)<;>first|exact wN h|subst (h:(_:Bool)=_)|skip)|(refine wQ ?_;clear hQ hR hE hM)|refine wC c0 ?_|fail)
   all_goals first|(exfalso;contradiction)|skip
   refine zae (ι:=Nat) [1,2,3,4,17,18,19] (fun z=>[(19,.n z)]) (fun _=>[]) (fun z=>z) (p.routes.length) (fun z=>(((p.routes.drop z).all (zbA p))=(p.routes.all (zbA p)))) (0) ?_;rintro k ⟨hk,hg⟩;(try dsimp only at hk hg ⊢);rcases Nat.lt_or_ge k p.routes.length with hlt|hge
   ·rw[zaf hlt]at hg
    rw[List.all_cons]at hg
    have hm:=zab hlt
    have hwl:=zbC hok hm
    have hw:(zai p (nth p.routes k)).2.2=0:=by
     have:=(List.all_eq_true.1 ha) _ hm
     simpa using this
    have hwo:=znm hw
    have c1:=once_pc hH (zai p (nth p.routes k)).1.asks (by omega) (fun a h=>by have:=zbI hok hm h;omega)
    have c2:=clear_pc hH p hp (nth p.routes k) (zai p (nth p.routes k)).2.1 hwo (by omega)
    have e1:nth WS k=(zai p (nth p.routes k)).1:=by rw[hWS];exact nthm (fun r=>(zai p r).1) hlt
    have e2:nth OS k=(zai p (nth p.routes k)).2.1:=by rw[hOS];exact nthm (fun r=>(zai p r).2.1) hlt
    unfold zbA at hg
    revert c1 c2 hg
    generalize hA:once (zai p (nth p.routes k)).1.asks=A
    generalize hB:zgh p (nth p.routes k) (zai p (nth p.routes k)).2.1=B
    intro hg c1 c2
    (have hX:=zA @e1 (zA @e2 @jls.eq_1);(repeat' first|refine zaa [0,1,2,3,4,5,6,7,15,17,18,19,20,29,38,40] fun K hK=>?_|(refine hK.go ?_;clear hK K)|with_reducible exact wT|refine wA ?_|(refine wB (fun h=>?_) (fun h=>?_)<;>first|exact wN h|subst (h:(_:Bool)=_)|skip)|(refine wQ ?_;clear hQ hR hE hM)|refine wC c1 ?_|refine wC c2 ?_|fail);all_goals clear hX)
    all_goals first
     |(rw[if_neg];intro hh;unfold zbA at hh;rw[←hg]at hh;simp at hh;done)
     |(exact ⟨k+1,by omega,⟨by omega,by unfold zbA;rw[←hg];simp⟩,by omega⟩)
   ·rw[List.drop_eq_nil_of_le hge,List.all_nil]at hg
    (repeat' first|refine zaa [0,1,2,3,4,5,6,7,15,17,18,19,20,29,38,40] fun K hK=>?_|(refine hK.go ?_;clear hK K)|with_reducible exact wT|refine wA ?_|(refine wB (fun h=>?_) (fun h=>?_)<;>first|exact wN h|subst (h:(_:Bool)=_)|skip)|(refine wQ ?_;clear hQ hR hE hM)|fail)
    rw[←hg,if_pos rfl]
end Go.Lev
namespace Go.Lev
open Go.Eng
def zlA:Sh:=.st [.i .i64,.i .u8]
def zjp:Sh:=.st [.i .i64,.i .i64,.i .i64]
def zoB:Sh:=.st [.i .i64,.i .u8,.i .i64,.i .i64]
def zlB:Sh:=.st [.s 2 zlA,.s 3 zjp,.s 4 zoB]
def U8 (x:Int):Prop:=0≤x∧x≤255
def Track.ok (t:Track):Prop:=I64 t.id∧U8 t.is
def Switch.ok (t:Switch):Prop:=I64 t.id∧I64 t.lie∧I64 t.call
def Lock.ok (t:Lock):Prop:=I64 t.id∧U8 t.phase∧I64 t.gone∧I64 t.left
def State.ok (s:State):Prop:=(s.tracks.length≤maxLen∧∀ t∈s.tracks,t.ok)∧(s.switches.length≤maxLen∧∀ t∈s.switches,t.ok)∧(s.locks.length≤maxLen∧∀ t∈s.locks,t.ok)
theorem of_track (d:D) (h:Sh.ok zlA d):∃ t:Track,Sh.av zlA d=t.c∧t.ok:=by
 obtain ⟨l,rfl,h⟩:=zhJ h
 obtain ⟨d1,l,rfl,h1,h⟩:=zaN h
 obtain ⟨d2,l,rfl,h2,h⟩:=zaN h
 obtain rfl:=zee h
 obtain ⟨a,rfl,ha⟩:=zby h1
 obtain ⟨b,rfl,hb⟩:=of_u8 h2
 exact ⟨⟨a,b⟩,rfl,ha,hb⟩
theorem zpf (d:D) (h:Sh.ok zjp d):∃ t:Switch,Sh.av zjp d=t.c∧t.ok:=by
 obtain ⟨l,rfl,h⟩:=zhJ h
 obtain ⟨d1,l,rfl,h1,h⟩:=zaN h
 obtain ⟨d2,l,rfl,h2,h⟩:=zaN h
 obtain ⟨d3,l,rfl,h3,h⟩:=zaN h
 obtain rfl:=zee h
 obtain ⟨a,rfl,ha⟩:=zby h1
 obtain ⟨b,rfl,hb⟩:=zby h2
 obtain ⟨c,rfl,hc⟩:=zby h3
 exact ⟨⟨a,b,c⟩,rfl,ha,hb,hc⟩
theorem of_lock (d:D) (h:Sh.ok zoB d):∃ t:Lock,Sh.av zoB d=t.c∧t.ok:=by
 obtain ⟨l,rfl,h⟩:=zhJ h
 obtain ⟨d1,l,rfl,h1,h⟩:=zaN h
 obtain ⟨d2,l,rfl,h2,h⟩:=zaN h
 obtain ⟨d3,l,rfl,h3,h⟩:=zaN h
 obtain ⟨d4,l,rfl,h4,h⟩:=zaN h
 obtain rfl:=zee h
 obtain ⟨a,rfl,ha⟩:=zby h1
 obtain ⟨b,rfl,hb⟩:=of_u8 h2
 obtain ⟨c,rfl,hc⟩:=zby h3
 obtain ⟨e,rfl,he⟩:=zby h4
 exact ⟨⟨a,b,c,e⟩,rfl,ha,hb,hc,he⟩
theorem arg_state {d:D} (h:Sh.ok zlB d):∃ s:State,Sh.arg zlB d=.agg s.c∧s.ok:=by
 obtain ⟨l,rfl,h⟩:=zhJ h
 obtain ⟨d1,l,rfl,h1,h⟩:=zaN h
 obtain ⟨d2,l,rfl,h2,h⟩:=zaN h
 obtain ⟨d3,l,rfl,h3,h⟩:=zaN h
 obtain rfl:=zee h
 obtain ⟨l1,rfl,m1,h1⟩:=of_s h1
 obtain ⟨l2,rfl,m2,h2⟩:=of_s h2
 obtain ⟨l3,rfl,m3,h3⟩:=of_s h3
 obtain ⟨t1,e1,f1,g1⟩:=zeY of_track l1 h1
 obtain ⟨t2,e2,f2,g2⟩:=zeY zpf l2 h2
 obtain ⟨t3,e3,f3,g3⟩:=zeY of_lock l3 h3
 refine ⟨⟨t1,t2,t3⟩, ?_,⟨by simpa [f1] using m1,g1⟩,⟨by simpa [f2] using m2,g2⟩,⟨by simpa [f3] using m3,g3⟩⟩
 simp only[Sh.arg,Sh.av,zdb,zlB,e1,e2,e3,State.c,List.cons_append,List.nil_append]
end Go.Lev
namespace Go.Lev
open Go.Eng
set_option maxRecDepth 10000
set_option maxHeartbeats 4000000
variable {P:Program} {inv:Nat→Option Nat} {w0:World} {M:Nat→Prop}
def zeS (x:Track) (y:Section):Bool:=decide (x.id=y.id)&&decide (x.is≤2)
def zfz (n:Int):Bool:=decide (0≤n)&&decide (n≤2)
def zfY (x:Switch) (y:Pnt):Bool:=decide (x.id=y.id)&&(zfz x.lie&&zfz x.call)
def zcz (l:Lock) (x:Rte):Bool :=
 if l.phase=0∨l.phase=1 then decide (l.gone=0)&&decide (l.left=0)
 else if l.phase=2 then decide (0≤l.gone)&&(decide (l.gone≤(x.path.length:Int)-1)&&decide (l.left=0))
 else if l.phase=3 then decide (l.gone=(x.path.length:Int)-1)&&(decide (1≤l.left)&&decide (l.left≤x.timer))
 else if l.phase=4 then decide (l.gone=0)&&(decide (1≤l.left)&&decide (l.left≤x.timer))
 else false
def zdP (x:Lock) (y:Rte):Bool:=decide (x.id=y.id)&&zcz x y
theorem lie_pc (hH:HasAll P inv) (n:Int):PC P inv 110 [.n n] (·=.b (zfz n)):=by
 refine PC.fn hH cd110 fun w0 M Q hM hE hQ hR=>?_;dsimp only[cd110,qm,ql,qf,qi,qb,qc,qp,qv,qN,qT,qF,qt]at hQ ⊢
 (repeat' first|refine zaa [0,2] fun K hK=>?_|(refine hK.go ?_;clear hK K)|with_reducible exact wT|refine wA ?_|(refine wB (fun h=>?_) (fun h=>?_)<;>first|exact wN h|subst (h:(_:Bool)=_)|skip)|(refine wQ ?_;clear hQ hR hE hM)|fail)
 all_goals (first|rfl|(grind[zfz])|(simp[zfz, *];done)|(simp_all [zfz];done)|(simp_all [zfz]<;>first|omega|((repeat' split)<;>first|rfl|(exfalso;omega))))
theorem zmn (hH:HasAll P inv) (x:Track) (y:Section):PC P inv 112 ([.agg x.c,.agg y.c]++[]) (·=.b (zeS x y)):=by
 refine PC.fn hH cd112 fun w0 M Q hM hE hQ hR=>?_;dsimp only[cd112,qm,ql,qf,qi,qb,qc,qp,qv,qN,qT,qF,qt]at hQ ⊢
 (repeat' first|refine zaa [0,1,2,3,4] fun K hK=>?_|(refine hK.go ?_;clear hK K)|with_reducible exact wT|refine wA ?_|(refine wB (fun h=>?_) (fun h=>?_)<;>first|exact wN h|subst (h:(_:Bool)=_)|skip)|(refine wQ ?_;clear hQ hR hE hM)|fail)
 all_goals (first|rfl|(grind[zeS])|(simp[zeS, *];done)|(simp_all [zeS];done)|(simp_all [zeS]<;>first|omega|((repeat' split)<;>first|rfl|(exfalso;omega))))
theorem zmp (hH:HasAll P inv) (x:Switch) (y:Pnt):PC P inv 114 ([.agg x.c,.agg y.c]++[.ip 1 [[.fn 110 []]] 0 0]) (·=.b (zfY x y)):=by
 have c1:=lie_pc hH x.lie
 have c2:=lie_pc hH x.call
 have he:zfY x y=(decide (x.id=y.id)&&(zfz x.lie&&zfz x.call)):=rfl
 revert c1 c2 he
 generalize zfz x.lie=a
 generalize zfz x.call=b
 intro c1 c2 he
 refine PC.fn hH cd114 fun w0 M Q hM hE hQ hR=>?_;dsimp only[cd114,qm,ql,qf,qi,qb,qc,qp,qv,qN,qT,qF,qt]at hQ ⊢
 (repeat' first|refine zaa [0,1,2,3,4,5] fun K hK=>?_|(refine hK.go ?_;clear hK K)|with_reducible exact wT|refine wA ?_|(refine wB (fun h=>?_) (fun h=>?_)<;>first|exact wN h|subst (h:(_:Bool)=_)|skip)|(refine wQ ?_;clear hQ hR hE hM)|refine wC c1 ?_|refine wC c2 ?_|fail)
 all_goals (rw[he];simp[*])
theorem phase_pc (hH:HasAll P inv) (l:Lock) (x:Rte) (h:x.path.length≤1000000):PC P inv 117 [.agg l.c,.agg x.c] (·=.b (zcz l x)):=by
 refine PC.fn hH cd117 fun w0 M Q hM hE hQ hR=>?_;dsimp only[cd117,qm,ql,qf,qi,qb,qc,qp,qv,qN,qT,qF,qt]at hQ ⊢
 (repeat' first|refine zaa [0,1,2,3,4,5,6,15,16,25,39,57] fun K hK=>?_|(refine hK.go ?_;clear hK K)|with_reducible exact wT|refine wA ?_|(refine wB (fun h=>?_) (fun h=>?_)<;>first|exact wN h|subst (h:(_:Bool)=_)|skip)|(refine wQ ?_;clear hQ hR hE hM)|fail)
 all_goals (unfold zcz;simp[*])
theorem zmT (hH:HasAll P inv) (x:Lock) (y:Rte) (h:y.path.length≤1000000):PC P inv 116 ([.agg x.c,.agg y.c]++[]) (·=.b (zdP x y)):=by
 have c1:=phase_pc hH x y h
 unfold zdP
 revert c1
 generalize zcz x y=a
 intro c1
 refine PC.fn hH cd116 fun w0 M Q hM hE hQ hR=>?_;dsimp only[cd116,qm,ql,qf,qi,qb,qc,qp,qv,qN,qT,qF,qt]at hQ ⊢
 (repeat' first|refine zaa [0,1,2,3,4] fun K hK=>?_|(refine hK.go ?_;clear hK K)|with_reducible exact wT|refine wA ?_|(refine wB (fun h=>?_) (fun h=>?_)<;>first|exact wN h|subst (h:(_:Bool)=_)|skip)|(refine wQ ?_;clear hQ hR hE hM)|refine wC c1 ?_|fail)
 all_goals simp[*]
theorem eqfTrk (hH:HasAll P inv) {jc:Nat} {caps:List AV} {p:Track→Section→Bool} (a:List Track) (b:List Section) (hc:∀ x∈a,∀ y∈b,PC P inv jc ([.agg x.c,.agg y.c]++caps) (·=.b (p x y))) (hb:zac caps=0) (ha:a.length≤1000000):PC P inv 111 [.sl 2 (a.map Track.c),.sl 3 (b.map Section.c),.fn jc caps] (·=.b (zaM p a b)):=by
 refine PC.fn hH cd111 fun w0 M Q hM hE hQ hR=>?_;dsimp only[cd111,qm,ql,qf,qi,qb,qc,qp,qv,qN,qT,qF,qt]at hQ ⊢
 (have hX:=@hb;(repeat' first|refine zaa [0,1,2,6,7,8,9,14,15,16,17,18,30] fun K hK=>?_|(refine hK.go ?_;clear hK K)|with_reducible exact wT|refine wA ?_|(refine wB (fun h=>?_) (fun h=>?_)<;>first|exact wN h|subst (h:(_:Bool)=_)|skip)|(refine wQ ?_;clear hQ hR hE hM)|fail);all_goals clear hX)
 ·have:zaM p a b=false:=by
   cases hz:zaM p a b with
   |false=>rfl
   |true=>have:=zb5 hz;omega
  rw[this]
 refine zae (ι:=Nat) [1,2,6,15,16,17] (fun z=>[(17,.n z)]) (fun _=>[]) (fun z=>z) (a.length) (fun z=>(zaM p (a.drop z) (b.drop z)=zaM p a b)) (0) ?_;rintro k ⟨hk,hg⟩;(try dsimp only at hk hg ⊢);rcases Nat.lt_or_ge k a.length with hlt|hge
 ·have hltb:k<b.length:=by omega
  rw[zaf hlt,zaf hltb,zaM]at hg
  have c1:=hc _ (zab hlt) _ (zab hltb)
  revert c1 hg
  generalize p (nth a k) (nth b k)=t
  intro hg c1
  (have hX:=@hb;(repeat' first|refine zaa [0,1,2,6,7,8,9,14,15,16,17,18,30] fun K hK=>?_|(refine hK.go ?_;clear hK K)|with_reducible exact wT|refine wA ?_|(refine wB (fun h=>?_) (fun h=>?_)<;>first|exact wN h|subst (h:(_:Bool)=_)|skip)|(refine wQ ?_;clear hQ hR hE hM)|refine wC c1 ?_|fail);all_goals clear hX)
  all_goals first
   |(rw[←hg];rfl)
   |(exact ⟨k+1,by omega,⟨by omega,by rw[←hg];rfl⟩,by omega⟩)
 ·rw[List.drop_eq_nil_of_le hge,List.drop_eq_nil_of_le (by omega),zaM]at hg
  (have hX:=@hb;(repeat' first|refine zaa [0,1,2,6,7,8,9,14,15,16,17,18,30] fun K hK=>?_|(refine hK.go ?_;clear hK K)|with_reducible exact wT|refine wA ?_|(refine wB (fun h=>?_) (fun h=>?_)<;>first|exact wN h|subst (h:(_:Bool)=_)|skip)|(refine wQ ?_;clear hQ hR hE hM)|fail);all_goals clear hX)
  rw[←hg]
theorem eqfSwt (hH:HasAll P inv) {jc:Nat} {caps:List AV} {p:Switch→Pnt→Bool} (a:List Switch) (b:List Pnt) (hc:∀ x∈a,∀ y∈b,PC P inv jc ([.agg x.c,.agg y.c]++caps) (·=.b (p x y))) (hb:zac caps=0) (ha:a.length≤1000000):PC P inv 113 [.sl 3 (a.map Switch.c),.sl 2 (b.map Pnt.c),.fn jc caps] (·=.b (zaM p a b)):=by
 refine PC.fn hH cd113 fun w0 M Q hM hE hQ hR=>?_;dsimp only[cd113,qm,ql,qf,qi,qb,qc,qp,qv,qN,qT,qF,qt]at hQ ⊢
 (have hX:=@hb;(repeat' first|refine zaa [0,1,2,6,7,8,9,14,15,16,17,18,30] fun K hK=>?_|(refine hK.go ?_;clear hK K)|with_reducible exact wT|refine wA ?_|(refine wB (fun h=>?_) (fun h=>?_)<;>first|exact wN h|subst (h:(_:Bool)=_)|skip)|(refine wQ ?_;clear hQ hR hE hM)|fail);all_goals clear hX)
 ·have:zaM p a b=false:=by
   cases hz:zaM p a b with
   |false=>rfl
   |true=>have:=zb5 hz;omega
  rw[this]
 refine zae (ι:=Nat) [1,2,6,15,16,17] (fun z=>[(17,.n z)]) (fun _=>[]) (fun z=>z) (a.length) (fun z=>(zaM p (a.drop z) (b.drop z)=zaM p a b)) (0) ?_;rintro k ⟨hk,hg⟩;(try dsimp only at hk hg ⊢);rcases Nat.lt_or_ge k a.length with hlt|hge
 ·have hltb:k<b.length:=by omega
  rw[zaf hlt,zaf hltb,zaM]at hg
  have c1:=hc _ (zab hlt) _ (zab hltb)
  revert c1 hg
  generalize p (nth a k) (nth b k)=t
  intro hg c1
  (have hX:=@hb;(repeat' first|refine zaa [0,1,2,6,7,8,9,14,15,16,17,18,30] fun K hK=>?_|(refine hK.go ?_;clear hK K)|with_reducible exact wT|refine wA ?_|(refine wB (fun h=>?_) (fun h=>?_)<;>first|exact wN h|subst (h:(_:Bool)=_)|skip)|(refine wQ ?_;clear hQ hR hE hM)|refine wC c1 ?_|fail);all_goals clear hX)
  all_goals first
   |(rw[←hg];rfl)
   |(exact ⟨k+1,by omega,⟨by omega,by rw[←hg];rfl⟩,by omega⟩)
 ·rw[List.drop_eq_nil_of_le hge,List.drop_eq_nil_of_le (by omega),zaM]at hg
  (have hX:=@hb;(repeat' first|refine zaa [0,1,2,6,7,8,9,14,15,16,17,18,30] fun K hK=>?_|(refine hK.go ?_;clear hK K)|with_reducible exact wT|refine wA ?_|(refine wB (fun h=>?_) (fun h=>?_)<;>first|exact wN h|subst (h:(_:Bool)=_)|skip)|(refine wQ ?_;clear hQ hR hE hM)|fail);all_goals clear hX)
  rw[←hg]
theorem eqfLck (hH:HasAll P inv) {jc:Nat} {caps:List AV} {p:Lock→Rte→Bool} (a:List Lock) (b:List Rte) (hc:∀ x∈a,∀ y∈b,PC P inv jc ([.agg x.c,.agg y.c]++caps) (·=.b (p x y))) (hb:zac caps=0) (ha:a.length≤1000000):PC P inv 115 [.sl 4 (a.map Lock.c),.sl 7 (b.map Rte.c),.fn jc caps] (·=.b (zaM p a b)):=by
 refine PC.fn hH cd115 fun w0 M Q hM hE hQ hR=>?_;dsimp only[cd115,qm,ql,qf,qi,qb,qc,qp,qv,qN,qT,qF,qt]at hQ ⊢
 (have hX:=@hb;(repeat' first|refine zaa [0,1,2,6,7,8,9,14,15,16,17,18,30] fun K hK=>?_|(refine hK.go ?_;clear hK K)|with_reducible exact wT|refine wA ?_|(refine wB (fun h=>?_) (fun h=>?_)<;>first|exact wN h|subst (h:(_:Bool)=_)|skip)|(refine wQ ?_;clear hQ hR hE hM)|fail);all_goals clear hX)
 ·have:zaM p a b=false:=by
   cases hz:zaM p a b with
   |false=>rfl
   |true=>have:=zb5 hz;omega
  rw[this]
 refine zae (ι:=Nat) [1,2,6,15,16,17] (fun z=>[(17,.n z)]) (fun _=>[]) (fun z=>z) (a.length) (fun z=>(zaM p (a.drop z) (b.drop z)=zaM p a b)) (0) ?_;rintro k ⟨hk,hg⟩;(try dsimp only at hk hg ⊢);rcases Nat.lt_or_ge k a.length with hlt|hge
 ·have hltb:k<b.length:=by omega
  rw[zaf hlt,zaf hltb,zaM]at hg
  have c1:=hc _ (zab hlt) _ (zab hltb)
  revert c1 hg
  generalize p (nth a k) (nth b k)=t
  intro hg c1
  (have hX:=@hb;(repeat' first|refine zaa [0,1,2,6,7,8,9,14,15,16,17,18,30] fun K hK=>?_|(refine hK.go ?_;clear hK K)|with_reducible exact wT|refine wA ?_|(refine wB (fun h=>?_) (fun h=>?_)<;>first|exact wN h|subst (h:(_:Bool)=_)|skip)|(refine wQ ?_;clear hQ hR hE hM)|refine wC c1 ?_|fail);all_goals clear hX)
  all_goals first
   |(rw[←hg];rfl)
   |(exact ⟨k+1,by omega,⟨by omega,by rw[←hg];rfl⟩,by omega⟩)
 ·rw[List.drop_eq_nil_of_le hge,List.drop_eq_nil_of_le (by omega),zaM]at hg
  (have hX:=@hb;(repeat' first|refine zaa [0,1,2,6,7,8,9,14,15,16,17,18,30] fun K hK=>?_|(refine hK.go ?_;clear hK K)|with_reducible exact wT|refine wA ?_|(refine wB (fun h=>?_) (fun h=>?_)<;>first|exact wN h|subst (h:(_:Bool)=_)|skip)|(refine wQ ?_;clear hQ hR hE hM)|fail);all_goals clear hX)
  rw[←hg]
end Go.Lev
