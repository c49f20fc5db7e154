/-
  A part of the engine that walks the functions' codes, and of the functions' contracts. Conditions: those that each theorem names.
-/
import Derived.Test.YtcpgcgandpofiaaGreatL4
import Derived.IntWalk
set_option linter.unusedSimpArgs false
set_option linter.unusedVariables false
set_option linter.unusedSectionVars false
namespace Go.Lev
open Go.Eng
set_option maxRecDepth 10000
set_option maxHeartbeats 4000000
variable {P:Program} {inv:Nat→Option Nat} {w0:World} {M:Nat→Prop}
theorem zkx (hH:HasAll P inv) (hM:∀ b,M b→b<w0.heap.size) (p:Pln) (hp:Sm p) (r:Rte) (x y:Sgn) (w:Wk) (all:List Int) (i:Int) (s:Int) (ba bo:Bool) (hw:w.asks.length≤1000000) (hw2:w.outs.length≤1000000) :
  AC P inv w0 M 30 102 [.ptr 5 11 0,.n s,.n i,.fn 103 []] (stW p r x y w all i s ba bo) fun r0 σ'=>r0=.tup []∧σ'=stW p r x y (zaM p w s i (fun _ j=>decide (j=⟨0,0⟩))) all i s (ba||decide (w.asks.length<(zaM p w s i (fun _ j=>decide (j=⟨0,0⟩))).asks.length)) (bo||decide (w.outs.length<(zaM p w s i (fun _ j=>decide (j=⟨0,0⟩))).outs.length)):=by
 have hs:=zbX (fun t:Section=>decide (t.id=s)) p.sections 0
 have c0:=zhb hH p.sections (fun t _=>zgk hH s t) (Nat.le_trans hp.sec (by omega))
 have hl:=hp.sec
 obtain ⟨inn,asks,outs,lost⟩:=w
 dsimp only at hw hw2
 generalize hW:zaM p ⟨inn,asks,outs,lost⟩ s i (fun _ j=>decide (j=⟨0,0⟩))=W
 unfold zaM zjr zmT at hW
 dsimp only at hW
 rcases hs with ⟨h1,h2⟩|⟨k0,hk0,h1,h2⟩
 ·rw[h1]at c0
  rw[h2,ite_self]at hW
  refine zaX (F:=cd102) (hH.has _ _ rfl) rfl (Nat.le_of_ble_eq_true rfl) fun Q hQ hR=>?_;have hE:=hH.callable;dsimp only[cd102,qm,ql,qf,qi,qb,qc,qp,qv,qN,qT,qF,qt]at hQ ⊢
  skip
  unfold stW
  (refine no_implicit_lambda% (st ?_);try with_reducible exact True.intro)
  repeat' (first|refine zaa [0,1,2,3,4,5,8,9,10,11,12,13,17,18,19,20,23,32,49] fun K hK=>?_|refine AWp.block ?_|(refine hK.go ?_;clear hK K)|refine Cont.go (by assumption) ?_|(refine cnd2 rfl (fun h=>?_) (fun h=>?_)<;>(try first|exact h.elim|obtain rfl:(_:Bool)=true:=h|obtain rfl:(_:Bool)=false:=h)<;>first|(exfalso;omega)|skip)|((first|refine AWp.reg hE hM ?_|refine AWp.regd hE hM ?_|refine AWp.ret ?_|refine AWp.skip ?_|refine AWp.exit ?_|(refine pk2 (fun h=>?_) (fun h=>?_)<;>(try first|exact h.elim|obtain rfl:(_:Bool)=true:=h|obtain rfl:(_:Bool)=false:=h))|refine zab (fun h=>?_) ?_|(refine AC.callK 30 (by omega) (by first|omega|((refine no_implicit_lambda% (st ?_);try with_reducible exact True.intro);done)|((refine no_implicit_lambda% (st ?_);try with_reducible exact True.intro);omega)) (zax (F:=cd130) (hH.has _ _ rfl) (Nat.le_of_ble_eq_true rfl) fun Q hQ hR=>?_);dsimp only[cd130,qm,ql,qf,qi,qb,qc,qp,qv,qN,qT,qF,qt]at hQ ⊢)|(refine AC.callK 40 (by omega) (by first|omega|((refine no_implicit_lambda% (st ?_);try with_reducible exact True.intro);done)|((refine no_implicit_lambda% (st ?_);try with_reducible exact True.intro);omega)) (zax (F:=cd107) (hH.has _ _ rfl) (Nat.le_of_ble_eq_true rfl) fun Q hQ hR=>?_);dsimp only[cd107,qm,ql,qf,qi,qb,qc,qp,qv,qN,qT,qF,qt]at hQ ⊢)|(refine zau hM 4 ( c0) ?_ rfl ?_;(focus ((refine no_implicit_lambda% (st ?_);try with_reducible exact True.intro)<;>fail)))|(refine hQ _ _ _ rfl ?_;clear hQ hR)|(refine hR _ _ (hQ _ _ _ rfl ?_);clear hQ hR)|(refine zaf ?_ ?_;focus first|omega|(refine zad ?_;(refine no_implicit_lambda% (st ?_);try with_reducible exact True.intro);done)))<;>try (refine no_implicit_lambda% (st ?_);try with_reducible exact True.intro)))
  all_goals (refine zah (ι:=Nat) [0,1,2,3,8,17,18,19] (fun zz=>[(19,.n zz)]) (fun zz=>[]) (fun zz=>zz≤0) (fun zz=>0-zz) (0) (Nat.zero_le _) (by (try dsimp only);(refine no_implicit_lambda% (st ?_);try with_reducible exact True.intro)<;>first|omega|(simp;done)) (by (try dsimp only);(refine no_implicit_lambda% (st ?_);try with_reducible exact True.intro)<;>first|omega|(simp;done)) ?_;rintro k hk;(try dsimp only at hk ⊢);rcases Nat.lt_or_ge k 0 with hlt|hge)
  all_goals first|(exfalso;omega)|skip
  all_goals repeat' (first|refine zaa [0,1,2,3,4,5,8,9,10,11,12,13,17,18,19,20,23,32,49] fun K hK=>?_|refine AWp.block ?_|(refine hK.go ?_;clear hK K)|refine Cont.go (by assumption) ?_|(refine cnd2 rfl (fun h=>?_) (fun h=>?_)<;>(try first|exact h.elim|obtain rfl:(_:Bool)=true:=h|obtain rfl:(_:Bool)=false:=h)<;>first|(exfalso;omega)|skip)|((first|refine AWp.reg hE hM ?_|refine AWp.regd hE hM ?_|refine AWp.ret ?_|refine AWp.skip ?_|refine AWp.exit ?_|(refine pk2 (fun h=>?_) (fun h=>?_)<;>(try first|exact h.elim|obtain rfl:(_:Bool)=true:=h|obtain rfl:(_:Bool)=false:=h))|refine zab (fun h=>?_) ?_|(refine hQ _ _ _ rfl ?_;clear hQ hR)|(refine hR _ _ (hQ _ _ _ rfl ?_);clear hQ hR)|(refine zaf ?_ ?_;focus first|omega|(refine zad ?_;(refine no_implicit_lambda% (st ?_);try with_reducible exact True.intro);done)))<;>try (refine no_implicit_lambda% (st ?_);try with_reducible exact True.intro)))
  all_goals (have hW':W=⟨inn,asks,outs,true⟩:=(by rw[←hW];split<;>simp_all);subst hW';refine ⟨[],trivial, ?_⟩;simp only[swS,stW,Wk.c];(refine no_implicit_lambda% (st ?_);try with_reducible exact True.intro);(try simp))
 ·rw[h1,Int.zero_add]at c0
  rw[h2]at hW
  by_cases hin:inn.to=s
  ·rw[if_pos hin]at hW
   dsimp only at hW
   have hse:=hp.ends _ (zal hk0)
   revert hW hse
   generalize hS:nth p.sections k0=S
   intro hW hse
   cases lost with
   |true =>
    rw[if_pos rfl]at hW
    subst hW
    refine zaX (F:=cd102) (hH.has _ _ rfl) rfl (Nat.le_of_ble_eq_true rfl) fun Q hQ hR=>?_;have hE:=hH.callable;dsimp only[cd102,qm,ql,qf,qi,qb,qc,qp,qv,qN,qT,qF,qt]at hQ ⊢
    skip
    unfold stW
    (refine no_implicit_lambda% (st ?_);try with_reducible exact True.intro)
    repeat' (first|refine zaa [0,1,2,3,4,5,8,9,10,11,12,13,17,18,19,20,23,32,49] fun K hK=>?_|refine AWp.block ?_|(refine hK.go ?_;clear hK K)|refine Cont.go (by assumption) ?_|(refine cnd2 rfl (fun h=>?_) (fun h=>?_)<;>(try first|exact h.elim|obtain rfl:(_:Bool)=true:=h|obtain rfl:(_:Bool)=false:=h)<;>first|(exfalso;omega)|skip)|((first|refine AWp.reg hE hM ?_|refine AWp.regd hE hM ?_|refine AWp.ret ?_|refine AWp.skip ?_|refine AWp.exit ?_|(refine pk2 (fun h=>?_) (fun h=>?_)<;>(try first|exact h.elim|obtain rfl:(_:Bool)=true:=h|obtain rfl:(_:Bool)=false:=h))|refine zab (fun h=>?_) ?_|(refine AC.callK 30 (by omega) (by first|omega|(simp -dsimp -implicitDefEqProofs (disch:=omega) only[go_sem,reduceIte,↓reduceIte,Nat.reduceEqDiff,Nat.reduceLT,Nat.reduceLeDiff,Nat.reduceAdd,Nat.reduceSub,Nat.reduceMul,Int.reduceToNat,Int.reduceLT,Int.reduceLE,Int.reduceEq,Int.reduceNeg,Int.reduceNe,reduceCtorEq,hS];done)|(simp -dsimp -implicitDefEqProofs (disch:=omega) only[go_sem,reduceIte,↓reduceIte,Nat.reduceEqDiff,Nat.reduceLT,Nat.reduceLeDiff,Nat.reduceAdd,Nat.reduceSub,Nat.reduceMul,Int.reduceToNat,Int.reduceLT,Int.reduceLE,Int.reduceEq,Int.reduceNeg,Int.reduceNe,reduceCtorEq,hS];omega)) (zax (F:=cd130) (hH.has _ _ rfl) (Nat.le_of_ble_eq_true rfl) fun Q hQ hR=>?_);dsimp only[cd130,qm,ql,qf,qi,qb,qc,qp,qv,qN,qT,qF,qt]at hQ ⊢)|(refine AC.callK 40 (by omega) (by first|omega|(simp -dsimp -implicitDefEqProofs (disch:=omega) only[go_sem,reduceIte,↓reduceIte,Nat.reduceEqDiff,Nat.reduceLT,Nat.reduceLeDiff,Nat.reduceAdd,Nat.reduceSub,Nat.reduceMul,Int.reduceToNat,Int.reduceLT,Int.reduceLE,Int.reduceEq,Int.reduceNeg,Int.reduceNe,reduceCtorEq,hS];done)|(simp -dsimp -implicitDefEqProofs (disch:=omega) only[go_sem,reduceIte,↓reduceIte,Nat.reduceEqDiff,Nat.reduceLT,Nat.reduceLeDiff,Nat.reduceAdd,Nat.reduceSub,Nat.reduceMul,Int.reduceToNat,Int.reduceLT,Int.reduceLE,Int.reduceEq,Int.reduceNeg,Int.reduceNe,reduceCtorEq,hS];omega)) (zax (F:=cd107) (hH.has _ _ rfl) (Nat.le_of_ble_eq_true rfl) fun Q hQ hR=>?_);dsimp only[cd107,qm,ql,qf,qi,qb,qc,qp,qv,qN,qT,qF,qt]at hQ ⊢)|(refine zau hM 4 ( c0) ?_ rfl ?_;(focus (simp -dsimp -implicitDefEqProofs (disch:=omega) only[go_sem,reduceIte,↓reduceIte,Nat.reduceEqDiff,Nat.reduceLT,Nat.reduceLeDiff,Nat.reduceAdd,Nat.reduceSub,Nat.reduceMul,Int.reduceToNat,Int.reduceLT,Int.reduceLE,Int.reduceEq,Int.reduceNeg,Int.reduceNe,reduceCtorEq,hS]<;>fail)))|(refine hQ _ _ _ rfl ?_;clear hQ hR)|(refine hR _ _ (hQ _ _ _ rfl ?_);clear hQ hR)|(refine zaf ?_ ?_;focus first|omega|(refine zad ?_;(refine no_implicit_lambda% (st ?_);try with_reducible exact True.intro);done)))<;>try simp -dsimp -implicitDefEqProofs (disch:=omega) only[go_sem,reduceIte,↓reduceIte,Nat.reduceEqDiff,Nat.reduceLT,Nat.reduceLeDiff,Nat.reduceAdd,Nat.reduceSub,Nat.reduceMul,Int.reduceToNat,Int.reduceLT,Int.reduceLE,Int.reduceEq,Int.reduceNeg,Int.reduceNe,reduceCtorEq,hS]))
    all_goals first|(exfalso;contradiction)|skip
    refine zah (ι:=Nat) [0,1,2,3,8,17,18,19] (fun zz=>[(19,.n zz)]) (fun zz=>[]) (fun zz=>zz≤S.ends.length) (fun zz=>S.ends.length-zz) (0) (Nat.zero_le _) (by (try dsimp only);(refine no_implicit_lambda% (st ?_);try with_reducible exact True.intro)<;>first|omega|(simp;done)) (by (try dsimp only);(refine no_implicit_lambda% (st ?_);try with_reducible exact True.intro)<;>first|omega|(simp;done)) ?_;rintro k hk;(try dsimp only at hk ⊢);rcases Nat.lt_or_ge k S.ends.length with hlt|hge
    ·have c1:=zb4 hH S inn.ed k
     revert c1
     generalize zbf S inn.ed k=v
     intro c1
     repeat' (first|refine zaa [0,1,2,3,4,5,8,9,10,11,12,13,17,18,19,20,23,32,49] fun K hK=>?_|refine AWp.block ?_|(refine hK.go ?_;clear hK K)|refine Cont.go (by assumption) ?_|(refine cnd2 rfl (fun h=>?_) (fun h=>?_)<;>(try first|exact h.elim|obtain rfl:(_:Bool)=true:=h|obtain rfl:(_:Bool)=false:=h)<;>first|(exfalso;omega)|skip)|((first|refine AWp.reg hE hM ?_|refine AWp.regd hE hM ?_|refine AWp.ret ?_|refine AWp.skip ?_|refine AWp.exit ?_|(refine pk2 (fun h=>?_) (fun h=>?_)<;>(try first|exact h.elim|obtain rfl:(_:Bool)=true:=h|obtain rfl:(_:Bool)=false:=h))|refine zab (fun h=>?_) ?_|refine zac hM (c1) ?_|(refine hQ _ _ _ rfl ?_;clear hQ hR)|(refine hR _ _ (hQ _ _ _ rfl ?_);clear hQ hR)|(refine zaf ?_ ?_;focus first|omega|(refine zad ?_;(refine no_implicit_lambda% (st ?_);try with_reducible exact True.intro);done)))<;>try (refine no_implicit_lambda% (st ?_);try with_reducible exact True.intro)))
     all_goals exact ⟨k+1,by omega,by omega,by omega⟩
    ·repeat' (first|refine zaa [0,1,2,3,4,5,8,9,10,11,12,13,17,18,19,20,23,32,49] fun K hK=>?_|refine AWp.block ?_|(refine hK.go ?_;clear hK K)|refine Cont.go (by assumption) ?_|(refine cnd2 rfl (fun h=>?_) (fun h=>?_)<;>(try first|exact h.elim|obtain rfl:(_:Bool)=true:=h|obtain rfl:(_:Bool)=false:=h)<;>first|(exfalso;omega)|skip)|((first|refine AWp.reg hE hM ?_|refine AWp.regd hE hM ?_|refine AWp.ret ?_|refine AWp.skip ?_|refine AWp.exit ?_|(refine pk2 (fun h=>?_) (fun h=>?_)<;>(try first|exact h.elim|obtain rfl:(_:Bool)=true:=h|obtain rfl:(_:Bool)=false:=h))|refine zab (fun h=>?_) ?_|(refine hQ _ _ _ rfl ?_;clear hQ hR)|(refine hR _ _ (hQ _ _ _ rfl ?_);clear hQ hR)|(refine zaf ?_ ?_;focus first|omega|(refine zad ?_;(refine no_implicit_lambda% (st ?_);try with_reducible exact True.intro);done)))<;>try (refine no_implicit_lambda% (st ?_);try with_reducible exact True.intro)))
     refine ⟨[],trivial, ?_⟩;simp only[swS,stW,Wk.c];(refine no_implicit_lambda% (st ?_);try with_reducible exact True.intro);(try simp)
   |false =>
    rw[if_neg (by simp)]at hW
    refine zaX (F:=cd102) (hH.has _ _ rfl) rfl (Nat.le_of_ble_eq_true rfl) fun Q hQ hR=>?_;have hE:=hH.callable;dsimp only[cd102,qm,ql,qf,qi,qb,qc,qp,qv,qN,qT,qF,qt]at hQ ⊢
    skip
    unfold stW
    (refine no_implicit_lambda% (st ?_);try with_reducible exact True.intro)
    repeat' (first|refine zaa [0,1,2,3,4,5,8,9,10,11,12,13,17,18,19,20,23,32,49] fun K hK=>?_|refine AWp.block ?_|(refine hK.go ?_;clear hK K)|refine Cont.go (by assumption) ?_|(refine cnd2 rfl (fun h=>?_) (fun h=>?_)<;>(try first|exact h.elim|obtain rfl:(_:Bool)=true:=h|obtain rfl:(_:Bool)=false:=h)<;>first|(exfalso;omega)|skip)|((first|refine AWp.reg hE hM ?_|refine AWp.regd hE hM ?_|refine AWp.ret ?_|refine AWp.skip ?_|refine AWp.exit ?_|(refine pk2 (fun h=>?_) (fun h=>?_)<;>(try first|exact h.elim|obtain rfl:(_:Bool)=true:=h|obtain rfl:(_:Bool)=false:=h))|refine zab (fun h=>?_) ?_|(refine AC.callK 30 (by omega) (by first|omega|(simp -dsimp -implicitDefEqProofs (disch:=omega) only[go_sem,reduceIte,↓reduceIte,Nat.reduceEqDiff,Nat.reduceLT,Nat.reduceLeDiff,Nat.reduceAdd,Nat.reduceSub,Nat.reduceMul,Int.reduceToNat,Int.reduceLT,Int.reduceLE,Int.reduceEq,Int.reduceNeg,Int.reduceNe,reduceCtorEq,hS];done)|(simp -dsimp -implicitDefEqProofs (disch:=omega) only[go_sem,reduceIte,↓reduceIte,Nat.reduceEqDiff,Nat.reduceLT,Nat.reduceLeDiff,Nat.reduceAdd,Nat.reduceSub,Nat.reduceMul,Int.reduceToNat,Int.reduceLT,Int.reduceLE,Int.reduceEq,Int.reduceNeg,Int.reduceNe,reduceCtorEq,hS];omega)) (zax (F:=cd130) (hH.has _ _ rfl) (Nat.le_of_ble_eq_true rfl) fun Q hQ hR=>?_);dsimp only[cd130,qm,ql,qf,qi,qb,qc,qp,qv,qN,qT,qF,qt]at hQ ⊢)|(refine AC.callK 40 (by omega) (by first|omega|(simp -dsimp -implicitDefEqProofs (disch:=omega) only[go_sem,reduceIte,↓reduceIte,Nat.reduceEqDiff,Nat.reduceLT,Nat.reduceLeDiff,Nat.reduceAdd,Nat.reduceSub,Nat.reduceMul,Int.reduceToNat,Int.reduceLT,Int.reduceLE,Int.reduceEq,Int.reduceNeg,Int.reduceNe,reduceCtorEq,hS];done)|(simp -dsimp -implicitDefEqProofs (disch:=omega) only[go_sem,reduceIte,↓reduceIte,Nat.reduceEqDiff,Nat.reduceLT,Nat.reduceLeDiff,Nat.reduceAdd,Nat.reduceSub,Nat.reduceMul,Int.reduceToNat,Int.reduceLT,Int.reduceLE,Int.reduceEq,Int.reduceNeg,Int.reduceNe,reduceCtorEq,hS];omega)) (zax (F:=cd107) (hH.has _ _ rfl) (Nat.le_of_ble_eq_true rfl) fun Q hQ hR=>?_);dsimp only[cd107,qm,ql,qf,qi,qb,qc,qp,qv,qN,qT,qF,qt]at hQ ⊢)|(refine zau hM 4 ( c0) ?_ rfl ?_;(focus (simp -dsimp -implicitDefEqProofs (disch:=omega) only[go_sem,reduceIte,↓reduceIte,Nat.reduceEqDiff,Nat.reduceLT,Nat.reduceLeDiff,Nat.reduceAdd,Nat.reduceSub,Nat.reduceMul,Int.reduceToNat,Int.reduceLT,Int.reduceLE,Int.reduceEq,Int.reduceNeg,Int.reduceNe,reduceCtorEq,hS]<;>fail)))|(refine hQ _ _ _ rfl ?_;clear hQ hR)|(refine hR _ _ (hQ _ _ _ rfl ?_);clear hQ hR)|(refine zaf ?_ ?_;focus first|omega|(refine zad ?_;(refine no_implicit_lambda% (st ?_);try with_reducible exact True.intro);done)))<;>try simp -dsimp -implicitDefEqProofs (disch:=omega) only[go_sem,reduceIte,↓reduceIte,Nat.reduceEqDiff,Nat.reduceLT,Nat.reduceLeDiff,Nat.reduceAdd,Nat.reduceSub,Nat.reduceMul,Int.reduceToNat,Int.reduceLT,Int.reduceLE,Int.reduceEq,Int.reduceNeg,Int.reduceNe,reduceCtorEq,hS]))
    all_goals first|(exfalso;contradiction)|skip
    refine zah (ι:=Nat) [0,1,2,3,8,17,18,19] (fun zz=>[(19,.n zz)]) (fun zz=>[]) (fun zz=>zz≤S.ends.length∧(zbv S inn.ed (fun _ j=>decide (j=⟨0,0⟩)) zz (S.ends.drop zz)=zbv S inn.ed (fun _ j=>decide (j=⟨0,0⟩)) 0 S.ends)) (fun zz=>S.ends.length-zz) (0) ⟨Nat.zero_le _,(by first|rfl|assumption|omega|(simp;done)|(simp;omega)|grind)⟩ (by (try dsimp only);(refine no_implicit_lambda% (st ?_);try with_reducible exact True.intro)<;>first|omega|(simp;done)) (by (try dsimp only);(refine no_implicit_lambda% (st ?_);try with_reducible exact True.intro)<;>first|omega|(simp;done)) ?_;rintro k ⟨hk,hg⟩;(try dsimp only at hk hg ⊢);rcases Nat.lt_or_ge k S.ends.length with hlt|hge
    ·rw[zap hlt,zbv]at hg
     have c1:=zb4 hH S inn.ed k
     have c2:=znD hH k (nth S.ends k)
     revert c1 c2 hg
     generalize zbf S inn.ed k=v
     generalize hb:decide (nth S.ends k=⟨0,0⟩)=b
     intro hg c1 c2
     repeat' (first|refine zaa [0,1,2,3,4,5,8,9,10,11,12,13,17,18,19,20,23,32,49] fun K hK=>?_|refine AWp.block ?_|(refine hK.go ?_;clear hK K)|refine Cont.go (by assumption) ?_|(refine cnd2 rfl (fun h=>?_) (fun h=>?_)<;>(try first|exact h.elim|obtain rfl:(_:Bool)=true:=h|obtain rfl:(_:Bool)=false:=h)<;>first|(exfalso;omega)|skip)|((first|refine AWp.reg hE hM ?_|refine AWp.regd hE hM ?_|refine AWp.ret ?_|refine AWp.skip ?_|refine AWp.exit ?_|(refine pk2 (fun h=>?_) (fun h=>?_)<;>(try first|exact h.elim|obtain rfl:(_:Bool)=true:=h|obtain rfl:(_:Bool)=false:=h))|refine zab (fun h=>?_) ?_|refine zac hM (c1) ?_|refine zac hM (c2) ?_|(refine AC.callK 40 (by omega) (by first|omega|((refine no_implicit_lambda% (st ?_);try with_reducible exact True.intro);done)|((refine no_implicit_lambda% (st ?_);try with_reducible exact True.intro);omega)) (zax (F:=cd107) (hH.has _ _ rfl) (Nat.le_of_ble_eq_true rfl) fun Q hQ hR=>?_);dsimp only[cd107,qm,ql,qf,qi,qb,qc,qp,qv,qN,qT,qF,qt]at hQ ⊢)|(refine hQ _ _ _ rfl ?_;clear hQ hR)|(refine hR _ _ (hQ _ _ _ rfl ?_);clear hQ hR)|(refine zaf ?_ ?_;focus first|omega|(refine zad ?_;(refine no_implicit_lambda% (st ?_);try with_reducible exact True.intro);done)))<;>try (refine no_implicit_lambda% (st ?_);try with_reducible exact True.intro)))
     all_goals first|(refine ⟨k+1,by omega,⟨by omega, ?_⟩,by omega⟩;rw[←hg,if_neg (by simp[*])];done)|skip
     all_goals (rw[if_pos ⟨by assumption,rfl⟩]at hg;rw[←hg]at hW;dsimp only at hW)
     all_goals (first|rw[if_pos ⟨by assumption,by assumption⟩]at hW|rw[if_neg (fun hh=>absurd hh.1 (by assumption))]at hW|rw[if_neg (fun hh=>absurd hh.2 (by assumption))]at hW)
     all_goals (subst hW;refine ⟨[],trivial, ?_⟩;simp only[swS,stW,Wk.c];(refine no_implicit_lambda% (st ?_);try with_reducible exact True.intro);(try simp[AskR.c,Join.c]))
    ·rw[List.drop_eq_nil_of_le hge,zbv]at hg
     repeat' (first|refine zaa [0,1,2,3,4,5,8,9,10,11,12,13,17,18,19,20,23,32,49] fun K hK=>?_|refine AWp.block ?_|(refine hK.go ?_;clear hK K)|refine Cont.go (by assumption) ?_|(refine cnd2 rfl (fun h=>?_) (fun h=>?_)<;>(try first|exact h.elim|obtain rfl:(_:Bool)=true:=h|obtain rfl:(_:Bool)=false:=h)<;>first|(exfalso;omega)|skip)|((first|refine AWp.reg hE hM ?_|refine AWp.regd hE hM ?_|refine AWp.ret ?_|refine AWp.skip ?_|refine AWp.exit ?_|(refine pk2 (fun h=>?_) (fun h=>?_)<;>(try first|exact h.elim|obtain rfl:(_:Bool)=true:=h|obtain rfl:(_:Bool)=false:=h))|refine zab (fun h=>?_) ?_|(refine hQ _ _ _ rfl ?_;clear hQ hR)|(refine hR _ _ (hQ _ _ _ rfl ?_);clear hQ hR)|(refine zaf ?_ ?_;focus first|omega|(refine zad ?_;(refine no_implicit_lambda% (st ?_);try with_reducible exact True.intro);done)))<;>try (refine no_implicit_lambda% (st ?_);try with_reducible exact True.intro)))
     rw[←hg]at hW
     dsimp only at hW
     subst hW
     refine ⟨[],trivial, ?_⟩;simp only[swS,stW,Wk.c];(refine no_implicit_lambda% (st ?_);try with_reducible exact True.intro);(try simp)
  ·have hW':W=⟨inn,asks,outs,true⟩:=by rw[←hW,if_neg hin];split<;>simp_all
   clear hW
   refine zaX (F:=cd102) (hH.has _ _ rfl) rfl (Nat.le_of_ble_eq_true rfl) fun Q hQ hR=>?_;have hE:=hH.callable;dsimp only[cd102,qm,ql,qf,qi,qb,qc,qp,qv,qN,qT,qF,qt]at hQ ⊢
   skip
   unfold stW
   (refine no_implicit_lambda% (st ?_);try with_reducible exact True.intro)
   repeat' (first|refine zaa [0,1,2,3,4,5,8,9,10,11,12,13,17,18,19,20,23,32,49] fun K hK=>?_|refine AWp.block ?_|(refine hK.go ?_;clear hK K)|refine Cont.go (by assumption) ?_|(refine cnd2 rfl (fun h=>?_) (fun h=>?_)<;>(try first|exact h.elim|obtain rfl:(_:Bool)=true:=h|obtain rfl:(_:Bool)=false:=h)<;>first|(exfalso;omega)|skip)|((first|refine AWp.reg hE hM ?_|refine AWp.regd hE hM ?_|refine AWp.ret ?_|refine AWp.skip ?_|refine AWp.exit ?_|(refine pk2 (fun h=>?_) (fun h=>?_)<;>(try first|exact h.elim|obtain rfl:(_:Bool)=true:=h|obtain rfl:(_:Bool)=false:=h))|refine zab (fun h=>?_) ?_|(refine AC.callK 30 (by omega) (by first|omega|((refine no_implicit_lambda% (st ?_);try with_reducible exact True.intro);done)|((refine no_implicit_lambda% (st ?_);try with_reducible exact True.intro);omega)) (zax (F:=cd130) (hH.has _ _ rfl) (Nat.le_of_ble_eq_true rfl) fun Q hQ hR=>?_);dsimp only[cd130,qm,ql,qf,qi,qb,qc,qp,qv,qN,qT,qF,qt]at hQ ⊢)|(refine AC.callK 40 (by omega) (by first|omega|((refine no_implicit_lambda% (st ?_);try with_reducible exact True.intro);done)|((refine no_implicit_lambda% (st ?_);try with_reducible exact True.intro);omega)) (zax (F:=cd107) (hH.has _ _ rfl) (Nat.le_of_ble_eq_true rfl) fun Q hQ hR=>?_);dsimp only[cd107,qm,ql,qf,qi,qb,qc,qp,qv,qN,qT,qF,qt]at hQ ⊢)|(refine zau hM 4 ( c0) ?_ rfl ?_;(focus ((refine no_implicit_lambda% (st ?_);try with_reducible exact True.intro)<;>fail)))|(refine hQ _ _ _ rfl ?_;clear hQ hR)|(refine hR _ _ (hQ _ _ _ rfl ?_);clear hQ hR)|(refine zaf ?_ ?_;focus first|omega|(refine zad ?_;(refine no_implicit_lambda% (st ?_);try with_reducible exact True.intro);done)))<;>try (refine no_implicit_lambda% (st ?_);try with_reducible exact True.intro)))
   all_goals first|(exfalso;contradiction)|skip
   all_goals (refine zah (ι:=Nat) [0,1,2,3,8,17,18,19] (fun zz=>[(19,.n zz)]) (fun zz=>[]) (fun zz=>zz≤0) (fun zz=>0-zz) (0) (Nat.zero_le _) (by (try dsimp only);(refine no_implicit_lambda% (st ?_);try with_reducible exact True.intro)<;>first|omega|(simp;done)) (by (try dsimp only);(refine no_implicit_lambda% (st ?_);try with_reducible exact True.intro)<;>first|omega|(simp;done)) ?_;rintro k hk;(try dsimp only at hk ⊢);rcases Nat.lt_or_ge k 0 with hlt|hge)
   all_goals first|(exfalso;omega)|skip
   all_goals repeat' (first|refine zaa [0,1,2,3,4,5,8,9,10,11,12,13,17,18,19,20,23,32,49] fun K hK=>?_|refine AWp.block ?_|(refine hK.go ?_;clear hK K)|refine Cont.go (by assumption) ?_|(refine cnd2 rfl (fun h=>?_) (fun h=>?_)<;>(try first|exact h.elim|obtain rfl:(_:Bool)=true:=h|obtain rfl:(_:Bool)=false:=h)<;>first|(exfalso;omega)|skip)|((first|refine AWp.reg hE hM ?_|refine AWp.regd hE hM ?_|refine AWp.ret ?_|refine AWp.skip ?_|refine AWp.exit ?_|(refine pk2 (fun h=>?_) (fun h=>?_)<;>(try first|exact h.elim|obtain rfl:(_:Bool)=true:=h|obtain rfl:(_:Bool)=false:=h))|refine zab (fun h=>?_) ?_|(refine hQ _ _ _ rfl ?_;clear hQ hR)|(refine hR _ _ (hQ _ _ _ rfl ?_);clear hQ hR)|(refine zaf ?_ ?_;focus first|omega|(refine zad ?_;(refine no_implicit_lambda% (st ?_);try with_reducible exact True.intro);done)))<;>try (refine no_implicit_lambda% (st ?_);try with_reducible exact True.intro)))
   all_goals (subst hW';refine ⟨[],trivial, ?_⟩;simp only[swS,stW,Wk.c];(refine no_implicit_lambda% (st ?_);try with_reducible exact True.intro);(try simp))
theorem zkw (hH:HasAll P inv) (hM:∀ b,M b→b<w0.heap.size) (p:Pln) (hp:Sm p) (r:Rte) (x y:Sgn) (w:Wk) (all:List Int) (i:Int) (s:Int) (ba bo:Bool) (hw:w.asks.length≤1000000) (hw2:w.outs.length≤1000000) :
  AC P inv w0 M 30 102 [.ptr 5 11 0,.n s,.n i,.fn 104 [.ptr 23 1 0,.ptr 4 3 0]] (stW p r x y w all i s ba bo) fun r0 σ'=>r0=.tup []∧σ'=stW p r x y (zaM p w s i (fun e _=>decide (s=y.sec)&&decide (e=y.ed))) all i s (ba||decide (w.asks.length<(zaM p w s i (fun e _=>decide (s=y.sec)&&decide (e=y.ed))).asks.length)) (bo||decide (w.outs.length<(zaM p w s i (fun e _=>decide (s=y.sec)&&decide (e=y.ed))).outs.length)):=by
 have hs:=zbX (fun t:Section=>decide (t.id=s)) p.sections 0
 have c0:=zhb hH p.sections (fun t _=>zgk hH s t) (Nat.le_trans hp.sec (by omega))
 have hl:=hp.sec
 obtain ⟨inn,asks,outs,lost⟩:=w
 dsimp only at hw hw2
 generalize hW:zaM p ⟨inn,asks,outs,lost⟩ s i (fun e _=>decide (s=y.sec)&&decide (e=y.ed))=W
 unfold zaM zjr zmT at hW
 dsimp only at hW
 rcases hs with ⟨h1,h2⟩|⟨k0,hk0,h1,h2⟩
 ·rw[h1]at c0
  rw[h2,ite_self]at hW
  refine zaX (F:=cd102) (hH.has _ _ rfl) rfl (Nat.le_of_ble_eq_true rfl) fun Q hQ hR=>?_;have hE:=hH.callable;dsimp only[cd102,qm,ql,qf,qi,qb,qc,qp,qv,qN,qT,qF,qt]at hQ ⊢
  skip
  unfold stW
  (refine no_implicit_lambda% (st ?_);try with_reducible exact True.intro)
  repeat' (first|refine zaa [0,1,2,3,4,5,8,9,10,11,12,13,17,18,19,20,23,32,49] fun K hK=>?_|refine AWp.block ?_|(refine hK.go ?_;clear hK K)|refine Cont.go (by assumption) ?_|(refine cnd2 rfl (fun h=>?_) (fun h=>?_)<;>(try first|exact h.elim|obtain rfl:(_:Bool)=true:=h|obtain rfl:(_:Bool)=false:=h)<;>first|(exfalso;omega)|skip)|((first|refine AWp.reg hE hM ?_|refine AWp.regd hE hM ?_|refine AWp.ret ?_|refine AWp.skip ?_|refine AWp.exit ?_|(refine pk2 (fun h=>?_) (fun h=>?_)<;>(try first|exact h.elim|obtain rfl:(_:Bool)=true:=h|obtain rfl:(_:Bool)=false:=h))|refine zab (fun h=>?_) ?_|(refine AC.callK 30 (by omega) (by first|omega|((refine no_implicit_lambda% (st ?_);try with_reducible exact True.intro);done)|((refine no_implicit_lambda% (st ?_);try with_reducible exact True.intro);omega)) (zax (F:=cd130) (hH.has _ _ rfl) (Nat.le_of_ble_eq_true rfl) fun Q hQ hR=>?_);dsimp only[cd130,qm,ql,qf,qi,qb,qc,qp,qv,qN,qT,qF,qt]at hQ ⊢)|(refine AC.callK 40 (by omega) (by first|omega|((refine no_implicit_lambda% (st ?_);try with_reducible exact True.intro);done)|((refine no_implicit_lambda% (st ?_);try with_reducible exact True.intro);omega)) (zax (F:=cd107) (hH.has _ _ rfl) (Nat.le_of_ble_eq_true rfl) fun Q hQ hR=>?_);dsimp only[cd107,qm,ql,qf,qi,qb,qc,qp,qv,qN,qT,qF,qt]at hQ ⊢)|(refine zau hM 4 ( c0) ?_ rfl ?_;(focus ((refine no_implicit_lambda% (st ?_);try with_reducible exact True.intro)<;>fail)))|(refine hQ _ _ _ rfl ?_;clear hQ hR)|(refine hR _ _ (hQ _ _ _ rfl ?_);clear hQ hR)|(refine zaf ?_ ?_;focus first|omega|(refine zad ?_;(refine no_implicit_lambda% (st ?_);try with_reducible exact True.intro);done)))<;>try (refine no_implicit_lambda% (st ?_);try with_reducible exact True.intro)))
  all_goals (refine zah (ι:=Nat) [0,1,2,3,8,17,18,19] (fun zz=>[(19,.n zz)]) (fun zz=>[]) (fun zz=>zz≤0) (fun zz=>0-zz) (0) (Nat.zero_le _) (by (try dsimp only);(refine no_implicit_lambda% (st ?_);try with_reducible exact True.intro)<;>first|omega|(simp;done)) (by (try dsimp only);(refine no_implicit_lambda% (st ?_);try with_reducible exact True.intro)<;>first|omega|(simp;done)) ?_;rintro k hk;(try dsimp only at hk ⊢);rcases Nat.lt_or_ge k 0 with hlt|hge)
  all_goals first|(exfalso;omega)|skip
  all_goals repeat' (first|refine zaa [0,1,2,3,4,5,8,9,10,11,12,13,17,18,19,20,23,32,49] fun K hK=>?_|refine AWp.block ?_|(refine hK.go ?_;clear hK K)|refine Cont.go (by assumption) ?_|(refine cnd2 rfl (fun h=>?_) (fun h=>?_)<;>(try first|exact h.elim|obtain rfl:(_:Bool)=true:=h|obtain rfl:(_:Bool)=false:=h)<;>first|(exfalso;omega)|skip)|((first|refine AWp.reg hE hM ?_|refine AWp.regd hE hM ?_|refine AWp.ret ?_|refine AWp.skip ?_|refine AWp.exit ?_|(refine pk2 (fun h=>?_) (fun h=>?_)<;>(try first|exact h.elim|obtain rfl:(_:Bool)=true:=h|obtain rfl:(_:Bool)=false:=h))|refine zab (fun h=>?_) ?_|(refine hQ _ _ _ rfl ?_;clear hQ hR)|(refine hR _ _ (hQ _ _ _ rfl ?_);clear hQ hR)|(refine zaf ?_ ?_;focus first|omega|(refine zad ?_;(refine no_implicit_lambda% (st ?_);try with_reducible exact True.intro);done)))<;>try (refine no_implicit_lambda% (st ?_);try with_reducible exact True.intro)))
  all_goals (have hW':W=⟨inn,asks,outs,true⟩:=(by rw[←hW];split<;>simp_all);subst hW';refine ⟨[],trivial, ?_⟩;simp only[swS,stW,Wk.c];(refine no_implicit_lambda% (st ?_);try with_reducible exact True.intro);(try simp))
 ·rw[h1,Int.zero_add]at c0
  rw[h2]at hW
  by_cases hin:inn.to=s
  ·rw[if_pos hin]at hW
   dsimp only at hW
   have hse:=hp.ends _ (zal hk0)
   revert hW hse
   generalize hS:nth p.sections k0=S
   intro hW hse
   cases lost with
   |true =>
    rw[if_pos rfl]at hW
    subst hW
    refine zaX (F:=cd102) (hH.has _ _ rfl) rfl (Nat.le_of_ble_eq_true rfl) fun Q hQ hR=>?_;have hE:=hH.callable;dsimp only[cd102,qm,ql,qf,qi,qb,qc,qp,qv,qN,qT,qF,qt]at hQ ⊢
    skip
    unfold stW
    (refine no_implicit_lambda% (st ?_);try with_reducible exact True.intro)
    repeat' (first|refine zaa [0,1,2,3,4,5,8,9,10,11,12,13,17,18,19,20,23,32,49] fun K hK=>?_|refine AWp.block ?_|(refine hK.go ?_;clear hK K)|refine Cont.go (by assumption) ?_|(refine cnd2 rfl (fun h=>?_) (fun h=>?_)<;>(try first|exact h.elim|obtain rfl:(_:Bool)=true:=h|obtain rfl:(_:Bool)=false:=h)<;>first|(exfalso;omega)|skip)|((first|refine AWp.reg hE hM ?_|refine AWp.regd hE hM ?_|refine AWp.ret ?_|refine AWp.skip ?_|refine AWp.exit ?_|(refine pk2 (fun h=>?_) (fun h=>?_)<;>(try first|exact h.elim|obtain rfl:(_:Bool)=true:=h|obtain rfl:(_:Bool)=false:=h))|refine zab (fun h=>?_) ?_|(refine AC.callK 30 (by omega) (by first|omega|(simp -dsimp -implicitDefEqProofs (disch:=omega) only[go_sem,reduceIte,↓reduceIte,Nat.reduceEqDiff,Nat.reduceLT,Nat.reduceLeDiff,Nat.reduceAdd,Nat.reduceSub,Nat.reduceMul,Int.reduceToNat,Int.reduceLT,Int.reduceLE,Int.reduceEq,Int.reduceNeg,Int.reduceNe,reduceCtorEq,hS];done)|(simp -dsimp -implicitDefEqProofs (disch:=omega) only[go_sem,reduceIte,↓reduceIte,Nat.reduceEqDiff,Nat.reduceLT,Nat.reduceLeDiff,Nat.reduceAdd,Nat.reduceSub,Nat.reduceMul,Int.reduceToNat,Int.reduceLT,Int.reduceLE,Int.reduceEq,Int.reduceNeg,Int.reduceNe,reduceCtorEq,hS];omega)) (zax (F:=cd130) (hH.has _ _ rfl) (Nat.le_of_ble_eq_true rfl) fun Q hQ hR=>?_);dsimp only[cd130,qm,ql,qf,qi,qb,qc,qp,qv,qN,qT,qF,qt]at hQ ⊢)|(refine AC.callK 40 (by omega) (by first|omega|(simp -dsimp -implicitDefEqProofs (disch:=omega) only[go_sem,reduceIte,↓reduceIte,Nat.reduceEqDiff,Nat.reduceLT,Nat.reduceLeDiff,Nat.reduceAdd,Nat.reduceSub,Nat.reduceMul,Int.reduceToNat,Int.reduceLT,Int.reduceLE,Int.reduceEq,Int.reduceNeg,Int.reduceNe,reduceCtorEq,hS];done)|(simp -dsimp -implicitDefEqProofs (disch:=omega) only[go_sem,reduceIte,↓reduceIte,Nat.reduceEqDiff,Nat.reduceLT,Nat.reduceLeDiff,Nat.reduceAdd,Nat.reduceSub,Nat.reduceMul,Int.reduceToNat,Int.reduceLT,Int.reduceLE,Int.reduceEq,Int.reduceNeg,Int.reduceNe,reduceCtorEq,hS];omega)) (zax (F:=cd107) (hH.has _ _ rfl) (Nat.le_of_ble_eq_true rfl) fun Q hQ hR=>?_);dsimp only[cd107,qm,ql,qf,qi,qb,qc,qp,qv,qN,qT,qF,qt]at hQ ⊢)|(refine zau hM 4 ( c0) ?_ rfl ?_;(focus (simp -dsimp -implicitDefEqProofs (disch:=omega) only[go_sem,reduceIte,↓reduceIte,Nat.reduceEqDiff,Nat.reduceLT,Nat.reduceLeDiff,Nat.reduceAdd,Nat.reduceSub,Nat.reduceMul,Int.reduceToNat,Int.reduceLT,Int.reduceLE,Int.reduceEq,Int.reduceNeg,Int.reduceNe,reduceCtorEq,hS]<;>fail)))|(refine hQ _ _ _ rfl ?_;clear hQ hR)|(refine hR _ _ (hQ _ _ _ rfl ?_);clear hQ hR)|(refine zaf ?_ ?_;focus first|omega|(refine zad ?_;(refine no_implicit_lambda% (st ?_);try with_reducible exact True.intro);done)))<;>try simp -dsimp -implicitDefEqProofs (disch:=omega) only[go_sem,reduceIte,↓reduceIte,Nat.reduceEqDiff,Nat.reduceLT,Nat.reduceLeDiff,Nat.reduceAdd,Nat.reduceSub,Nat.reduceMul,Int.reduceToNat,Int.reduceLT,Int.reduceLE,Int.reduceEq,Int.reduceNeg,Int.reduceNe,reduceCtorEq,hS]))
    all_goals first|(exfalso;contradiction)|skip
    refine zah (ι:=Nat) [0,1,2,3,8,17,18,19] (fun zz=>[(19,.n zz)]) (fun zz=>[]) (fun zz=>zz≤S.ends.length) (fun zz=>S.ends.length-zz) (0) (Nat.zero_le _) (by (try dsimp only);(refine no_implicit_lambda% (st ?_);try with_reducible exact True.intro)<;>first|omega|(simp;done)) (by (try dsimp only);(refine no_implicit_lambda% (st ?_);try with_reducible exact True.intro)<;>first|omega|(simp;done)) ?_;rintro k hk;(try dsimp only at hk ⊢);rcases Nat.lt_or_ge k S.ends.length with hlt|hge
    ·have c1:=zb4 hH S inn.ed k
     revert c1
     generalize zbf S inn.ed k=v
     intro c1
     repeat' (first|refine zaa [0,1,2,3,4,5,8,9,10,11,12,13,17,18,19,20,23,32,49] fun K hK=>?_|refine AWp.block ?_|(refine hK.go ?_;clear hK K)|refine Cont.go (by assumption) ?_|(refine cnd2 rfl (fun h=>?_) (fun h=>?_)<;>(try first|exact h.elim|obtain rfl:(_:Bool)=true:=h|obtain rfl:(_:Bool)=false:=h)<;>first|(exfalso;omega)|skip)|((first|refine AWp.reg hE hM ?_|refine AWp.regd hE hM ?_|refine AWp.ret ?_|refine AWp.skip ?_|refine AWp.exit ?_|(refine pk2 (fun h=>?_) (fun h=>?_)<;>(try first|exact h.elim|obtain rfl:(_:Bool)=true:=h|obtain rfl:(_:Bool)=false:=h))|refine zab (fun h=>?_) ?_|refine zac hM (c1) ?_|(refine hQ _ _ _ rfl ?_;clear hQ hR)|(refine hR _ _ (hQ _ _ _ rfl ?_);clear hQ hR)|(refine zaf ?_ ?_;focus first|omega|(refine zad ?_;(refine no_implicit_lambda% (st ?_);try with_reducible exact True.intro);done)))<;>try (refine no_implicit_lambda% (st ?_);try with_reducible exact True.intro)))
     all_goals exact ⟨k+1,by omega,by omega,by omega⟩
    ·repeat' (first|refine zaa [0,1,2,3,4,5,8,9,10,11,12,13,17,18,19,20,23,32,49] fun K hK=>?_|refine AWp.block ?_|(refine hK.go ?_;clear hK K)|refine Cont.go (by assumption) ?_|(refine cnd2 rfl (fun h=>?_) (fun h=>?_)<;>(try first|exact h.elim|obtain rfl:(_:Bool)=true:=h|obtain rfl:(_:Bool)=false:=h)<;>first|(exfalso;omega)|skip)|((first|refine AWp.reg hE hM ?_|refine AWp.regd hE hM ?_|refine AWp.ret ?_|refine AWp.skip ?_|refine AWp.exit ?_|(refine pk2 (fun h=>?_) (fun h=>?_)<;>(try first|exact h.elim|obtain rfl:(_:Bool)=true:=h|obtain rfl:(_:Bool)=false:=h))|refine zab (fun h=>?_) ?_|(refine hQ _ _ _ rfl ?_;clear hQ hR)|(refine hR _ _ (hQ _ _ _ rfl ?_);clear hQ hR)|(refine zaf ?_ ?_;focus first|omega|(refine zad ?_;(refine no_implicit_lambda% (st ?_);try with_reducible exact True.intro);done)))<;>try (refine no_implicit_lambda% (st ?_);try with_reducible exact True.intro)))
     refine ⟨[],trivial, ?_⟩;simp only[swS,stW,Wk.c];(refine no_implicit_lambda% (st ?_);try with_reducible exact True.intro);(try simp)
   |false =>
    rw[if_neg (by simp)]at hW
    refine zaX (F:=cd102) (hH.has _ _ rfl) rfl (Nat.le_of_ble_eq_true rfl) fun Q hQ hR=>?_;have hE:=hH.callable;dsimp only[cd102,qm,ql,qf,qi,qb,qc,qp,qv,qN,qT,qF,qt]at hQ ⊢
    skip
    unfold stW
    (refine no_implicit_lambda% (st ?_);try with_reducible exact True.intro)
    repeat' (first|refine zaa [0,1,2,3,4,5,8,9,10,11,12,13,17,18,19,20,23,32,49] fun K hK=>?_|refine AWp.block ?_|(refine hK.go ?_;clear hK K)|refine Cont.go (by assumption) ?_|(refine cnd2 rfl (fun h=>?_) (fun h=>?_)<;>(try first|exact h.elim|obtain rfl:(_:Bool)=true:=h|obtain rfl:(_:Bool)=false:=h)<;>first|(exfalso;omega)|skip)|((first|refine AWp.reg hE hM ?_|refine AWp.regd hE hM ?_|refine AWp.ret ?_|refine AWp.skip ?_|refine AWp.exit ?_|(refine pk2 (fun h=>?_) (fun h=>?_)<;>(try first|exact h.elim|obtain rfl:(_:Bool)=true:=h|obtain rfl:(_:Bool)=false:=h))|refine zab (fun h=>?_) ?_|(refine AC.callK 30 (by omega) (by first|omega|(simp -dsimp -implicitDefEqProofs (disch:=omega) only[go_sem,reduceIte,↓reduceIte,Nat.reduceEqDiff,Nat.reduceLT,Nat.reduceLeDiff,Nat.reduceAdd,Nat.reduceSub,Nat.reduceMul,Int.reduceToNat,Int.reduceLT,Int.reduceLE,Int.reduceEq,Int.reduceNeg,Int.reduceNe,reduceCtorEq,hS];done)|(simp -dsimp -implicitDefEqProofs (disch:=omega) only[go_sem,reduceIte,↓reduceIte,Nat.reduceEqDiff,Nat.reduceLT,Nat.reduceLeDiff,Nat.reduceAdd,Nat.reduceSub,Nat.reduceMul,Int.reduceToNat,Int.reduceLT,Int.reduceLE,Int.reduceEq,Int.reduceNeg,Int.reduceNe,reduceCtorEq,hS];omega)) (zax (F:=cd130) (hH.has _ _ rfl) (Nat.le_of_ble_eq_true rfl) fun Q hQ hR=>?_);dsimp only[cd130,qm,ql,qf,qi,qb,qc,qp,qv,qN,qT,qF,qt]at hQ ⊢)|(refine AC.callK 40 (by omega) (by first|omega|(simp -dsimp -implicitDefEqProofs (disch:=omega) only[go_sem,reduceIte,↓reduceIte,Nat.reduceEqDiff,Nat.reduceLT,Nat.reduceLeDiff,Nat.reduceAdd,Nat.reduceSub,Nat.reduceMul,Int.reduceToNat,Int.reduceLT,Int.reduceLE,Int.reduceEq,Int.reduceNeg,Int.reduceNe,reduceCtorEq,hS];done)|(simp -dsimp -implicitDefEqProofs (disch:=omega) only[go_sem,reduceIte,↓reduceIte,Nat.reduceEqDiff,Nat.reduceLT,Nat.reduceLeDiff,Nat.reduceAdd,Nat.reduceSub,Nat.reduceMul,Int.reduceToNat,Int.reduceLT,Int.reduceLE,Int.reduceEq,Int.reduceNeg,Int.reduceNe,reduceCtorEq,hS];omega)) (zax (F:=cd107) (hH.has _ _ rfl) (Nat.le_of_ble_eq_true rfl) fun Q hQ hR=>?_);dsimp only[cd107,qm,ql,qf,qi,qb,qc,qp,qv,qN,qT,qF,qt]at hQ ⊢)|(refine zau hM 4 ( c0) ?_ rfl ?_;(focus (simp -dsimp -implicitDefEqProofs (disch:=omega) only[go_sem,reduceIte,↓reduceIte,Nat.reduceEqDiff,Nat.reduceLT,Nat.reduceLeDiff,Nat.reduceAdd,Nat.reduceSub,Nat.reduceMul,Int.reduceToNat,Int.reduceLT,Int.reduceLE,Int.reduceEq,Int.reduceNeg,Int.reduceNe,reduceCtorEq,hS]<;>fail)))|(refine hQ _ _ _ rfl ?_;clear hQ hR)|(refine hR _ _ (hQ _ _ _ rfl ?_);clear hQ hR)|(refine zaf ?_ ?_;focus first|omega|(refine zad ?_;(refine no_implicit_lambda% (st ?_);try with_reducible exact True.intro);done)))<;>try simp -dsimp -implicitDefEqProofs (disch:=omega) only[go_sem,reduceIte,↓reduceIte,Nat.reduceEqDiff,Nat.reduceLT,Nat.reduceLeDiff,Nat.reduceAdd,Nat.reduceSub,Nat.reduceMul,Int.reduceToNat,Int.reduceLT,Int.reduceLE,Int.reduceEq,Int.reduceNeg,Int.reduceNe,reduceCtorEq,hS]))
    all_goals first|(exfalso;contradiction)|skip
    refine zah (ι:=Nat) [0,1,2,3,8,17,18,19] (fun zz=>[(19,.n zz)]) (fun zz=>[]) (fun zz=>zz≤S.ends.length∧(zbv S inn.ed (fun e _=>decide (s=y.sec)&&decide (e=y.ed)) zz (S.ends.drop zz)=zbv S inn.ed (fun e _=>decide (s=y.sec)&&decide (e=y.ed)) 0 S.ends)) (fun zz=>S.ends.length-zz) (0) ⟨Nat.zero_le _,(by first|rfl|assumption|omega|(simp;done)|(simp;omega)|grind)⟩ (by (try dsimp only);(refine no_implicit_lambda% (st ?_);try with_reducible exact True.intro)<;>first|omega|(simp;done)) (by (try dsimp only);(refine no_implicit_lambda% (st ?_);try with_reducible exact True.intro)<;>first|omega|(simp;done)) ?_;rintro k ⟨hk,hg⟩;(try dsimp only at hk hg ⊢);rcases Nat.lt_or_ge k S.ends.length with hlt|hge
    ·rw[zap hlt,zbv]at hg
     have c1:=zb4 hH S inn.ed k
     have c2:=znC hH k (nth S.ends k) s y
     revert c1 c2 hg
     generalize zbf S inn.ed k=v
     generalize hb:(decide (s=y.sec)&&decide ((k:Int)=y.ed))=b
     intro hg c1 c2
     repeat' (first|refine zaa [0,1,2,3,4,5,8,9,10,11,12,13,17,18,19,20,23,32,49] fun K hK=>?_|refine AWp.block ?_|(refine hK.go ?_;clear hK K)|refine Cont.go (by assumption) ?_|(refine cnd2 rfl (fun h=>?_) (fun h=>?_)<;>(try first|exact h.elim|obtain rfl:(_:Bool)=true:=h|obtain rfl:(_:Bool)=false:=h)<;>first|(exfalso;omega)|skip)|((first|refine AWp.reg hE hM ?_|refine AWp.regd hE hM ?_|refine AWp.ret ?_|refine AWp.skip ?_|refine AWp.exit ?_|(refine pk2 (fun h=>?_) (fun h=>?_)<;>(try first|exact h.elim|obtain rfl:(_:Bool)=true:=h|obtain rfl:(_:Bool)=false:=h))|refine zab (fun h=>?_) ?_|refine zac hM (c1) ?_|(refine zau hM 4 ( c2) ?_ rfl ?_;(focus ((refine no_implicit_lambda% (st ?_);try with_reducible exact True.intro)<;>fail)))|(refine AC.callK 40 (by omega) (by first|omega|((refine no_implicit_lambda% (st ?_);try with_reducible exact True.intro);done)|((refine no_implicit_lambda% (st ?_);try with_reducible exact True.intro);omega)) (zax (F:=cd107) (hH.has _ _ rfl) (Nat.le_of_ble_eq_true rfl) fun Q hQ hR=>?_);dsimp only[cd107,qm,ql,qf,qi,qb,qc,qp,qv,qN,qT,qF,qt]at hQ ⊢)|(refine hQ _ _ _ rfl ?_;clear hQ hR)|(refine hR _ _ (hQ _ _ _ rfl ?_);clear hQ hR)|(refine zaf ?_ ?_;focus first|omega|(refine zad ?_;(refine no_implicit_lambda% (st ?_);try with_reducible exact True.intro);done)))<;>try (refine no_implicit_lambda% (st ?_);try with_reducible exact True.intro)))
     all_goals first|(refine ⟨k+1,by omega,⟨by omega, ?_⟩,by omega⟩;rw[←hg,if_neg (by simp[*])];done)|skip
     all_goals (rw[if_pos ⟨by assumption,rfl⟩]at hg;rw[←hg]at hW;dsimp only at hW)
     all_goals (first|rw[if_pos ⟨by assumption,by assumption⟩]at hW|rw[if_neg (fun hh=>absurd hh.1 (by assumption))]at hW|rw[if_neg (fun hh=>absurd hh.2 (by assumption))]at hW)
     all_goals (subst hW;refine ⟨[],trivial, ?_⟩;simp only[swS,stW,Wk.c];(refine no_implicit_lambda% (st ?_);try with_reducible exact True.intro);(try simp[AskR.c,Join.c]))
    ·rw[List.drop_eq_nil_of_le hge,zbv]at hg
     repeat' (first|refine zaa [0,1,2,3,4,5,8,9,10,11,12,13,17,18,19,20,23,32,49] fun K hK=>?_|refine AWp.block ?_|(refine hK.go ?_;clear hK K)|refine Cont.go (by assumption) ?_|(refine cnd2 rfl (fun h=>?_) (fun h=>?_)<;>(try first|exact h.elim|obtain rfl:(_:Bool)=true:=h|obtain rfl:(_:Bool)=false:=h)<;>first|(exfalso;omega)|skip)|((first|refine AWp.reg hE hM ?_|refine AWp.regd hE hM ?_|refine AWp.ret ?_|refine AWp.skip ?_|refine AWp.exit ?_|(refine pk2 (fun h=>?_) (fun h=>?_)<;>(try first|exact h.elim|obtain rfl:(_:Bool)=true:=h|obtain rfl:(_:Bool)=false:=h))|refine zab (fun h=>?_) ?_|(refine hQ _ _ _ rfl ?_;clear hQ hR)|(refine hR _ _ (hQ _ _ _ rfl ?_);clear hQ hR)|(refine zaf ?_ ?_;focus first|omega|(refine zad ?_;(refine no_implicit_lambda% (st ?_);try with_reducible exact True.intro);done)))<;>try (refine no_implicit_lambda% (st ?_);try with_reducible exact True.intro)))
     rw[←hg]at hW
     dsimp only at hW
     subst hW
     refine ⟨[],trivial, ?_⟩;simp only[swS,stW,Wk.c];(refine no_implicit_lambda% (st ?_);try with_reducible exact True.intro);(try simp)
  ·have hW':W=⟨inn,asks,outs,true⟩:=by rw[←hW,if_neg hin];split<;>simp_all
   clear hW
   refine zaX (F:=cd102) (hH.has _ _ rfl) rfl (Nat.le_of_ble_eq_true rfl) fun Q hQ hR=>?_;have hE:=hH.callable;dsimp only[cd102,qm,ql,qf,qi,qb,qc,qp,qv,qN,qT,qF,qt]at hQ ⊢
   skip
   unfold stW
   (refine no_implicit_lambda% (st ?_);try with_reducible exact True.intro)
   repeat' (first|refine zaa [0,1,2,3,4,5,8,9,10,11,12,13,17,18,19,20,23,32,49] fun K hK=>?_|refine AWp.block ?_|(refine hK.go ?_;clear hK K)|refine Cont.go (by assumption) ?_|(refine cnd2 rfl (fun h=>?_) (fun h=>?_)<;>(try first|exact h.elim|obtain rfl:(_:Bool)=true:=h|obtain rfl:(_:Bool)=false:=h)<;>first|(exfalso;omega)|skip)|((first|refine AWp.reg hE hM ?_|refine AWp.regd hE hM ?_|refine AWp.ret ?_|refine AWp.skip ?_|refine AWp.exit ?_|(refine pk2 (fun h=>?_) (fun h=>?_)<;>(try first|exact h.elim|obtain rfl:(_:Bool)=true:=h|obtain rfl:(_:Bool)=false:=h))|refine zab (fun h=>?_) ?_|(refine AC.callK 30 (by omega) (by first|omega|((refine no_implicit_lambda% (st ?_);try with_reducible exact True.intro);done)|((refine no_implicit_lambda% (st ?_);try with_reducible exact True.intro);omega)) (zax (F:=cd130) (hH.has _ _ rfl) (Nat.le_of_ble_eq_true rfl) fun Q hQ hR=>?_);dsimp only[cd130,qm,ql,qf,qi,qb,qc,qp,qv,qN,qT,qF,qt]at hQ ⊢)|(refine AC.callK 40 (by omega) (by first|omega|((refine no_implicit_lambda% (st ?_);try with_reducible exact True.intro);done)|((refine no_implicit_lambda% (st ?_);try with_reducible exact True.intro);omega)) (zax (F:=cd107) (hH.has _ _ rfl) (Nat.le_of_ble_eq_true rfl) fun Q hQ hR=>?_);dsimp only[cd107,qm,ql,qf,qi,qb,qc,qp,qv,qN,qT,qF,qt]at hQ ⊢)|(refine zau hM 4 ( c0) ?_ rfl ?_;(focus ((refine no_implicit_lambda% (st ?_);try with_reducible exact True.intro)<;>fail)))|(refine hQ _ _ _ rfl ?_;clear hQ hR)|(refine hR _ _ (hQ _ _ _ rfl ?_);clear hQ hR)|(refine zaf ?_ ?_;focus first|omega|(refine zad ?_;(refine no_implicit_lambda% (st ?_);try with_reducible exact True.intro);done)))<;>try (refine no_implicit_lambda% (st ?_);try with_reducible exact True.intro)))
   all_goals first|(exfalso;contradiction)|skip
   all_goals (refine zah (ι:=Nat) [0,1,2,3,8,17,18,19] (fun zz=>[(19,.n zz)]) (fun zz=>[]) (fun zz=>zz≤0) (fun zz=>0-zz) (0) (Nat.zero_le _) (by (try dsimp only);(refine no_implicit_lambda% (st ?_);try with_reducible exact True.intro)<;>first|omega|(simp;done)) (by (try dsimp only);(refine no_implicit_lambda% (st ?_);try with_reducible exact True.intro)<;>first|omega|(simp;done)) ?_;rintro k hk;(try dsimp only at hk ⊢);rcases Nat.lt_or_ge k 0 with hlt|hge)
   all_goals first|(exfalso;omega)|skip
   all_goals repeat' (first|refine zaa [0,1,2,3,4,5,8,9,10,11,12,13,17,18,19,20,23,32,49] fun K hK=>?_|refine AWp.block ?_|(refine hK.go ?_;clear hK K)|refine Cont.go (by assumption) ?_|(refine cnd2 rfl (fun h=>?_) (fun h=>?_)<;>(try first|exact h.elim|obtain rfl:(_:Bool)=true:=h|obtain rfl:(_:Bool)=false:=h)<;>first|(exfalso;omega)|skip)|((first|refine AWp.reg hE hM ?_|refine AWp.regd hE hM ?_|refine AWp.ret ?_|refine AWp.skip ?_|refine AWp.exit ?_|(refine pk2 (fun h=>?_) (fun h=>?_)<;>(try first|exact h.elim|obtain rfl:(_:Bool)=true:=h|obtain rfl:(_:Bool)=false:=h))|refine zab (fun h=>?_) ?_|(refine hQ _ _ _ rfl ?_;clear hQ hR)|(refine hR _ _ (hQ _ _ _ rfl ?_);clear hQ hR)|(refine zaf ?_ ?_;focus first|omega|(refine zad ?_;(refine no_implicit_lambda% (st ?_);try with_reducible exact True.intro);done)))<;>try (refine no_implicit_lambda% (st ?_);try with_reducible exact True.intro)))
   all_goals (subst hW';refine ⟨[],trivial, ?_⟩;simp only[swS,stW,Wk.c];(refine no_implicit_lambda% (st ?_);try with_reducible exact True.intro);(try simp))
theorem zkv (hH:HasAll P inv) (hM:∀ b,M b→b<w0.heap.size) (p:Pln) (hp:Sm p) (r:Rte) (x y:Sgn) (w:Wk) (all:List Int) (i:Nat) (s:Int) (ba bo:Bool) (hw:w.asks.length≤1000000) (hw2:w.outs.length≤1000000) (hi:i+1<all.length) (ha:all.length≤1000000000) :
  AC P inv w0 M 30 102 [.ptr 5 11 0,.n s,.n i,.fn 106 [.ptr 6 1 0,.ptr 22 1 0]] (stW p r x y w all i s ba bo) fun r0 σ'=>r0=.tup []∧σ'=stW p r x y (zaM p w s i (fun _ j=>decide (j.to=nth all (i+1)))) all i s (ba||decide (w.asks.length<(zaM p w s i (fun _ j=>decide (j.to=nth all (i+1)))).asks.length)) (bo||decide (w.outs.length<(zaM p w s i (fun _ j=>decide (j.to=nth all (i+1)))).outs.length)):=by
 have hs:=zbX (fun t:Section=>decide (t.id=s)) p.sections 0
 have c0:=zhb hH p.sections (fun t _=>zgk hH s t) (Nat.le_trans hp.sec (by omega))
 have hl:=hp.sec
 obtain ⟨inn,asks,outs,lost⟩:=w
 dsimp only at hw hw2
 generalize hW:zaM p ⟨inn,asks,outs,lost⟩ s i (fun _ j=>decide (j.to=nth all (i+1)))=W
 unfold zaM zjr zmT at hW
 dsimp only at hW
 rcases hs with ⟨h1,h2⟩|⟨k0,hk0,h1,h2⟩
 ·rw[h1]at c0
  rw[h2,ite_self]at hW
  refine zaX (F:=cd102) (hH.has _ _ rfl) rfl (Nat.le_of_ble_eq_true rfl) fun Q hQ hR=>?_;have hE:=hH.callable;dsimp only[cd102,qm,ql,qf,qi,qb,qc,qp,qv,qN,qT,qF,qt]at hQ ⊢
  skip
  unfold stW
  (refine no_implicit_lambda% (st ?_);try with_reducible exact True.intro)
  repeat' (first|refine zaa [0,1,2,3,4,5,8,9,10,11,12,13,17,18,19,20,23,32,49] fun K hK=>?_|refine AWp.block ?_|(refine hK.go ?_;clear hK K)|refine Cont.go (by assumption) ?_|(refine cnd2 rfl (fun h=>?_) (fun h=>?_)<;>(try first|exact h.elim|obtain rfl:(_:Bool)=true:=h|obtain rfl:(_:Bool)=false:=h)<;>first|(exfalso;omega)|skip)|((first|refine AWp.reg hE hM ?_|refine AWp.regd hE hM ?_|refine AWp.ret ?_|refine AWp.skip ?_|refine AWp.exit ?_|(refine pk2 (fun h=>?_) (fun h=>?_)<;>(try first|exact h.elim|obtain rfl:(_:Bool)=true:=h|obtain rfl:(_:Bool)=false:=h))|refine zab (fun h=>?_) ?_|(refine AC.callK 30 (by omega) (by first|omega|((refine no_implicit_lambda% (st ?_);try with_reducible exact True.intro);done)|((refine no_implicit_lambda% (st ?_);try with_reducible exact True.intro);omega)) (zax (F:=cd130) (hH.has _ _ rfl) (Nat.le_of_ble_eq_true rfl) fun Q hQ hR=>?_);dsimp only[cd130,qm,ql,qf,qi,qb,qc,qp,qv,qN,qT,qF,qt]at hQ ⊢)|(refine AC.callK 40 (by omega) (by first|omega|((refine no_implicit_lambda% (st ?_);try with_reducible exact True.intro);done)|((refine no_implicit_lambda% (st ?_);try with_reducible exact True.intro);omega)) (zax (F:=cd107) (hH.has _ _ rfl) (Nat.le_of_ble_eq_true rfl) fun Q hQ hR=>?_);dsimp only[cd107,qm,ql,qf,qi,qb,qc,qp,qv,qN,qT,qF,qt]at hQ ⊢)|(refine zau hM 4 ( c0) ?_ rfl ?_;(focus ((refine no_implicit_lambda% (st ?_);try with_reducible exact True.intro)<;>fail)))|(refine hQ _ _ _ rfl ?_;clear hQ hR)|(refine hR _ _ (hQ _ _ _ rfl ?_);clear hQ hR)|(refine zaf ?_ ?_;focus first|omega|(refine zad ?_;(refine no_implicit_lambda% (st ?_);try with_reducible exact True.intro);done)))<;>try (refine no_implicit_lambda% (st ?_);try with_reducible exact True.intro)))
  all_goals (refine zah (ι:=Nat) [0,1,2,3,8,17,18,19] (fun zz=>[(19,.n zz)]) (fun zz=>[]) (fun zz=>zz≤0) (fun zz=>0-zz) (0) (Nat.zero_le _) (by (try dsimp only);(refine no_implicit_lambda% (st ?_);try with_reducible exact True.intro)<;>first|omega|(simp;done)) (by (try dsimp only);(refine no_implicit_lambda% (st ?_);try with_reducible exact True.intro)<;>first|omega|(simp;done)) ?_;rintro k hk;(try dsimp only at hk ⊢);rcases Nat.lt_or_ge k 0 with hlt|hge)
  all_goals first|(exfalso;omega)|skip
  all_goals repeat' (first|refine zaa [0,1,2,3,4,5,8,9,10,11,12,13,17,18,19,20,23,32,49] fun K hK=>?_|refine AWp.block ?_|(refine hK.go ?_;clear hK K)|refine Cont.go (by assumption) ?_|(refine cnd2 rfl (fun h=>?_) (fun h=>?_)<;>(try first|exact h.elim|obtain rfl:(_:Bool)=true:=h|obtain rfl:(_:Bool)=false:=h)<;>first|(exfalso;omega)|skip)|((first|refine AWp.reg hE hM ?_|refine AWp.regd hE hM ?_|refine AWp.ret ?_|refine AWp.skip ?_|refine AWp.exit ?_|(refine pk2 (fun h=>?_) (fun h=>?_)<;>(try first|exact h.elim|obtain rfl:(_:Bool)=true:=h|obtain rfl:(_:Bool)=false:=h))|refine zab (fun h=>?_) ?_|(refine hQ _ _ _ rfl ?_;clear hQ hR)|(refine hR _ _ (hQ _ _ _ rfl ?_);clear hQ hR)|(refine zaf ?_ ?_;focus first|omega|(refine zad ?_;(refine no_implicit_lambda% (st ?_);try with_reducible exact True.intro);done)))<;>try (refine no_implicit_lambda% (st ?_);try with_reducible exact True.intro)))
  all_goals (have hW':W=⟨inn,asks,outs,true⟩:=(by rw[←hW];split<;>simp_all);subst hW';refine ⟨[],trivial, ?_⟩;simp only[swS,stW,Wk.c];(refine no_implicit_lambda% (st ?_);try with_reducible exact True.intro);(try simp))
 ·rw[h1,Int.zero_add]at c0
  rw[h2]at hW
  by_cases hin:inn.to=s
  ·rw[if_pos hin]at hW
   dsimp only at hW
   have hse:=hp.ends _ (zal hk0)
   revert hW hse
   generalize hS:nth p.sections k0=S
   intro hW hse
   cases lost with
   |true =>
    rw[if_pos rfl]at hW
    subst hW
    refine zaX (F:=cd102) (hH.has _ _ rfl) rfl (Nat.le_of_ble_eq_true rfl) fun Q hQ hR=>?_;have hE:=hH.callable;dsimp only[cd102,qm,ql,qf,qi,qb,qc,qp,qv,qN,qT,qF,qt]at hQ ⊢
    skip
    unfold stW
    (refine no_implicit_lambda% (st ?_);try with_reducible exact True.intro)
    repeat' (first|refine zaa [0,1,2,3,4,5,8,9,10,11,12,13,17,18,19,20,23,32,49] fun K hK=>?_|refine AWp.block ?_|(refine hK.go ?_;clear hK K)|refine Cont.go (by assumption) ?_|(refine cnd2 rfl (fun h=>?_) (fun h=>?_)<;>(try first|exact h.elim|obtain rfl:(_:Bool)=true:=h|obtain rfl:(_:Bool)=false:=h)<;>first|(exfalso;omega)|skip)|((first|refine AWp.reg hE hM ?_|refine AWp.regd hE hM ?_|refine AWp.ret ?_|refine AWp.skip ?_|refine AWp.exit ?_|(refine pk2 (fun h=>?_) (fun h=>?_)<;>(try first|exact h.elim|obtain rfl:(_:Bool)=true:=h|obtain rfl:(_:Bool)=false:=h))|refine zab (fun h=>?_) ?_|(refine AC.callK 30 (by omega) (by first|omega|(simp -dsimp -implicitDefEqProofs (disch:=omega) only[go_sem,reduceIte,↓reduceIte,Nat.reduceEqDiff,Nat.reduceLT,Nat.reduceLeDiff,Nat.reduceAdd,Nat.reduceSub,Nat.reduceMul,Int.reduceToNat,Int.reduceLT,Int.reduceLE,Int.reduceEq,Int.reduceNeg,Int.reduceNe,reduceCtorEq,hS];done)|(simp -dsimp -implicitDefEqProofs (disch:=omega) only[go_sem,reduceIte,↓reduceIte,Nat.reduceEqDiff,Nat.reduceLT,Nat.reduceLeDiff,Nat.reduceAdd,Nat.reduceSub,Nat.reduceMul,Int.reduceToNat,Int.reduceLT,Int.reduceLE,Int.reduceEq,Int.reduceNeg,Int.reduceNe,reduceCtorEq,hS];omega)) (zax (F:=cd130) (hH.has _ _ rfl) (Nat.le_of_ble_eq_true rfl) fun Q hQ hR=>?_);dsimp only[cd130,qm,ql,qf,qi,qb,qc,qp,qv,qN,qT,qF,qt]at hQ ⊢)|(refine AC.callK 40 (by omega) (by first|omega|(simp -dsimp -implicitDefEqProofs (disch:=omega) only[go_sem,reduceIte,↓reduceIte,Nat.reduceEqDiff,Nat.reduceLT,Nat.reduceLeDiff,Nat.reduceAdd,Nat.reduceSub,Nat.reduceMul,Int.reduceToNat,Int.reduceLT,Int.reduceLE,Int.reduceEq,Int.reduceNeg,Int.reduceNe,reduceCtorEq,hS];done)|(simp -dsimp -implicitDefEqProofs (disch:=omega) only[go_sem,reduceIte,↓reduceIte,Nat.reduceEqDiff,Nat.reduceLT,Nat.reduceLeDiff,Nat.reduceAdd,Nat.reduceSub,Nat.reduceMul,Int.reduceToNat,Int.reduceLT,Int.reduceLE,Int.reduceEq,Int.reduceNeg,Int.reduceNe,reduceCtorEq,hS];omega)) (zax (F:=cd107) (hH.has _ _ rfl) (Nat.le_of_ble_eq_true rfl) fun Q hQ hR=>?_);dsimp only[cd107,qm,ql,qf,qi,qb,qc,qp,qv,qN,qT,qF,qt]at hQ ⊢)|(refine zau hM 4 ( c0) ?_ rfl ?_;(focus (simp -dsimp -implicitDefEqProofs (disch:=omega) only[go_sem,reduceIte,↓reduceIte,Nat.reduceEqDiff,Nat.reduceLT,Nat.reduceLeDiff,Nat.reduceAdd,Nat.reduceSub,Nat.reduceMul,Int.reduceToNat,Int.reduceLT,Int.reduceLE,Int.reduceEq,Int.reduceNeg,Int.reduceNe,reduceCtorEq,hS]<;>fail)))|(refine hQ _ _ _ rfl ?_;clear hQ hR)|(refine hR _ _ (hQ _ _ _ rfl ?_);clear hQ hR)|(refine zaf ?_ ?_;focus first|omega|(refine zad ?_;(refine no_implicit_lambda% (st ?_);try with_reducible exact True.intro);done)))<;>try simp -dsimp -implicitDefEqProofs (disch:=omega) only[go_sem,reduceIte,↓reduceIte,Nat.reduceEqDiff,Nat.reduceLT,Nat.reduceLeDiff,Nat.reduceAdd,Nat.reduceSub,Nat.reduceMul,Int.reduceToNat,Int.reduceLT,Int.reduceLE,Int.reduceEq,Int.reduceNeg,Int.reduceNe,reduceCtorEq,hS]))
    all_goals first|(exfalso;contradiction)|skip
    refine zah (ι:=Nat) [0,1,2,3,8,17,18,19] (fun zz=>[(19,.n zz)]) (fun zz=>[]) (fun zz=>zz≤S.ends.length) (fun zz=>S.ends.length-zz) (0) (Nat.zero_le _) (by (try dsimp only);(refine no_implicit_lambda% (st ?_);try with_reducible exact True.intro)<;>first|omega|(simp;done)) (by (try dsimp only);(refine no_implicit_lambda% (st ?_);try with_reducible exact True.intro)<;>first|omega|(simp;done)) ?_;rintro k hk;(try dsimp only at hk ⊢);rcases Nat.lt_or_ge k S.ends.length with hlt|hge
    ·have c1:=zb4 hH S inn.ed k
     revert c1
     generalize zbf S inn.ed k=v
     intro c1
     repeat' (first|refine zaa [0,1,2,3,4,5,8,9,10,11,12,13,17,18,19,20,23,32,49] fun K hK=>?_|refine AWp.block ?_|(refine hK.go ?_;clear hK K)|refine Cont.go (by assumption) ?_|(refine cnd2 rfl (fun h=>?_) (fun h=>?_)<;>(try first|exact h.elim|obtain rfl:(_:Bool)=true:=h|obtain rfl:(_:Bool)=false:=h)<;>first|(exfalso;omega)|skip)|((first|refine AWp.reg hE hM ?_|refine AWp.regd hE hM ?_|refine AWp.ret ?_|refine AWp.skip ?_|refine AWp.exit ?_|(refine pk2 (fun h=>?_) (fun h=>?_)<;>(try first|exact h.elim|obtain rfl:(_:Bool)=true:=h|obtain rfl:(_:Bool)=false:=h))|refine zab (fun h=>?_) ?_|refine zac hM (c1) ?_|(refine hQ _ _ _ rfl ?_;clear hQ hR)|(refine hR _ _ (hQ _ _ _ rfl ?_);clear hQ hR)|(refine zaf ?_ ?_;focus first|omega|(refine zad ?_;(refine no_implicit_lambda% (st ?_);try with_reducible exact True.intro);done)))<;>try (refine no_implicit_lambda% (st ?_);try with_reducible exact True.intro)))
     all_goals exact ⟨k+1,by omega,by omega,by omega⟩
    ·repeat' (first|refine zaa [0,1,2,3,4,5,8,9,10,11,12,13,17,18,19,20,23,32,49] fun K hK=>?_|refine AWp.block ?_|(refine hK.go ?_;clear hK K)|refine Cont.go (by assumption) ?_|(refine cnd2 rfl (fun h=>?_) (fun h=>?_)<;>(try first|exact h.elim|obtain rfl:(_:Bool)=true:=h|obtain rfl:(_:Bool)=false:=h)<;>first|(exfalso;omega)|skip)|((first|refine AWp.reg hE hM ?_|refine AWp.regd hE hM ?_|refine AWp.ret ?_|refine AWp.skip ?_|refine AWp.exit ?_|(refine pk2 (fun h=>?_) (fun h=>?_)<;>(try first|exact h.elim|obtain rfl:(_:Bool)=true:=h|obtain rfl:(_:Bool)=false:=h))|refine zab (fun h=>?_) ?_|(refine hQ _ _ _ rfl ?_;clear hQ hR)|(refine hR _ _ (hQ _ _ _ rfl ?_);clear hQ hR)|(refine zaf ?_ ?_;focus first|omega|(refine zad ?_;(refine no_implicit_lambda% (st ?_);try with_reducible exact True.intro);done)))<;>try (refine no_implicit_lambda% (st ?_);try with_reducible exact True.intro)))
     refine ⟨[],trivial, ?_⟩;simp only[swS,stW,Wk.c];(refine no_implicit_lambda% (st ?_);try with_reducible exact True.intro);(try simp)
   |false =>
    rw[if_neg (by simp)]at hW
    refine zaX (F:=cd102) (hH.has _ _ rfl) rfl (Nat.le_of_ble_eq_true rfl) fun Q hQ hR=>?_;have hE:=hH.callable;dsimp only[cd102,qm,ql,qf,qi,qb,qc,qp,qv,qN,qT,qF,qt]at hQ ⊢
    skip
    unfold stW
    (refine no_implicit_lambda% (st ?_);try with_reducible exact True.intro)
    repeat' (first|refine zaa [0,1,2,3,4,5,8,9,10,11,12,13,17,18,19,20,23,32,49] fun K hK=>?_|refine AWp.block ?_|(refine hK.go ?_;clear hK K)|refine Cont.go (by assumption) ?_|(refine cnd2 rfl (fun h=>?_) (fun h=>?_)<;>(try first|exact h.elim|obtain rfl:(_:Bool)=true:=h|obtain rfl:(_:Bool)=false:=h)<;>first|(exfalso;omega)|skip)|((first|refine AWp.reg hE hM ?_|refine AWp.regd hE hM ?_|refine AWp.ret ?_|refine AWp.skip ?_|refine AWp.exit ?_|(refine pk2 (fun h=>?_) (fun h=>?_)<;>(try first|exact h.elim|obtain rfl:(_:Bool)=true:=h|obtain rfl:(_:Bool)=false:=h))|refine zab (fun h=>?_) ?_|(refine AC.callK 30 (by omega) (by first|omega|(simp -dsimp -implicitDefEqProofs (disch:=omega) only[go_sem,reduceIte,↓reduceIte,Nat.reduceEqDiff,Nat.reduceLT,Nat.reduceLeDiff,Nat.reduceAdd,Nat.reduceSub,Nat.reduceMul,Int.reduceToNat,Int.reduceLT,Int.reduceLE,Int.reduceEq,Int.reduceNeg,Int.reduceNe,reduceCtorEq,hS];done)|(simp -dsimp -implicitDefEqProofs (disch:=omega) only[go_sem,reduceIte,↓reduceIte,Nat.reduceEqDiff,Nat.reduceLT,Nat.reduceLeDiff,Nat.reduceAdd,Nat.reduceSub,Nat.reduceMul,Int.reduceToNat,Int.reduceLT,Int.reduceLE,Int.reduceEq,Int.reduceNeg,Int.reduceNe,reduceCtorEq,hS];omega)) (zax (F:=cd130) (hH.has _ _ rfl) (Nat.le_of_ble_eq_true rfl) fun Q hQ hR=>?_);dsimp only[cd130,qm,ql,qf,qi,qb,qc,qp,qv,qN,qT,qF,qt]at hQ ⊢)|(refine AC.callK 40 (by omega) (by first|omega|(simp -dsimp -implicitDefEqProofs (disch:=omega) only[go_sem,reduceIte,↓reduceIte,Nat.reduceEqDiff,Nat.reduceLT,Nat.reduceLeDiff,Nat.reduceAdd,Nat.reduceSub,Nat.reduceMul,Int.reduceToNat,Int.reduceLT,Int.reduceLE,Int.reduceEq,Int.reduceNeg,Int.reduceNe,reduceCtorEq,hS];done)|(simp -dsimp -implicitDefEqProofs (disch:=omega) only[go_sem,reduceIte,↓reduceIte,Nat.reduceEqDiff,Nat.reduceLT,Nat.reduceLeDiff,Nat.reduceAdd,Nat.reduceSub,Nat.reduceMul,Int.reduceToNat,Int.reduceLT,Int.reduceLE,Int.reduceEq,Int.reduceNeg,Int.reduceNe,reduceCtorEq,hS];omega)) (zax (F:=cd107) (hH.has _ _ rfl) (Nat.le_of_ble_eq_true rfl) fun Q hQ hR=>?_);dsimp only[cd107,qm,ql,qf,qi,qb,qc,qp,qv,qN,qT,qF,qt]at hQ ⊢)|(refine zau hM 4 ( c0) ?_ rfl ?_;(focus (simp -dsimp -implicitDefEqProofs (disch:=omega) only[go_sem,reduceIte,↓reduceIte,Nat.reduceEqDiff,Nat.reduceLT,Nat.reduceLeDiff,Nat.reduceAdd,Nat.reduceSub,Nat.reduceMul,Int.reduceToNat,Int.reduceLT,Int.reduceLE,Int.reduceEq,Int.reduceNeg,Int.reduceNe,reduceCtorEq,hS]<;>fail)))|(refine hQ _ _ _ rfl ?_;clear hQ hR)|(refine hR _ _ (hQ _ _ _ rfl ?_);clear hQ hR)|(refine zaf ?_ ?_;focus first|omega|(refine zad ?_;(refine no_implicit_lambda% (st ?_);try with_reducible exact True.intro);done)))<;>try simp -dsimp -implicitDefEqProofs (disch:=omega) only[go_sem,reduceIte,↓reduceIte,Nat.reduceEqDiff,Nat.reduceLT,Nat.reduceLeDiff,Nat.reduceAdd,Nat.reduceSub,Nat.reduceMul,Int.reduceToNat,Int.reduceLT,Int.reduceLE,Int.reduceEq,Int.reduceNeg,Int.reduceNe,reduceCtorEq,hS]))
    all_goals first|(exfalso;contradiction)|skip
    refine zah (ι:=Nat) [0,1,2,3,8,17,18,19] (fun zz=>[(19,.n zz)]) (fun zz=>[]) (fun zz=>zz≤S.ends.length∧(zbv S inn.ed (fun _ j=>decide (j.to=nth all (i+1))) zz (S.ends.drop zz)=zbv S inn.ed (fun _ j=>decide (j.to=nth all (i+1))) 0 S.ends)) (fun zz=>S.ends.length-zz) (0) ⟨Nat.zero_le _,(by first|rfl|assumption|omega|(simp;done)|(simp;omega)|grind)⟩ (by (try dsimp only);(refine no_implicit_lambda% (st ?_);try with_reducible exact True.intro)<;>first|omega|(simp;done)) (by (try dsimp only);(refine no_implicit_lambda% (st ?_);try with_reducible exact True.intro)<;>first|omega|(simp;done)) ?_;rintro k ⟨hk,hg⟩;(try dsimp only at hk hg ⊢);rcases Nat.lt_or_ge k S.ends.length with hlt|hge
    ·rw[zap hlt,zbv]at hg
     have c1:=zb4 hH S inn.ed k
     have c2:=znB hH k (nth S.ends k) all i hi ha
     revert c1 c2 hg
     generalize zbf S inn.ed k=v
     generalize hb:decide ((nth S.ends k).to=nth all (i+1))=b
     intro hg c1 c2
     repeat' (first|refine zaa [0,1,2,3,4,5,8,9,10,11,12,13,17,18,19,20,23,32,49] fun K hK=>?_|refine AWp.block ?_|(refine hK.go ?_;clear hK K)|refine Cont.go (by assumption) ?_|(refine cnd2 rfl (fun h=>?_) (fun h=>?_)<;>(try first|exact h.elim|obtain rfl:(_:Bool)=true:=h|obtain rfl:(_:Bool)=false:=h)<;>first|(exfalso;omega)|skip)|((first|refine AWp.reg hE hM ?_|refine AWp.regd hE hM ?_|refine AWp.ret ?_|refine AWp.skip ?_|refine AWp.exit ?_|(refine pk2 (fun h=>?_) (fun h=>?_)<;>(try first|exact h.elim|obtain rfl:(_:Bool)=true:=h|obtain rfl:(_:Bool)=false:=h))|refine zab (fun h=>?_) ?_|refine zac hM (c1) ?_|(refine zau hM 4 ( c2) ?_ rfl ?_;(focus ((refine no_implicit_lambda% (st ?_);try with_reducible exact True.intro)<;>fail)))|(refine AC.callK 40 (by omega) (by first|omega|((refine no_implicit_lambda% (st ?_);try with_reducible exact True.intro);done)|((refine no_implicit_lambda% (st ?_);try with_reducible exact True.intro);omega)) (zax (F:=cd107) (hH.has _ _ rfl) (Nat.le_of_ble_eq_true rfl) fun Q hQ hR=>?_);dsimp only[cd107,qm,ql,qf,qi,qb,qc,qp,qv,qN,qT,qF,qt]at hQ ⊢)|(refine hQ _ _ _ rfl ?_;clear hQ hR)|(refine hR _ _ (hQ _ _ _ rfl ?_);clear hQ hR)|(refine zaf ?_ ?_;focus first|omega|(refine zad ?_;(refine no_implicit_lambda% (st ?_);try with_reducible exact True.intro);done)))<;>try (refine no_implicit_lambda% (st ?_);try with_reducible exact True.intro)))
     all_goals first|(refine ⟨k+1,by omega,⟨by omega, ?_⟩,by omega⟩;rw[←hg,if_neg (by simp[*])];done)|skip
     all_goals (rw[if_pos ⟨by assumption,rfl⟩]at hg;rw[←hg]at hW;dsimp only at hW)
     all_goals (first|rw[if_pos ⟨by assumption,by assumption⟩]at hW|rw[if_neg (fun hh=>absurd hh.1 (by assumption))]at hW|rw[if_neg (fun hh=>absurd hh.2 (by assumption))]at hW)
     all_goals (subst hW;refine ⟨[],trivial, ?_⟩;simp only[swS,stW,Wk.c];(refine no_implicit_lambda% (st ?_);try with_reducible exact True.intro);(try simp[AskR.c,Join.c]))
    ·rw[List.drop_eq_nil_of_le hge,zbv]at hg
     repeat' (first|refine zaa [0,1,2,3,4,5,8,9,10,11,12,13,17,18,19,20,23,32,49] fun K hK=>?_|refine AWp.block ?_|(refine hK.go ?_;clear hK K)|refine Cont.go (by assumption) ?_|(refine cnd2 rfl (fun h=>?_) (fun h=>?_)<;>(try first|exact h.elim|obtain rfl:(_:Bool)=true:=h|obtain rfl:(_:Bool)=false:=h)<;>first|(exfalso;omega)|skip)|((first|refine AWp.reg hE hM ?_|refine AWp.regd hE hM ?_|refine AWp.ret ?_|refine AWp.skip ?_|refine AWp.exit ?_|(refine pk2 (fun h=>?_) (fun h=>?_)<;>(try first|exact h.elim|obtain rfl:(_:Bool)=true:=h|obtain rfl:(_:Bool)=false:=h))|refine zab (fun h=>?_) ?_|(refine hQ _ _ _ rfl ?_;clear hQ hR)|(refine hR _ _ (hQ _ _ _ rfl ?_);clear hQ hR)|(refine zaf ?_ ?_;focus first|omega|(refine zad ?_;(refine no_implicit_lambda% (st ?_);try with_reducible exact True.intro);done)))<;>try (refine no_implicit_lambda% (st ?_);try with_reducible exact True.intro)))
     rw[←hg]at hW
     dsimp only at hW
     subst hW
     refine ⟨[],trivial, ?_⟩;simp only[swS,stW,Wk.c];(refine no_implicit_lambda% (st ?_);try with_reducible exact True.intro);(try simp)
  ·have hW':W=⟨inn,asks,outs,true⟩:=by rw[←hW,if_neg hin];split<;>simp_all
   clear hW
   refine zaX (F:=cd102) (hH.has _ _ rfl) rfl (Nat.le_of_ble_eq_true rfl) fun Q hQ hR=>?_;have hE:=hH.callable;dsimp only[cd102,qm,ql,qf,qi,qb,qc,qp,qv,qN,qT,qF,qt]at hQ ⊢
   skip
   unfold stW
   (refine no_implicit_lambda% (st ?_);try with_reducible exact True.intro)
   repeat' (first|refine zaa [0,1,2,3,4,5,8,9,10,11,12,13,17,18,19,20,23,32,49] fun K hK=>?_|refine AWp.block ?_|(refine hK.go ?_;clear hK K)|refine Cont.go (by assumption) ?_|(refine cnd2 rfl (fun h=>?_) (fun h=>?_)<;>(try first|exact h.elim|obtain rfl:(_:Bool)=true:=h|obtain rfl:(_:Bool)=false:=h)<;>first|(exfalso;omega)|skip)|((first|refine AWp.reg hE hM ?_|refine AWp.regd hE hM ?_|refine AWp.ret ?_|refine AWp.skip ?_|refine AWp.exit ?_|(refine pk2 (fun h=>?_) (fun h=>?_)<;>(try first|exact h.elim|obtain rfl:(_:Bool)=true:=h|obtain rfl:(_:Bool)=false:=h))|refine zab (fun h=>?_) ?_|(refine AC.callK 30 (by omega) (by first|omega|((refine no_implicit_lambda% (st ?_);try with_reducible exact True.intro);done)|((refine no_implicit_lambda% (st ?_);try with_reducible exact True.intro);omega)) (zax (F:=cd130) (hH.has _ _ rfl) (Nat.le_of_ble_eq_true rfl) fun Q hQ hR=>?_);dsimp only[cd130,qm,ql,qf,qi,qb,qc,qp,qv,qN,qT,qF,qt]at hQ ⊢)|(refine AC.callK 40 (by omega) (by first|omega|((refine no_implicit_lambda% (st ?_);try with_reducible exact True.intro);done)|((refine no_implicit_lambda% (st ?_);try with_reducible exact True.intro);omega)) (zax (F:=cd107) (hH.has _ _ rfl) (Nat.le_of_ble_eq_true rfl) fun Q hQ hR=>?_);dsimp only[cd107,qm,ql,qf,qi,qb,qc,qp,qv,qN,qT,qF,qt]at hQ ⊢)|(refine zau hM 4 ( c0) ?_ rfl ?_;(focus ((refine no_implicit_lambda% (st ?_);try with_reducible exact True.intro)<;>fail)))|(refine hQ _ _ _ rfl ?_;clear hQ hR)|(refine hR _ _ (hQ _ _ _ rfl ?_);clear hQ hR)|(refine zaf ?_ ?_;focus first|omega|(refine zad ?_;(refine no_implicit_lambda% (st ?_);try with_reducible exact True.intro);done)))<;>try (refine no_implicit_lambda% (st ?_);try with_reducible exact True.intro)))
   all_goals first|(exfalso;contradiction)|skip
   all_goals (refine zah (ι:=Nat) [0,1,2,3,8,17,18,19] (fun zz=>[(19,.n zz)]) (fun zz=>[]) (fun zz=>zz≤0) (fun zz=>0-zz) (0) (Nat.zero_le _) (by (try dsimp only);(refine no_implicit_lambda% (st ?_);try with_reducible exact True.intro)<;>first|omega|(simp;done)) (by (try dsimp only);(refine no_implicit_lambda% (st ?_);try with_reducible exact True.intro)<;>first|omega|(simp;done)) ?_;rintro k hk;(try dsimp only at hk ⊢);rcases Nat.lt_or_ge k 0 with hlt|hge)
   all_goals first|(exfalso;omega)|skip
   all_goals repeat' (first|refine zaa [0,1,2,3,4,5,8,9,10,11,12,13,17,18,19,20,23,32,49] fun K hK=>?_|refine AWp.block ?_|(refine hK.go ?_;clear hK K)|refine Cont.go (by assumption) ?_|(refine cnd2 rfl (fun h=>?_) (fun h=>?_)<;>(try first|exact h.elim|obtain rfl:(_:Bool)=true:=h|obtain rfl:(_:Bool)=false:=h)<;>first|(exfalso;omega)|skip)|((first|refine AWp.reg hE hM ?_|refine AWp.regd hE hM ?_|refine AWp.ret ?_|refine AWp.skip ?_|refine AWp.exit ?_|(refine pk2 (fun h=>?_) (fun h=>?_)<;>(try first|exact h.elim|obtain rfl:(_:Bool)=true:=h|obtain rfl:(_:Bool)=false:=h))|refine zab (fun h=>?_) ?_|(refine hQ _ _ _ rfl ?_;clear hQ hR)|(refine hR _ _ (hQ _ _ _ rfl ?_);clear hQ hR)|(refine zaf ?_ ?_;focus first|omega|(refine zad ?_;(refine no_implicit_lambda% (st ?_);try with_reducible exact True.intro);done)))<;>try (refine no_implicit_lambda% (st ?_);try with_reducible exact True.intro)))
   all_goals (subst hW';refine ⟨[],trivial, ?_⟩;simp only[swS,stW,Wk.c];(refine no_implicit_lambda% (st ?_);try with_reducible exact True.intro);(try simp))
end Go.Lev
namespace Go.Lev
open Go.Eng
set_option maxRecDepth 10000
set_option maxHeartbeats 4000000
variable {P:Program} {inv:Nat→Option Nat} {w0:World} {M:Nat→Prop}
abbrev WayR:=Go.Eng.Way
def zmF (x:Sgn):Join→List Section→Join
 |j,[]=>j
 |j,s::r=>zmF x (if s.id=x.sec then nth s.ends x.ed.toNat else j) r
def zgr (p:Pln) (r:Rte) (y:Sgn) (all:List Int) (i:Nat) (s:Int) (w:Wk):Wk :=
 if (i:Int)=(r.path.length:Int)-1∧r.exit=0 then zaM p w s i fun _ j=>decide (j=⟨0,0⟩)
 else if (i:Int)=(r.path.length:Int)-1 then zaM p w s i fun e _=>decide (s=y.sec)&&decide (e=y.ed)
 else if (i:Int)=(all.length:Int)-1 then zeH p w s i
 else zaM p w s i fun _ j=>decide (j.to=nth all (i+1))
def zct (p:Pln) (r:Rte) (y:Sgn) (all:List Int):Nat→Wk→List Int→Wk
 |_,w,[]=>w
 |i,w,s::l=>zct p r y all (i+1) (zgr p r y all i s w) l
def zhM:List AskR→List Flk→List AskR
 |l,[]=>l
 |l,f::r=>zhM (zmT f.pnt f.lie (-1) l) r
def zii (p:Pln) (r:Rte):Wk:=zct p r (sig p r.exit) (r.path++r.over) 0 ⟨zmF (sig p r.entry) ⟨0,0⟩ p.sections,[],[],false⟩ (r.path++r.over)
def zak (p:Pln) (r:Rte):WayR×List Join×Int :=
 if (zii p r).lost=true then (⟨[],[],[],0⟩,[],90) else (⟨r.path,r.over,zhM (zii p r).asks r.flanks,(sig p r.entry).sec⟩,(zii p r).outs,0)
theorem zi7 (a b c:Int) (l:List AskR):(zmT a b c l).length≤l.length+1:=by unfold zmT;split<;>simp
theorem zcO (p:Pln) (w:Wk) (s i:Int) (R:Int→Join→Bool):(zaM p w s i R).asks.length≤w.asks.length+1∧(zaM p w s i R).outs.length≤w.outs.length+1:=by
 unfold zaM
 split
 ·omega
 ·split
  ·dsimp only;omega
  ·split
   ·dsimp only;omega
   ·refine ⟨zi7 _ _ _ _,by simp⟩
theorem zjf (p:Pln) (w:Wk) (s i:Int):(zeH p w s i).asks.length≤w.asks.length+1∧(zeH p w s i).outs.length≤w.outs.length+1:=by
 unfold zeH
 split
 ·dsimp only;omega
 ·split
  ·refine ⟨zi7 _ _ _ _,by simp⟩
  ·omega
def zlk (p:Pln) (r:Rte):Prop:=∀ s∈p.sections,s.id=(sig p r.entry).sec→0≤(sig p r.entry).ed∧(sig p r.entry).ed<s.ends.length
theorem dropRow {n N:Nat} {φ:List (Nat×AV)} {σ:List (Nat×AO)} {c:ACode} {Q:Exit→List (Nat×AV)→List (Nat×AO)→Prop} (l:Nat) (h:AWp P inv w0 M N n c Q φ (zhX σ l)):AWp P inv w0 M N n c Q φ σ:=by
 have hsd:∀ l' o,zaF (zhX σ l) l'=some o→zaF σ l'=some o:=by
  intro l' o e
  rw[zeN]at e
  split at e
  ·cases e
  ·exact e
 intro c₀ hc β a w hs
 have hd:=fun N=>hs.mem.drop hsd N
 have hs':St inv w0 M n φ (zhX σ l) β a w:=⟨⟨fun i=>(hd (zaN φ)).2.rel (zaJ _ (zbq φ i)) (hs.slots i),(hd 0).1⟩,hs.size,hs.defers⟩
 exact Code.wp_mono (fun _ _ _ ⟨φ2,σ2,β2,q2,hst2,hext2⟩=>⟨φ2,σ2,β2,q2,hst2,(hd N).2.trans hext2⟩) (h c₀ hc β a w hs')
theorem zk5 (hH:HasAll P inv) (p:Pln) (hp:Sm p) (r:Rte) (hr:r.path.length≤1000∧r.over.length≤1000∧r.flanks.length≤1000) (he:zlk p r):PC P inv 90 [.agg p.c,.agg r.c] (·=.tup [.agg (zak p r).1.c,.sl 2 ((zak p r).2.1.map Join.c),.n (zak p r).2.2]):=by
 have c1:=zjm hH p hp r.entry
 have c2:=zjm hH p hp r.exit
 have c3:=zj7 hH [r.path,r.over] (by simp) (by simp[ziP];omega)
 have hl:=hp.sec
 have hall:∃ all,all=r.path++r.over:=⟨_,rfl⟩
 obtain ⟨all,hall⟩:=hall
 have hal:all.length≤2000∧r.path.length≤all.length:=by rw[hall];simp;omega
 rw[show [r.path,r.over].flatten=all by rw[hall];simp]at c3
 obtain ⟨ans,ha⟩:∃ ans,ans=zak p r:=⟨_,rfl⟩
 rw[←ha]
 unfold zak zii at ha
 rw[←hall]at ha
 unfold zlk at he
 revert ha he c1 c2
 generalize sig p r.entry=x
 generalize sig p r.exit=y
 intro he c1 c2 ha
 refine zae (F:=cd90) (hH.has _ _ rfl) (Nat.le_of_ble_eq_true rfl) fun w0 M Q hM hQ hR=>?_;have hE:=hH.callable;dsimp only[cd90,qm,ql,qf,qi,qb,qc,qp,qv,qN,qT,qF,qt]at hQ ⊢
 repeat' (first|refine zaa [0,1,2,3,4,5,6,7,8,9,11,12,13,14,16,29,30,31,32,39,56,57,58,59,68,84,96,110,113,114,115,116] fun K hK=>?_|refine AWp.block ?_|(refine hK.go ?_;clear hK K)|refine Cont.go (by assumption) ?_|(refine cnd2 rfl (fun h=>?_) (fun h=>?_)<;>(try first|exact h.elim|obtain rfl:(_:Bool)=true:=h|obtain rfl:(_:Bool)=false:=h)<;>first|(exfalso;omega)|skip)|((first|refine AWp.reg hE hM ?_|refine AWp.regd hE hM ?_|refine AWp.ret ?_|refine AWp.skip ?_|refine AWp.exit ?_|(refine pk2 (fun h=>?_) (fun h=>?_)<;>(try first|exact h.elim|obtain rfl:(_:Bool)=true:=h|obtain rfl:(_:Bool)=false:=h))|refine zab (fun h=>?_) ?_|refine zcV hM ( c1) ?_|refine zcV hM ( c2) ?_|(refine hQ _ _ _ rfl ?_;clear hQ hR hE hM)|(refine hR _ _ (hQ _ _ _ rfl ?_);clear hQ hR hE hM)|(refine zaf ?_ ?_;focus first|omega|(refine zad ?_;(refine no_implicit_lambda% (st ?_);try with_reducible exact True.intro);done)))<;>try (refine no_implicit_lambda% (st ?_);try with_reducible exact True.intro)))
 refine zah (ι:=Nat×Join) [3,4,5,6,7,8,9,29,30,31] (fun zz=>[(31,.n zz.1)]) (fun zz=>[(5,.cells [.n p.version,.n p.parent,.sl 3 (p.sections.map Section.c),.sl 2 (p.points.map Pnt.c),.sl 3 (p.signals.map Sgn.c),.sl 7 (p.routes.map Rte.c),.n zz.2.to,.n zz.2.ed,.s0 3,.s0 2,.b false] true)]) (fun zz=>zz.1≤p.sections.length∧(zmF x zz.2 (p.sections.drop zz.1)=zmF x ⟨0,0⟩ p.sections)) (fun zz=>p.sections.length-zz.1) (0,(⟨0,0⟩:Join)) ⟨Nat.zero_le _,(by first|rfl|assumption|omega|(simp;done)|(simp;omega)|grind)⟩ (by (try dsimp only);(refine no_implicit_lambda% (st ?_);try with_reducible exact True.intro)<;>first|omega|(simp;done)) (by (try dsimp only);(refine no_implicit_lambda% (st ?_);try with_reducible exact True.intro)<;>first|omega|(simp;done)) ?_;rintro ⟨k,j⟩ ⟨hk,hg⟩;(try dsimp only at hk hg ⊢);rcases Nat.lt_or_ge k p.sections.length with hlt|hge
 ·rw[zap hlt]at hg
  rw[zmF]at hg
  have hx:=he _ (zal hlt)
  by_cases hid:(nth p.sections k).id=x.sec
  ·have hx':=hx hid
   rw[if_pos hid]at hg
   repeat' (first|refine zaa [0,1,2,3,4,5,6,7,8,9,11,12,13,14,16,29,30,31,32,39,56,57,58,59,68,84,96,110,113,114,115,116] fun K hK=>?_|refine AWp.block ?_|(refine hK.go ?_;clear hK K)|refine Cont.go (by assumption) ?_|(refine cnd2 rfl (fun h=>?_) (fun h=>?_)<;>(try first|exact h.elim|obtain rfl:(_:Bool)=true:=h|obtain rfl:(_:Bool)=false:=h)<;>first|(exfalso;omega)|skip)|((first|refine AWp.reg hE hM ?_|refine AWp.regd hE hM ?_|refine AWp.ret ?_|refine AWp.skip ?_|refine AWp.exit ?_|(refine pk2 (fun h=>?_) (fun h=>?_)<;>(try first|exact h.elim|obtain rfl:(_:Bool)=true:=h|obtain rfl:(_:Bool)=false:=h))|refine zab (fun h=>?_) ?_|(refine hQ _ _ _ rfl ?_;clear hQ hR hE hM)|(refine hR _ _ (hQ _ _ _ rfl ?_);clear hQ hR hE hM)|(refine zaf ?_ ?_;focus first|omega|(refine zad ?_;(refine no_implicit_lambda% (st ?_);try with_reducible exact True.intro);done)))<;>try (refine no_implicit_lambda% (st ?_);try with_reducible exact True.intro)))
   refine ⟨(k+1,nth (nth p.sections k).ends x.ed.toNat),by (try dsimp only);omega,⟨by (try dsimp only);omega,hg⟩, ?_⟩;(try dsimp only);(first|omega|(simp;done)|(simp;omega)|((refine no_implicit_lambda% (st ?_);try with_reducible exact True.intro);done)|(simp[List.map_set, *];done)|(simp[List.map_set, *];rfl)|((refine no_implicit_lambda% (st ?_);try with_reducible exact True.intro);simp[List.map_set, *];done)|((try (refine no_implicit_lambda% (st ?_);try with_reducible exact True.intro));(repeat' refine And.intro ?_ ?_)<;>first|omega|rfl|(simp;done)|(simp;omega)|(simp;rfl)|(simp[List.map_set, *];done)|(simp[List.map_set, *];rfl)))
  ·rw[if_neg hid]at hg
   repeat' (first|refine zaa [0,1,2,3,4,5,6,7,8,9,11,12,13,14,16,29,30,31,32,39,56,57,58,59,68,84,96,110,113,114,115,116] fun K hK=>?_|refine AWp.block ?_|(refine hK.go ?_;clear hK K)|refine Cont.go (by assumption) ?_|(refine cnd2 rfl (fun h=>?_) (fun h=>?_)<;>(try first|exact h.elim|obtain rfl:(_:Bool)=true:=h|obtain rfl:(_:Bool)=false:=h)<;>first|(exfalso;omega)|skip)|((first|refine AWp.reg hE hM ?_|refine AWp.regd hE hM ?_|refine AWp.ret ?_|refine AWp.skip ?_|refine AWp.exit ?_|(refine pk2 (fun h=>?_) (fun h=>?_)<;>(try first|exact h.elim|obtain rfl:(_:Bool)=true:=h|obtain rfl:(_:Bool)=false:=h))|refine zab (fun h=>?_) ?_|(refine hQ _ _ _ rfl ?_;clear hQ hR hE hM)|(refine hR _ _ (hQ _ _ _ rfl ?_);clear hQ hR hE hM)|(refine zaf ?_ ?_;focus first|omega|(refine zad ?_;(refine no_implicit_lambda% (st ?_);try with_reducible exact True.intro);done)))<;>try (refine no_implicit_lambda% (st ?_);try with_reducible exact True.intro)))
   refine ⟨(k+1,j),by (try dsimp only);omega,⟨by (try dsimp only);omega,hg⟩, ?_⟩;(try dsimp only);(first|omega|(simp;done)|(simp;omega)|((refine no_implicit_lambda% (st ?_);try with_reducible exact True.intro);done)|(simp[List.map_set, *];done)|(simp[List.map_set, *];rfl)|((refine no_implicit_lambda% (st ?_);try with_reducible exact True.intro);simp[List.map_set, *];done)|((try (refine no_implicit_lambda% (st ?_);try with_reducible exact True.intro));(repeat' refine And.intro ?_ ?_)<;>first|omega|rfl|(simp;done)|(simp;omega)|(simp;rfl)|(simp[List.map_set, *];done)|(simp[List.map_set, *];rfl)))
 ·rw[List.drop_eq_nil_of_le hge,zmF]at hg
  subst hg
  repeat' (first|refine zaa [0,1,2,3,4,5,6,7,8,9,11,12,13,14,16,29,30,31,32,39,56,57,58,59,68,84,96,110,113,114,115,116] fun K hK=>?_|refine AWp.block ?_|(refine hK.go ?_;clear hK K)|refine Cont.go (by assumption) ?_|(refine cnd2 rfl (fun h=>?_) (fun h=>?_)<;>(try first|exact h.elim|obtain rfl:(_:Bool)=true:=h|obtain rfl:(_:Bool)=false:=h)<;>first|(exfalso;omega)|skip)|((first|refine AWp.reg hE hM ?_|refine AWp.regd hE hM ?_|refine AWp.ret ?_|refine AWp.skip ?_|refine AWp.exit ?_|(refine pk2 (fun h=>?_) (fun h=>?_)<;>(try first|exact h.elim|obtain rfl:(_:Bool)=true:=h|obtain rfl:(_:Bool)=false:=h))|refine zab (fun h=>?_) ?_|refine zac hM (c3) ?_|(refine hQ _ _ _ rfl ?_;clear hQ hR hE hM)|(refine hR _ _ (hQ _ _ _ rfl ?_);clear hQ hR hE hM)|(refine zaf ?_ ?_;focus first|omega|(refine zad ?_;(refine no_implicit_lambda% (st ?_);try with_reducible exact True.intro);done)))<;>try (refine no_implicit_lambda% (st ?_);try with_reducible exact True.intro)))
  refine zdd 5 8 20 3 rfl rfl (by omega) (by (refine no_implicit_lambda% (st ?_);try with_reducible exact True.intro)) (by (refine no_implicit_lambda% (st ?_);try with_reducible exact True.intro)) ?_
  refine zdd 5 9 21 2 rfl rfl (by omega) (by (refine no_implicit_lambda% (st ?_);try with_reducible exact True.intro)) (by (refine no_implicit_lambda% (st ?_);try with_reducible exact True.intro)) ?_
  refine dropRow 0 ?_
  (refine no_implicit_lambda% (st ?_);try with_reducible exact True.intro)
  generalize hw0:(⟨zmF x ⟨0,0⟩ p.sections,[],[],false⟩:Wk)=W0 at ha
  have e0:W0.asks=[]∧W0.outs=[]∧W0.lost=false∧W0.inn=zmF x ⟨0,0⟩ p.sections:=by rw[←hw0];simp
  rw[←e0.2.2.2]
  clear hw0
  obtain ⟨inn0,as0,os0,l0⟩:=W0
  dsimp only at e0
  obtain ⟨rfl,rfl,rfl,e0⟩:=e0
  clear e0
  refine zah (ι:=Nat×Wk×Bool×Bool) [3,4,5,6,7,8,9,12,56,57,58] (fun zz=>[(58,.n zz.1)]) (fun zz=>[(5,.cells (zz.2.1.c p) true),(20,.cells (zz.2.1.asks.map AskR.c).flatten zz.2.2.1),(21,.cells (zz.2.1.outs.map Join.c).flatten zz.2.2.2)]) (fun zz=>zz.1≤all.length∧(zct p r y all zz.1 zz.2.1 (all.drop zz.1)=zct p r y all 0 ⟨inn0,[],[],false⟩ all)∧(zz.2.1.asks.length≤zz.1∧zz.2.1.outs.length≤zz.1)) (fun zz=>all.length-zz.1) (0,(⟨inn0,[],[],false⟩:Wk),false,false) ⟨Nat.zero_le _,(by first|rfl|assumption|omega|(simp;done)|(simp;omega)|grind),(by first|rfl|assumption|omega|(simp;done)|(simp;omega)|grind)⟩ (by (try dsimp only);(refine no_implicit_lambda% (st ?_);try with_reducible exact True.intro)<;>first|omega|(simp;done)) (by (try dsimp only);(refine no_implicit_lambda% (st ?_);try with_reducible exact True.intro)<;>first|omega|(simp;done)) ?_;rintro ⟨k,w,ba,bo⟩ ⟨hk,hg,hx⟩;(try dsimp only at hk hg hx ⊢);rcases Nat.lt_or_ge k all.length with hlt|hge
  ·rw[zap hlt]at hg
   rw[zct,zgr]at hg
   have hx1:w.asks.length≤1000000:=by omega
   have hx2:w.outs.length≤1000000:=by omega
   by_cases hk1:(k:Int)=(r.path.length:Int)-1
   ·by_cases hk2:r.exit=0
    ·rw[if_pos ⟨hk1,hk2⟩]at hg
     have hlen:=zcO p w (nth all k) k (fun _ j=>decide (j=⟨0,0⟩))
     repeat' (first|refine zaa [0,1,2,3,4,5,6,7,8,9,11,12,13,14,16,29,30,31,32,39,56,57,58,59,68,84,96,110,113,114,115,116] fun K hK=>?_|refine AWp.block ?_|(refine hK.go ?_;clear hK K)|refine Cont.go (by assumption) ?_|(refine cnd2 rfl (fun h=>?_) (fun h=>?_)<;>(try first|exact h.elim|obtain rfl:(_:Bool)=true:=h|obtain rfl:(_:Bool)=false:=h)<;>first|(exfalso;omega)|skip)|((first|refine AWp.reg hE hM ?_|refine AWp.regd hE hM ?_|refine AWp.ret ?_|refine AWp.skip ?_|refine AWp.exit ?_|(refine pk2 (fun h=>?_) (fun h=>?_)<;>(try first|exact h.elim|obtain rfl:(_:Bool)=true:=h|obtain rfl:(_:Bool)=false:=h))|refine zab (fun h=>?_) ?_|(refine zef 30 (zkx hH hM p hp r x y w all (k:Int) (nth all k) ba bo hx1 hx2) (by omega) (by first|omega|(simp -dsimp -implicitDefEqProofs (disch:=omega) only[go_sem,reduceIte,↓reduceIte,Nat.reduceEqDiff,Nat.reduceLT,Nat.reduceLeDiff,Nat.reduceAdd,Nat.reduceSub,Nat.reduceMul,Int.reduceToNat,Int.reduceLT,Int.reduceLE,Int.reduceEq,Int.reduceNeg,Int.reduceNe,reduceCtorEq,stW];done)|(simp -dsimp -implicitDefEqProofs (disch:=omega) only[go_sem,reduceIte,↓reduceIte,Nat.reduceEqDiff,Nat.reduceLT,Nat.reduceLeDiff,Nat.reduceAdd,Nat.reduceSub,Nat.reduceMul,Int.reduceToNat,Int.reduceLT,Int.reduceLE,Int.reduceEq,Int.reduceNeg,Int.reduceNe,reduceCtorEq,stW];omega)) ?_)|(refine hQ _ _ _ rfl ?_;clear hQ hR hE hM)|(refine hR _ _ (hQ _ _ _ rfl ?_);clear hQ hR hE hM)|(refine zaf ?_ ?_;focus first|omega|(refine zad ?_;(refine no_implicit_lambda% (st ?_);try with_reducible exact True.intro);done)))<;>try simp -dsimp -implicitDefEqProofs (disch:=omega) only[go_sem,reduceIte,↓reduceIte,Nat.reduceEqDiff,Nat.reduceLT,Nat.reduceLeDiff,Nat.reduceAdd,Nat.reduceSub,Nat.reduceMul,Int.reduceToNat,Int.reduceLT,Int.reduceLE,Int.reduceEq,Int.reduceNeg,Int.reduceNe,reduceCtorEq,stW]))
     generalize (zaM p w (nth all k) k (fun _ j=>decide (j=⟨0,0⟩)))=W' at hg hlen ⊢
     exact ⟨(k+1,W',_,_),by dsimp only;omega,⟨by dsimp only;omega,hg,by dsimp only;omega⟩,by dsimp only;omega,rfl,rfl,rfl⟩
    ·rw[if_neg (fun h=>hk2 h.2),if_pos hk1]at hg
     have hlen:=zcO p w (nth all k) k (fun e _=>decide (nth all k=y.sec)&&decide (e=y.ed))
     repeat' (first|refine zaa [0,1,2,3,4,5,6,7,8,9,11,12,13,14,16,29,30,31,32,39,56,57,58,59,68,84,96,110,113,114,115,116] fun K hK=>?_|refine AWp.block ?_|(refine hK.go ?_;clear hK K)|refine Cont.go (by assumption) ?_|(refine cnd2 rfl (fun h=>?_) (fun h=>?_)<;>(try first|exact h.elim|obtain rfl:(_:Bool)=true:=h|obtain rfl:(_:Bool)=false:=h)<;>first|(exfalso;omega)|skip)|((first|refine AWp.reg hE hM ?_|refine AWp.regd hE hM ?_|refine AWp.ret ?_|refine AWp.skip ?_|refine AWp.exit ?_|(refine pk2 (fun h=>?_) (fun h=>?_)<;>(try first|exact h.elim|obtain rfl:(_:Bool)=true:=h|obtain rfl:(_:Bool)=false:=h))|refine zab (fun h=>?_) ?_|(refine zef 30 (zkw hH hM p hp r x y w all (k:Int) (nth all k) ba bo hx1 hx2) (by omega) (by first|omega|(simp -dsimp -implicitDefEqProofs (disch:=omega) only[go_sem,reduceIte,↓reduceIte,Nat.reduceEqDiff,Nat.reduceLT,Nat.reduceLeDiff,Nat.reduceAdd,Nat.reduceSub,Nat.reduceMul,Int.reduceToNat,Int.reduceLT,Int.reduceLE,Int.reduceEq,Int.reduceNeg,Int.reduceNe,reduceCtorEq,stW];done)|(simp -dsimp -implicitDefEqProofs (disch:=omega) only[go_sem,reduceIte,↓reduceIte,Nat.reduceEqDiff,Nat.reduceLT,Nat.reduceLeDiff,Nat.reduceAdd,Nat.reduceSub,Nat.reduceMul,Int.reduceToNat,Int.reduceLT,Int.reduceLE,Int.reduceEq,Int.reduceNeg,Int.reduceNe,reduceCtorEq,stW];omega)) ?_)|(refine hQ _ _ _ rfl ?_;clear hQ hR hE hM)|(refine hR _ _ (hQ _ _ _ rfl ?_);clear hQ hR hE hM)|(refine zaf ?_ ?_;focus first|omega|(refine zad ?_;(refine no_implicit_lambda% (st ?_);try with_reducible exact True.intro);done)))<;>try simp -dsimp -implicitDefEqProofs (disch:=omega) only[go_sem,reduceIte,↓reduceIte,Nat.reduceEqDiff,Nat.reduceLT,Nat.reduceLeDiff,Nat.reduceAdd,Nat.reduceSub,Nat.reduceMul,Int.reduceToNat,Int.reduceLT,Int.reduceLE,Int.reduceEq,Int.reduceNeg,Int.reduceNe,reduceCtorEq,stW]))
     generalize (zaM p w (nth all k) k (fun e _=>decide (nth all k=y.sec)&&decide (e=y.ed)))=W' at hg hlen ⊢
     exact ⟨(k+1,W',_,_),by dsimp only;omega,⟨by dsimp only;omega,hg,by dsimp only;omega⟩,by dsimp only;omega,rfl,rfl,rfl⟩
   ·by_cases hk3:(k:Int)=(all.length:Int)-1
    ·rw[if_neg (fun h=>hk1 h.1),if_neg hk1,if_pos hk3]at hg
     have hlen:=zjf p w (nth all k) k
     repeat' (first|refine zaa [0,1,2,3,4,5,6,7,8,9,11,12,13,14,16,29,30,31,32,39,56,57,58,59,68,84,96,110,113,114,115,116] fun K hK=>?_|refine AWp.block ?_|(refine hK.go ?_;clear hK K)|refine Cont.go (by assumption) ?_|(refine cnd2 rfl (fun h=>?_) (fun h=>?_)<;>(try first|exact h.elim|obtain rfl:(_:Bool)=true:=h|obtain rfl:(_:Bool)=false:=h)<;>first|(exfalso;omega)|skip)|((first|refine AWp.reg hE hM ?_|refine AWp.regd hE hM ?_|refine AWp.ret ?_|refine AWp.skip ?_|refine AWp.exit ?_|(refine pk2 (fun h=>?_) (fun h=>?_)<;>(try first|exact h.elim|obtain rfl:(_:Bool)=true:=h|obtain rfl:(_:Bool)=false:=h))|refine zab (fun h=>?_) ?_|(refine zef 30 (stay_ac hH hM p hp r x y w all (k:Int) (nth all k) ba bo hx1) (by omega) (by first|omega|(simp -dsimp -implicitDefEqProofs (disch:=omega) only[go_sem,reduceIte,↓reduceIte,Nat.reduceEqDiff,Nat.reduceLT,Nat.reduceLeDiff,Nat.reduceAdd,Nat.reduceSub,Nat.reduceMul,Int.reduceToNat,Int.reduceLT,Int.reduceLE,Int.reduceEq,Int.reduceNeg,Int.reduceNe,reduceCtorEq,stW];done)|(simp -dsimp -implicitDefEqProofs (disch:=omega) only[go_sem,reduceIte,↓reduceIte,Nat.reduceEqDiff,Nat.reduceLT,Nat.reduceLeDiff,Nat.reduceAdd,Nat.reduceSub,Nat.reduceMul,Int.reduceToNat,Int.reduceLT,Int.reduceLE,Int.reduceEq,Int.reduceNeg,Int.reduceNe,reduceCtorEq,stW];omega)) ?_)|(refine hQ _ _ _ rfl ?_;clear hQ hR hE hM)|(refine hR _ _ (hQ _ _ _ rfl ?_);clear hQ hR hE hM)|(refine zaf ?_ ?_;focus first|omega|(refine zad ?_;(refine no_implicit_lambda% (st ?_);try with_reducible exact True.intro);done)))<;>try simp -dsimp -implicitDefEqProofs (disch:=omega) only[go_sem,reduceIte,↓reduceIte,Nat.reduceEqDiff,Nat.reduceLT,Nat.reduceLeDiff,Nat.reduceAdd,Nat.reduceSub,Nat.reduceMul,Int.reduceToNat,Int.reduceLT,Int.reduceLE,Int.reduceEq,Int.reduceNeg,Int.reduceNe,reduceCtorEq,stW]))
     generalize (zeH p w (nth all k) k)=W' at hg hlen ⊢
     exact ⟨(k+1,W',_,_),by dsimp only;omega,⟨by dsimp only;omega,hg,by dsimp only;omega⟩,by dsimp only;omega,rfl,rfl,rfl⟩
    ·rw[if_neg (fun h=>hk1 h.1),if_neg hk1,if_neg hk3]at hg
     have hlen:=zcO p w (nth all k) k (fun _ j=>decide (j.to=nth all (k+1)))
     repeat' (first|refine zaa [0,1,2,3,4,5,6,7,8,9,11,12,13,14,16,29,30,31,32,39,56,57,58,59,68,84,96,110,113,114,115,116] fun K hK=>?_|refine AWp.block ?_|(refine hK.go ?_;clear hK K)|refine Cont.go (by assumption) ?_|(refine cnd2 rfl (fun h=>?_) (fun h=>?_)<;>(try first|exact h.elim|obtain rfl:(_:Bool)=true:=h|obtain rfl:(_:Bool)=false:=h)<;>first|(exfalso;omega)|skip)|((first|refine AWp.reg hE hM ?_|refine AWp.regd hE hM ?_|refine AWp.ret ?_|refine AWp.skip ?_|refine AWp.exit ?_|(refine pk2 (fun h=>?_) (fun h=>?_)<;>(try first|exact h.elim|obtain rfl:(_:Bool)=true:=h|obtain rfl:(_:Bool)=false:=h))|refine zab (fun h=>?_) ?_|(refine zef 30 (zkv hH hM p hp r x y w all k (nth all k) ba bo hx1 hx2 (by omega) (by omega)) (by omega) (by first|omega|(simp -dsimp -implicitDefEqProofs (disch:=omega) only[go_sem,reduceIte,↓reduceIte,Nat.reduceEqDiff,Nat.reduceLT,Nat.reduceLeDiff,Nat.reduceAdd,Nat.reduceSub,Nat.reduceMul,Int.reduceToNat,Int.reduceLT,Int.reduceLE,Int.reduceEq,Int.reduceNeg,Int.reduceNe,reduceCtorEq,stW];done)|(simp -dsimp -implicitDefEqProofs (disch:=omega) only[go_sem,reduceIte,↓reduceIte,Nat.reduceEqDiff,Nat.reduceLT,Nat.reduceLeDiff,Nat.reduceAdd,Nat.reduceSub,Nat.reduceMul,Int.reduceToNat,Int.reduceLT,Int.reduceLE,Int.reduceEq,Int.reduceNeg,Int.reduceNe,reduceCtorEq,stW];omega)) ?_)|(refine hQ _ _ _ rfl ?_;clear hQ hR hE hM)|(refine hR _ _ (hQ _ _ _ rfl ?_);clear hQ hR hE hM)|(refine zaf ?_ ?_;focus first|omega|(refine zad ?_;(refine no_implicit_lambda% (st ?_);try with_reducible exact True.intro);done)))<;>try simp -dsimp -implicitDefEqProofs (disch:=omega) only[go_sem,reduceIte,↓reduceIte,Nat.reduceEqDiff,Nat.reduceLT,Nat.reduceLeDiff,Nat.reduceAdd,Nat.reduceSub,Nat.reduceMul,Int.reduceToNat,Int.reduceLT,Int.reduceLE,Int.reduceEq,Int.reduceNeg,Int.reduceNe,reduceCtorEq,stW]))
     generalize (zaM p w (nth all k) k (fun _ j=>decide (j.to=nth all (k+1))))=W' at hg hlen ⊢
     exact ⟨(k+1,W',_,_),by dsimp only;omega,⟨by dsimp only;omega,hg,by dsimp only;omega⟩,by dsimp only;omega,rfl,rfl,rfl⟩
  ·rw[List.drop_eq_nil_of_le hge,zct]at hg
   rw[←hg]at ha
   clear hg
   obtain ⟨inn,asks,outs,lost⟩:=w
   dsimp only at ha hx ⊢
   cases lost with
   |true =>
    rw[if_pos rfl]at ha
    subst ha
    repeat' (first|refine zaa [0,1,2,3,4,5,6,7,8,9,11,12,13,14,16,29,30,31,32,39,56,57,58,59,68,84,96,110,113,114,115,116] fun K hK=>?_|refine AWp.block ?_|(refine hK.go ?_;clear hK K)|refine Cont.go (by assumption) ?_|(refine cnd2 rfl (fun h=>?_) (fun h=>?_)<;>(try first|exact h.elim|obtain rfl:(_:Bool)=true:=h|obtain rfl:(_:Bool)=false:=h)<;>first|(exfalso;omega)|skip)|((first|refine AWp.reg hE hM ?_|refine AWp.regd hE hM ?_|refine AWp.ret ?_|refine AWp.skip ?_|refine AWp.exit ?_|(refine pk2 (fun h=>?_) (fun h=>?_)<;>(try first|exact h.elim|obtain rfl:(_:Bool)=true:=h|obtain rfl:(_:Bool)=false:=h))|refine zab (fun h=>?_) ?_|(refine hQ _ _ _ rfl ?_;clear hQ hR hE hM)|(refine hR _ _ (hQ _ _ _ rfl ?_);clear hQ hR hE hM)|(refine zaf ?_ ?_;focus first|omega|(refine zad ?_;(refine no_implicit_lambda% (st ?_);try with_reducible exact True.intro);done)))<;>try (refine no_implicit_lambda% (st ?_);try with_reducible exact True.intro)))
    all_goals first|(exfalso;contradiction)|skip
   |false =>
    rw[if_neg (by simp)]at ha
    repeat' (first|refine zaa [0,1,2,3,4,5,6,7,8,9,11,12,13,14,16,29,30,31,32,39,56,57,58,59,68,84,96,110,113,114,115,116] fun K hK=>?_|refine AWp.block ?_|(refine hK.go ?_;clear hK K)|refine Cont.go (by assumption) ?_|(refine cnd2 rfl (fun h=>?_) (fun h=>?_)<;>(try first|exact h.elim|obtain rfl:(_:Bool)=true:=h|obtain rfl:(_:Bool)=false:=h)<;>first|(exfalso;omega)|skip)|((first|refine AWp.reg hE hM ?_|refine AWp.regd hE hM ?_|refine AWp.ret ?_|refine AWp.skip ?_|refine AWp.exit ?_|(refine pk2 (fun h=>?_) (fun h=>?_)<;>(try first|exact h.elim|obtain rfl:(_:Bool)=true:=h|obtain rfl:(_:Bool)=false:=h))|refine zab (fun h=>?_) ?_|(refine hQ _ _ _ rfl ?_;clear hQ hR hE hM)|(refine hR _ _ (hQ _ _ _ rfl ?_);clear hQ hR hE hM)|(refine zaf ?_ ?_;focus first|omega|(refine zad ?_;(refine no_implicit_lambda% (st ?_);try with_reducible exact True.intro);done)))<;>try (refine no_implicit_lambda% (st ?_);try with_reducible exact True.intro)))
    all_goals first|(exfalso;contradiction)|skip
    skip
    refine zah (ι:=Nat×(List AskR)×Bool) [3,4,5,6,7,9,113,114,115] (fun zz=>[(115,.n zz.1)]) (fun zz=>[(5,.cells (Wk.c p ⟨inn,zz.2.1,outs,false⟩) true),(20,.cells (zz.2.1.map AskR.c).flatten zz.2.2)]) (fun zz=>zz.1≤r.flanks.length∧(zhM zz.2.1 (r.flanks.drop zz.1)=zhM asks r.flanks)∧(zz.2.1.length≤2000+zz.1)) (fun zz=>r.flanks.length-zz.1) (0,asks,ba) ⟨Nat.zero_le _,(by first|rfl|assumption|omega|(simp;done)|(simp;omega)|grind),(by first|rfl|assumption|omega|(simp;done)|(simp;omega)|grind)⟩ (by (try dsimp only);(refine no_implicit_lambda% (st ?_);try with_reducible exact True.intro)<;>first|omega|(simp;done)) (by (try dsimp only);(refine no_implicit_lambda% (st ?_);try with_reducible exact True.intro)<;>first|omega|(simp;done)) ?_;rintro ⟨k2,l,b2⟩ ⟨hk,hg,hx2⟩;(try dsimp only at hk hg hx2 ⊢);rcases Nat.lt_or_ge k2 r.flanks.length with hlt|hge
    ·rw[zap (by assumption),zhM,zmT]at hg
     repeat' (first|refine zaa [0,1,2,3,4,5,6,7,8,9,11,12,13,14,16,29,30,31,32,39,56,57,58,59,68,84,96,110,113,114,115,116] fun K hK=>?_|refine AWp.block ?_|(refine hK.go ?_;clear hK K)|refine Cont.go (by assumption) ?_|(refine cnd2 rfl (fun h=>?_) (fun h=>?_)<;>(try first|exact h.elim|obtain rfl:(_:Bool)=true:=h|obtain rfl:(_:Bool)=false:=h)<;>first|(exfalso;omega)|skip)|((first|refine AWp.reg hE hM ?_|refine AWp.regd hE hM ?_|refine AWp.ret ?_|refine AWp.skip ?_|refine AWp.exit ?_|(refine pk2 (fun h=>?_) (fun h=>?_)<;>(try first|exact h.elim|obtain rfl:(_:Bool)=true:=h|obtain rfl:(_:Bool)=false:=h))|refine zab (fun h=>?_) ?_|(refine AC.callK 40 (by omega) (by first|omega|((refine no_implicit_lambda% (st ?_);try with_reducible exact True.intro);done)|((refine no_implicit_lambda% (st ?_);try with_reducible exact True.intro);omega)) (zax (F:=cd107) (hH.has _ _ rfl) (Nat.le_of_ble_eq_true rfl) fun Q hQ hR=>?_);dsimp only[cd107,qm,ql,qf,qi,qb,qc,qp,qv,qN,qT,qF,qt]at hQ ⊢)|(refine hQ _ _ _ rfl ?_;clear hQ hR)|(refine hR _ _ (hQ _ _ _ rfl ?_);clear hQ hR)|(refine zaf ?_ ?_;focus first|omega|(refine zad ?_;(refine no_implicit_lambda% (st ?_);try with_reducible exact True.intro);done)))<;>try (refine no_implicit_lambda% (st ?_);try with_reducible exact True.intro)))
     ·rw[if_pos ⟨by assumption,by assumption⟩]at hg
      refine ⟨(k2+1,l++[⟨(nth r.flanks k2).pnt,(nth r.flanks k2).lie,-1⟩],true),by (try dsimp only);omega,⟨by (try dsimp only);omega,hg,by (try dsimp only);simp;omega⟩, ?_⟩;(try dsimp only);(first|omega|(simp;done)|(simp;omega)|((refine no_implicit_lambda% (st ?_);try with_reducible exact True.intro);done)|(simp[List.map_set, *];done)|(simp[List.map_set, *];rfl)|((refine no_implicit_lambda% (st ?_);try with_reducible exact True.intro);simp[List.map_set, *];done)|((try (refine no_implicit_lambda% (st ?_);try with_reducible exact True.intro));(repeat' refine And.intro ?_ ?_)<;>first|omega|rfl|(simp;done)|(simp;omega)|(simp;rfl)|(simp[List.map_set, *];done)|(simp[List.map_set, *];rfl)))
     all_goals (first|rw[if_neg (fun hh=>absurd hh.2 (by assumption))]at hg|rw[if_neg (fun hh=>absurd hh.1 (by assumption))]at hg)
     all_goals (refine ⟨(k2+1,l,b2),by (try dsimp only);omega,⟨by (try dsimp only);omega,hg,by (try dsimp only);omega⟩, ?_⟩;(try dsimp only);(first|omega|(simp;done)|(simp;omega)|((refine no_implicit_lambda% (st ?_);try with_reducible exact True.intro);done)|(simp[List.map_set, *];done)|(simp[List.map_set, *];rfl)|((refine no_implicit_lambda% (st ?_);try with_reducible exact True.intro);simp[List.map_set, *];done)|((try (refine no_implicit_lambda% (st ?_);try with_reducible exact True.intro));(repeat' refine And.intro ?_ ?_)<;>first|omega|rfl|(simp;done)|(simp;omega)|(simp;rfl)|(simp[List.map_set, *];done)|(simp[List.map_set, *];rfl))))
    ·rw[List.drop_eq_nil_of_le (by assumption),zhM]at hg
     repeat' (first|refine zaa [0,1,2,3,4,5,6,7,8,9,11,12,13,14,16,29,30,31,32,39,56,57,58,59,68,84,96,110,113,114,115,116] fun K hK=>?_|refine AWp.block ?_|(refine hK.go ?_;clear hK K)|refine Cont.go (by assumption) ?_|(refine cnd2 rfl (fun h=>?_) (fun h=>?_)<;>(try first|exact h.elim|obtain rfl:(_:Bool)=true:=h|obtain rfl:(_:Bool)=false:=h)<;>first|(exfalso;omega)|skip)|((first|refine AWp.reg hE hM ?_|refine AWp.regd hE hM ?_|refine AWp.ret ?_|refine AWp.skip ?_|refine AWp.exit ?_|(refine pk2 (fun h=>?_) (fun h=>?_)<;>(try first|exact h.elim|obtain rfl:(_:Bool)=true:=h|obtain rfl:(_:Bool)=false:=h))|refine zab (fun h=>?_) ?_|refine zac hM (zdr hH r.path (by omega)) ?_|refine zac hM (zdr hH r.over (by omega)) ?_|(refine hQ _ _ _ rfl ?_;clear hQ hR)|(refine hR _ _ (hQ _ _ _ rfl ?_);clear hQ hR)|(refine zaf ?_ ?_;focus first|omega|(refine zad ?_;(refine no_implicit_lambda% (st ?_);try with_reducible exact True.intro);done)))<;>try (refine no_implicit_lambda% (st ?_);try with_reducible exact True.intro)))
     rw[ha,←hg]
end Go.Lev
namespace Go.Lev
open Go.Eng
set_option maxRecDepth 10000
set_option maxHeartbeats 4000000
variable {P:Program} {inv:Nat→Option Nat} {w0:World} {M:Nat→Prop}
structure OkP (p:Pln):Prop where
 sec:zja p.sections=true
 pts:points p=true
 sgn:signals p (ends p.sections)=true
 rise:rise (p.routes.map Rte.id) 16=true
 rte:∀ r∈p.routes,zf5 p r (ends p.sections)=true
theorem zg0 {p:Pln} (h:zco p=true):OkP p:=by
 simp only[zco,Bool.and_eq_true,List.all_eq_true]at h
 exact ⟨h.1.2.2.2.2,h.2.1,h.2.2.1,h.2.2.2.1,h.2.2.2.2⟩
theorem zis (n:Int):∀ (l:List Sgn) (o:Sgn),sigG n o l=o∨sigG n o l∈l
 |[],o=>.inl rfl
 |x::r,o=>by
  rw[sigG]
  split
  ·rcases zis n r x with h|h
   ·right;rw[h];simp
   ·right;simp[h]
  ·rcases zis n r o with h|h
   ·left;exact h
   ·right;simp[h]
theorem zh6 {p:Pln} (h:OkP p) (r:Rte):zlk p r:=by
 intro s hs he
 have h1:=zci h.sec s hs
 rcases zis r.entry p.signals Sgn.z with h2|h2
 ·have:sig p r.entry=Sgn.z:=h2
  rw[this]at he
  have:Sgn.z.sec=0:=rfl
  omega
 ·have h3:sig p r.entry∈p.signals:=h2
  have h4:=h.sgn
  simp only[signals,Bool.and_eq_true]at h4
  have h5:=zgt _ _ _ h4.2 _ h3
  rw[←he,zk7 h.sec hs]at h5
  exact h5.2
theorem zeA {p:Pln} (h:OkP p) {r:Rte} (hr:r∈p.routes):1≤r.path.length∧r.path.length≤6∧r.over.length≤2∧r.flanks.length≤3:=by
 have h1:=h.rte r hr
 simp only[zf5,zfv,Bool.and_eq_true,Bool.not_eq_true',decide_eq_false_iff_not]at h1
 omega
def WayR.z:WayR:=⟨[],[],[],0⟩
def ofW (p:Pln) (n:Int):WayR×Int:=if zco p=true then (match p.routes.find? fun x=>decide (x.id=n) with|some r=>((zak p r).1,(zak p r).2.2)|none=>(WayR.z,6)) else (WayR.z,8)
theorem zlm (hH:HasAll P inv) (p:Pln) (hp:Sm p) (h:OkP p) {r:Rte} (hr:r∈p.routes):PC P inv 90 [.agg p.c,.agg r.c] (·=.tup [.agg (zak p r).1.c,.sl 2 ((zak p r).2.1.map Join.c),.n (zak p r).2.2]) :=
 zk5 hH p hp r (by have:=zeA h hr;omega) (zh6 h r)
end Go.Lev
