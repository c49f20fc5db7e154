import Derived.Test.YtkpklcnecnijoaaEngY4
namespace Go.Lev
set_option linter.unusedSimpArgs false
set_option linter.unusedVariables false
set_option linter.unusedSectionVars false
open Go.Eng
set_option maxRecDepth 10000
set_option maxHeartbeats 4000000
variable {P : Program} {inv : Nat → Option Nat}
def rthrough (s : Section) (f t : Int) : Int × Int := if rShaped s = true then (if rLie s f t < 0 then (0, 2) else (rLie s f t, 0)) else (0, 8)
def through (s : Section) (f t : Int) : Int × Int := if shaped s = true then (if f < 0 ∨ 2 < f ∨ t < 0 ∨ 2 < t ∨ waysF s.pt f t = 0 then (0, 2) else ((waysF s.pt f t).tmod 3, 0)) else (0, 8)
def outR (s : Section) (f lie : Int) : Int × Int := if shaped s = true then (if f < 0 ∨ 2 < f ∨ lie < 0 ∨ 2 < lie then (0, 2) else if (¬ s.pt = 0 ∧ lie = 0) ∨ outL s f lie < 0 then (0, 2) else (outL s f lie, 0)) else (0, 8)
def routP (s : Section) (f lie : Int) : Nat → Nat → Int × Int
  | _, 0 => (0, 2)
  | k, m + 1 => if rLie s f k = lie then (k, 0) else routP s f lie (k + 1) m
def rout (s : Section) (f lie : Int) : Int × Int := if rShaped s = true then (if lie < 0 then (0, 2) else routP s f lie 0 s.ends.length) else (0, 8)
def two (x : Int × Int) : AV := .tup [.n x.1, .n x.2]
theorem routGo_two (s : Section) (f lie : Int) : ∀ m k, routGo s f lie k m = two (routP s f lie k m)
  | 0, _ => rfl
  | m + 1, k => by simp only [routGo, routP, routGo_two s f lie m]; split <;> rfl
theorem through_pc2 (hH : HasAll P inv) (s : Section) (f t : Int) : PC P inv 16 [.agg s.c, .n f, .n t] (· = .tup [.n (through s f t).1, .n (through s f t).2]) :=
  (through_pc hH s f t).mono fun r e => by rw [e]; unfold throughV through; repeat' split
                                           all_goals rfl
theorem rthrough_pc2 (hH : HasAll P inv) (s : Section) (f t : Int) : PC P inv 17 [.agg s.c, .n f, .n t] (· = .tup [.n (rthrough s f t).1, .n (rthrough s f t).2]) :=
  (rthrough_pc hH s f t).mono fun r e => by rw [e]; unfold rthrough; repeat' split
                                            all_goals rfl
theorem out_pc5 (hH : HasAll P inv) (s : Section) (f t : Int) : PC P inv 18 [.agg s.c, .n f, .n t] (· = .tup [.n (outR s f t).1, .n (outR s f t).2]) :=
  (out_pc hH s f t).mono fun r e => by rw [e]; unfold outV outR; repeat' split
                                       all_goals rfl
theorem rout_pc2 (hH : HasAll P inv) (s : Section) (f t : Int) (hl : s.ends.length ≤ 1000000000) : PC P inv 19 [.agg s.c, .n f, .n t] (· = .tup [.n (rout s f t).1, .n (rout s f t).2]) :=
  (rout_pc hH s f t hl).mono fun r e => by
    rw [e, routGo_two]; unfold rout; repeat' split
    all_goals rfl
/-! ### the plain laws -/
theorem shaped_eq (s : Section) : shaped s = rShaped s := by
  unfold shaped rShaped numbered
  by_cases h : s.pt = 0
  · simp [h]
  · simp [h]
theorem through_eq (s : Section) (f t : Int) : through s f t = rthrough s f t := by
  unfold through rthrough
  rw [shaped_eq]
  split
  · by_cases hf : 0 ≤ f ∧ f ≤ 2
    · by_cases ht : 0 ≤ t ∧ t ≤ 2
      · rcases three_cases hf with rfl | rfl | rfl <;> rcases three_cases ht with rfl | rfl | rfl <;> by_cases hp : s.pt = 0 <;> simp [waysF, rLie, hp]
      · rw [if_pos (by omega), if_pos (by unfold rLie; repeat' split
                                          all_goals omega)]
    · rw [if_pos (by omega), if_pos (by unfold rLie; repeat' split
                                        all_goals omega)]
  · rfl
theorem routP_none {s : Section} {f lie : Int} (h : ∀ k : Nat, k < 3 → ¬ rLie s f k = lie) : ∀ m k, k + m ≤ 3 → routP s f lie k m = (0, 2)
  | 0, _, _ => rfl
  | m + 1, k, hk => by rw [routP, if_neg (h k (by omega)), routP_none h m (k + 1) (by omega)]
theorem out_eq (s : Section) (f t : Int) : outR s f t = rout s f t := by
  unfold outR rout
  rw [shaped_eq]
  split
  · rename_i hs
    have hl : s.pt = 0 ∧ s.ends.length = 2 ∨ ¬ s.pt = 0 ∧ s.ends.length = 3 := by
      unfold rShaped at hs
      by_cases hp : s.pt = 0
      · simp [hp] at hs; omega
      · simp [hp] at hs; omega
    by_cases hf : 0 ≤ f ∧ f ≤ 2
    · by_cases ht : 0 ≤ t ∧ t ≤ 2
      · rcases hl with ⟨hp, hl⟩ | ⟨hp, hl⟩ <;> rw [hl] <;> rcases three_cases hf with rfl | rfl | rfl <;> rcases three_cases ht with rfl | rfl | rfl <;> simp [outL, idxGo, waysF, routP, rLie, hp]
      · rw [if_pos (by omega)]
        split
        · rfl
        · rw [routP_none _ _ _ (by omega)]
          intro k hk
          unfold rLie
          repeat' split
          all_goals omega
    · rw [if_pos (by omega)]
      split
      · rfl
      · rw [routP_none _ _ _ (by omega)]
        intro k hk
        unfold rLie
        repeat' split
        all_goals omega
  · rfl
/-! ### the law -/
theorem through_pc3 (hH : HasAll P inv) (s : Section) (f t : Int) : PC P inv 16 [.agg s.c, .n f, .n t] (· = .tup [.n (rthrough s f t).1, .n (rthrough s f t).2]) := through_eq s f t ▸ through_pc2 hH s f t
theorem out_pc6 (hH : HasAll P inv) (s : Section) (f t : Int) : PC P inv 18 [.agg s.c, .n f, .n t] (· = .tup [.n (rout s f t).1, .n (rout s f t).2]) := out_eq s f t ▸ out_pc5 hH s f t
theorem trackThrough_pc (hH : HasAll P inv) (s : Section) (f t lie : Int) : PC P inv 1 [.agg s.c, .n f, .n t, .n lie] (· = .b true) := by
  refine PC.introQ (F := cd1) (hH.has _ _ rfl) (Nat.le_of_ble_eq_true rfl) fun w0 M Q hM hQ hR => ?_; have hE := hH.callable; dsimp only [cd1] at hQ ⊢
  repeat' (first | (refine AWp.sqp [0, 1, 2, 3, 4, 8, 9, 10, 11, 12, 13, 14, 15, 16, 17, 21] fun K hK => AWp.reg hE hM ?_; simp -dsimp -implicitDefEqProofs (disch := omega) only [go_sem, reduceIte, ↓reduceIte, Nat.reduceEqDiff, Nat.reduceLT, Nat.reduceLeDiff, Nat.reduceAdd, Nat.reduceSub, Nat.reduceMul, Int.reduceToNat, Int.reduceLT, Int.reduceLE, Int.reduceEq, Int.reduceNeg, Int.reduceNe, reduceCtorEq, Nat.lt_irrefl, Nat.not_lt_zero, wI64, wU64, wU8, ob_pos, nilK_pos, map_get, map_get1]; refine hK.go ?_; clear hK K) | refine AWp.sqp [0, 1, 2, 3, 4, 8, 9, 10, 11, 12, 13, 14, 15, 16, 17, 21] fun K hK => ?_ | (refine AWp.reg hE hM ?_; simp -dsimp -implicitDefEqProofs (disch := omega) only [go_sem, reduceIte, ↓reduceIte, Nat.reduceEqDiff, Nat.reduceLT, Nat.reduceLeDiff, Nat.reduceAdd, Nat.reduceSub, Nat.reduceMul, Int.reduceToNat, Int.reduceLT, Int.reduceLE, Int.reduceEq, Int.reduceNeg, Int.reduceNe, reduceCtorEq, Nat.lt_irrefl, Nat.not_lt_zero, wI64, wU64, wU8, ob_pos, nilK_pos, map_get, map_get1]) | refine Cont.go (by assumption) ?_ | (refine AWp.cond rfl (fun h => ?_) fun h => ?_ <;> (try simp only [decide_eq_true_eq, decide_eq_false_iff_not, Bool.not_eq_true', Bool.not_eq_false', Bool.and_eq_true, Bool.or_eq_true, Bool.and_eq_false_imp, Bool.or_eq_false_iff, Bool.true_eq_false, Bool.false_eq_true, reduceCtorEq, if_true, if_false] at h) <;> first | (exfalso; omega) | skip) | refine AWp.block ?_ | (refine AWp.ret ?_; try simp -dsimp -implicitDefEqProofs (disch := omega) only [go_sem, reduceIte, ↓reduceIte, Nat.reduceEqDiff, Nat.reduceLT, Nat.reduceLeDiff, Nat.reduceAdd, Nat.reduceSub, Nat.reduceMul, Int.reduceToNat, Int.reduceLT, Int.reduceLE, Int.reduceEq, Int.reduceNeg, Int.reduceNe, reduceCtorEq, Nat.lt_irrefl, Nat.not_lt_zero, wI64, wU64, wU8, ob_pos, nilK_pos, map_get, map_get1]) | (refine AWp.skip ?_; try simp -dsimp -implicitDefEqProofs (disch := omega) only [go_sem, reduceIte, ↓reduceIte, Nat.reduceEqDiff, Nat.reduceLT, Nat.reduceLeDiff, Nat.reduceAdd, Nat.reduceSub, Nat.reduceMul, Int.reduceToNat, Int.reduceLT, Int.reduceLE, Int.reduceEq, Int.reduceNeg, Int.reduceNe, reduceCtorEq, Nat.lt_irrefl, Nat.not_lt_zero, wI64, wU64, wU8, ob_pos, nilK_pos, map_get, map_get1]) | (refine AWp.exit ?_; try simp -dsimp -implicitDefEqProofs (disch := omega) only [go_sem, reduceIte, ↓reduceIte, Nat.reduceEqDiff, Nat.reduceLT, Nat.reduceLeDiff, Nat.reduceAdd, Nat.reduceSub, Nat.reduceMul, Int.reduceToNat, Int.reduceLT, Int.reduceLE, Int.reduceEq, Int.reduceNeg, Int.reduceNe, reduceCtorEq, Nat.lt_irrefl, Nat.not_lt_zero, wI64, wU64, wU8, ob_pos, nilK_pos, map_get, map_get1]) | (refine pickB_mk (fun h => ?_) (fun h => ?_) <;> (try simp only [decide_eq_true_eq, decide_eq_false_iff_not, Bool.not_eq_true', Bool.not_eq_false', Bool.and_eq_true, Bool.or_eq_true, Bool.and_eq_false_imp, Bool.or_eq_false_iff, Bool.true_eq_false, Bool.false_eq_true, reduceCtorEq, if_true, if_false] at h) <;> try simp -dsimp -implicitDefEqProofs (disch := omega) only [go_sem, reduceIte, ↓reduceIte, Nat.reduceEqDiff, Nat.reduceLT, Nat.reduceLeDiff, Nat.reduceAdd, Nat.reduceSub, Nat.reduceMul, Int.reduceToNat, Int.reduceLT, Int.reduceLE, Int.reduceEq, Int.reduceNeg, Int.reduceNe, reduceCtorEq, Nat.lt_irrefl, Nat.not_lt_zero, wI64, wU64, wU8, ob_pos, nilK_pos, map_get, map_get1]) | (refine AWp.regd hE hM ?_; simp -dsimp -implicitDefEqProofs (disch := omega) only [go_sem, reduceIte, ↓reduceIte, Nat.reduceEqDiff, Nat.reduceLT, Nat.reduceLeDiff, Nat.reduceAdd, Nat.reduceSub, Nat.reduceMul, Int.reduceToNat, Int.reduceLT, Int.reduceLE, Int.reduceEq, Int.reduceNeg, Int.reduceNe, reduceCtorEq, Nat.lt_irrefl, Nat.not_lt_zero, wI64, wU64, wU8, ob_pos, nilK_pos, map_get, map_get1]) | (refine nilK_mk (fun h => ?_) ?_ <;> try simp -dsimp -implicitDefEqProofs (disch := omega) only [go_sem, reduceIte, ↓reduceIte, Nat.reduceEqDiff, Nat.reduceLT, Nat.reduceLeDiff, Nat.reduceAdd, Nat.reduceSub, Nat.reduceMul, Int.reduceToNat, Int.reduceLT, Int.reduceLE, Int.reduceEq, Int.reduceNeg, Int.reduceNe, reduceCtorEq, Nat.lt_irrefl, Nat.not_lt_zero, wI64, wU64, wU8, ob_pos, nilK_pos, map_get, map_get1]) | (refine PC.call1 hM (twin_pc hH s (by omega)) ?_; simp -dsimp -implicitDefEqProofs (disch := omega) only [go_sem, reduceIte, ↓reduceIte, Nat.reduceEqDiff, Nat.reduceLT, Nat.reduceLeDiff, Nat.reduceAdd, Nat.reduceSub, Nat.reduceMul, Int.reduceToNat, Int.reduceLT, Int.reduceLE, Int.reduceEq, Int.reduceNeg, Int.reduceNe, reduceCtorEq, Nat.lt_irrefl, Nat.not_lt_zero, wI64, wU64, wU8, ob_pos, nilK_pos, map_get, map_get1]) | (refine PC.call1 hM (through_pc3 hH _ _ _) ?_; simp -dsimp -implicitDefEqProofs (disch := omega) only [go_sem, reduceIte, ↓reduceIte, Nat.reduceEqDiff, Nat.reduceLT, Nat.reduceLeDiff, Nat.reduceAdd, Nat.reduceSub, Nat.reduceMul, Int.reduceToNat, Int.reduceLT, Int.reduceLE, Int.reduceEq, Int.reduceNeg, Int.reduceNe, reduceCtorEq, Nat.lt_irrefl, Nat.not_lt_zero, wI64, wU64, wU8, ob_pos, nilK_pos, map_get, map_get1]) | (refine PC.call1 hM (rthrough_pc2 hH _ _ _) ?_; simp -dsimp -implicitDefEqProofs (disch := omega) only [go_sem, reduceIte, ↓reduceIte, Nat.reduceEqDiff, Nat.reduceLT, Nat.reduceLeDiff, Nat.reduceAdd, Nat.reduceSub, Nat.reduceMul, Int.reduceToNat, Int.reduceLT, Int.reduceLE, Int.reduceEq, Int.reduceNeg, Int.reduceNe, reduceCtorEq, Nat.lt_irrefl, Nat.not_lt_zero, wI64, wU64, wU8, ob_pos, nilK_pos, map_get, map_get1]) | (refine PC.call1 hM (out_pc6 hH _ _ _) ?_; simp -dsimp -implicitDefEqProofs (disch := omega) only [go_sem, reduceIte, ↓reduceIte, Nat.reduceEqDiff, Nat.reduceLT, Nat.reduceLeDiff, Nat.reduceAdd, Nat.reduceSub, Nat.reduceMul, Int.reduceToNat, Int.reduceLT, Int.reduceLE, Int.reduceEq, Int.reduceNeg, Int.reduceNe, reduceCtorEq, Nat.lt_irrefl, Nat.not_lt_zero, wI64, wU64, wU8, ob_pos, nilK_pos, map_get, map_get1]) | (refine PC.call1 hM (rout_pc2 hH s _ _ (by omega)) ?_; simp -dsimp -implicitDefEqProofs (disch := omega) only [go_sem, reduceIte, ↓reduceIte, Nat.reduceEqDiff, Nat.reduceLT, Nat.reduceLeDiff, Nat.reduceAdd, Nat.reduceSub, Nat.reduceMul, Int.reduceToNat, Int.reduceLT, Int.reduceLE, Int.reduceEq, Int.reduceNeg, Int.reduceNe, reduceCtorEq, Nat.lt_irrefl, Nat.not_lt_zero, wI64, wU64, wU8, ob_pos, nilK_pos, map_get, map_get1]) | (refine PC.call1 hM (same_pc hH s s (by omega)) ?_; simp -dsimp -implicitDefEqProofs (disch := omega) only [go_sem, reduceIte, ↓reduceIte, Nat.reduceEqDiff, Nat.reduceLT, Nat.reduceLeDiff, Nat.reduceAdd, Nat.reduceSub, Nat.reduceMul, Int.reduceToNat, Int.reduceLT, Int.reduceLE, Int.reduceEq, Int.reduceNeg, Int.reduceNe, reduceCtorEq, Nat.lt_irrefl, Nat.not_lt_zero, wI64, wU64, wU8, ob_pos, nilK_pos, map_get, map_get1]) | (refine ob_mk (SLe_of ?_) ?_; (focus (simp -dsimp -implicitDefEqProofs (disch := omega) only [go_sem, reduceIte, ↓reduceIte, Nat.reduceEqDiff, Nat.reduceLT, Nat.reduceLeDiff, Nat.reduceAdd, Nat.reduceSub, Nat.reduceMul, Int.reduceToNat, Int.reduceLT, Int.reduceLE, Int.reduceEq, Int.reduceNeg, Int.reduceNe, reduceCtorEq, Nat.lt_irrefl, Nat.not_lt_zero, wI64, wU64, wU8, ob_pos, nilK_pos, map_get, map_get1] <;> fail)); try simp -dsimp -implicitDefEqProofs (disch := omega) only [go_sem, reduceIte, ↓reduceIte, Nat.reduceEqDiff, Nat.reduceLT, Nat.reduceLeDiff, Nat.reduceAdd, Nat.reduceSub, Nat.reduceMul, Int.reduceToNat, Int.reduceLT, Int.reduceLE, Int.reduceEq, Int.reduceNeg, Int.reduceNe, reduceCtorEq, Nat.lt_irrefl, Nat.not_lt_zero, wI64, wU64, wU8, ob_pos, nilK_pos, map_get, map_get1]) | (refine hQ _ _ _ rfl ?_; clear hQ hR hE hM; simp -dsimp -implicitDefEqProofs (disch := omega) only [go_sem, reduceIte, ↓reduceIte, Nat.reduceEqDiff, Nat.reduceLT, Nat.reduceLeDiff, Nat.reduceAdd, Nat.reduceSub, Nat.reduceMul, Int.reduceToNat, Int.reduceLT, Int.reduceLE, Int.reduceEq, Int.reduceNeg, Int.reduceNe, reduceCtorEq, Nat.lt_irrefl, Nat.not_lt_zero, wI64, wU64, wU8, ob_pos, nilK_pos, map_get, map_get1]) | (refine ob_mk ?_ ?_; (focus omega); try simp -dsimp -implicitDefEqProofs (disch := omega) only [go_sem, reduceIte, ↓reduceIte, Nat.reduceEqDiff, Nat.reduceLT, Nat.reduceLeDiff, Nat.reduceAdd, Nat.reduceSub, Nat.reduceMul, Int.reduceToNat, Int.reduceLT, Int.reduceLE, Int.reduceEq, Int.reduceNeg, Int.reduceNe, reduceCtorEq, Nat.lt_irrefl, Nat.not_lt_zero, wI64, wU64, wU8, ob_pos, nilK_pos, map_get, map_get1]))
  all_goals (first | rfl | (grind [rSame]) | (simp [rSame, *]; done) | (simp_all [rSame]; done) | (simp_all [rSame] <;> first | omega | ((repeat' split) <;> first | rfl | (exfalso; omega))))
end Go.Lev
