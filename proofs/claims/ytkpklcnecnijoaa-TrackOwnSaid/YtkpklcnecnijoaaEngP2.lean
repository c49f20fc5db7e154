/-
  THE PLAIN LAWS OF CHAPTER 7: sections that may be, said by their elements; without one of them; with greater numbers.
-/
import Derived.Test.YtkpklcnecnijoaaEngY17
namespace Go.Lev
set_option linter.unusedSimpArgs false
set_option linter.unusedVariables false
set_option linter.unusedSectionVars false
open Go.Eng
def Pw (x s : Section) : Prop := x.id < s.id ∧ (s.pt ≠ 0 → x.pt ≠ s.pt)
def One (s : Section) : Prop := 1 ≤ s.id ∧ s.id ≤ 99 ∧ rShaped s = true
def JoinOk (l : List Section) (s : Section) (e : Nat) : Prop :=
  ((nth s.ends e).to = 0 ∧ (nth s.ends e).ed = 0) ∨ (¬ ((nth s.ends e).to = s.id ∧ (nth s.ends e).ed = (e : Int)) ∧ 0 ≤ (nth s.ends e).ed ∧ ∃ s' ∈ l, s'.id = (nth s.ends e).to ∧ (nth s.ends e).ed < s'.ends.length ∧ nth s'.ends (nth s.ends e).ed.toNat = ⟨s.id, e⟩)
structure MayP (l : List Section) : Prop where
  len : l.length ≤ 16
  one : ∀ s ∈ l, One s
  pw : l.Pairwise Pw
  join : ∀ s ∈ l, ∀ e, e < s.ends.length → JoinOk l s e
theorem rMay1_P (l : List Section) : rMay1 [] l = true ↔ (∀ s ∈ l, One s) ∧ l.Pairwise Pw := by
  have h2 := rMay1_iff l l 0 rfl
  rw [List.take_zero] at h2
  rw [h2]
  constructor
  · intro h
    refine ⟨fun s hs => ?_, ?_⟩
    · obtain ⟨i, hi, rfl⟩ := List.mem_iff_getElem.1 hs
      have := h i (Nat.zero_le _) hi
      rw [← nth_eq hi]
      exact ⟨this.1, this.2.1, this.2.2.1⟩
    · rw [List.pairwise_iff_getElem]
      intro i j hi hj hij
      rw [← nth_eq hi, ← nth_eq hj]
      exact (h j (Nat.zero_le _) hj).2.2.2 i hij
  · rintro ⟨h1, h3⟩ j _ hj
    have h4 := h1 _ (nth_mem hj)
    refine ⟨h4.1, h4.2.1, h4.2.2, fun i hi => ?_⟩
    rw [List.pairwise_iff_getElem] at h3
    have := h3 i j (by omega) hj hi
    rw [← nth_eq (show i < l.length by omega), ← nth_eq hj] at this
    exact this
theorem sorted_mem {l : List Section} (hs : Sorted l) {s : Section} (h : s ∈ l) : nth l (atGo s.id 0 l).toNat = s ∧ 0 ≤ atGo s.id 0 l := by
  obtain ⟨i, hi, rfl⟩ := List.mem_iff_getElem.1 h
  rw [← nth_eq hi, at_self hs hi]
  simp
theorem rJoined_P {l : List Section} (hs : Sorted l) (s : Section) (e : Nat) : rJoined l s e = true ↔ JoinOk l s e := by
  unfold rJoined JoinOk
  by_cases h0 : (nth s.ends e).to = 0 ∧ (nth s.ends e).ed = 0
  · simp [h0]
  · rw [if_neg h0]
    simp only [h0, false_or]
    constructor
    · intro h
      split at h
      · cases h
      · rename_i hn
        simp only [not_or] at hn
        obtain ⟨h1, h2, h3, h4⟩ := hn
        simp only [Bool.and_eq_true, decide_eq_true_eq] at h
        rcases atGo_spec (nth s.ends e).to l 0 with ⟨g1, _⟩ | ⟨p, g1, g2, g3⟩
        · omega
        · have ep : (atGo (nth s.ends e).to 0 l).toNat = p := by rw [g2]; omega
          rw [ep] at h h3
          refine ⟨h4, by omega, nth l p, nth_mem g1, g3, by omega, ?_⟩
          rw [join_eq]
          exact h
    · rintro ⟨h4, h2, s', hs', h5, h6, h7⟩
      obtain ⟨g1, g2⟩ := sorted_mem hs hs'
      rw [h5] at g1 g2
      rw [if_neg (by rw [g1]; omega), g1, h7]
      simp
theorem rMay_P (l : List Section) : rMay l = true ↔ MayP l := by
  constructor
  · intro h
    have hs := sorted_may h
    have h' := h
    unfold rMay rMay2 at h'
    simp only [Bool.and_eq_true, Bool.not_eq_true', decide_eq_false_iff_not, List.all_eq_true, rMay1_P] at h'
    obtain ⟨⟨h1, h2, h3⟩, h4⟩ := h'
    refine ⟨by omega, h2, h3, fun s hsm e he => ?_⟩
    exact (rJoined_P hs s e).1 ((allFrom_iff _ _ _).1 (h4 s hsm) e (Nat.zero_le _) (by omega))
  · rintro ⟨h1, h2, h3, h4⟩
    have hm1 := (rMay1_P l).2 ⟨h2, h3⟩
    have hs := sorted_of ((first_eq l).trans hm1)
    unfold rMay rMay2
    simp only [Bool.and_eq_true, Bool.not_eq_true', decide_eq_false_iff_not, List.all_eq_true]
    exact ⟨⟨by omega, hm1⟩, fun s hsm => (allFrom_iff _ _ _).2 fun e _ he => (rJoined_P hs s e).2 (h4 s hsm e (by omega))⟩
theorem nth_map {α β : Type} [Inhabited α] [Inhabited β] (f : α → β) {l : List α} {i : Nat} (h : i < l.length) : nth (l.map f) i = f (nth l i) := by
  rw [nth_eq (by simpa using h), nth_eq h, List.getElem_map]
/-! ### without one -/
def cut (g : Int) (j : Join) : Join := if j.to = g then ⟨0, 0⟩ else j
def cutS (g : Int) (s : Section) : Section := { s with ends := s.ends.map (cut g) }
def fewer (g : Int) (l : List Section) : List Section := (l.filter fun s => !decide (s.id = g)).map (cutS g)
theorem fewer_may {l : List Section} (h : MayP l) (g : Int) : MayP (fewer g l) := by
  refine ⟨?_, ?_, ?_, ?_⟩
  · have := List.length_filter_le (fun s : Section => !decide (s.id = g)) l
    have := h.len
    simp only [fewer, List.length_map]
    omega
  · intro s hs
    simp only [fewer, List.mem_map, List.mem_filter] at hs
    obtain ⟨s0, ⟨h0, _⟩, rfl⟩ := hs
    have := h.one s0 h0
    exact ⟨this.1, this.2.1, by have h3 := this.2.2; unfold rShaped at h3 ⊢; simp only [cutS, List.length_map]; exact h3⟩
  · unfold fewer
    rw [List.pairwise_map]
    exact (h.pw.filter _).imp fun hp => hp
  · intro s hs e he
    simp only [fewer, List.mem_map, List.mem_filter] at hs
    obtain ⟨s0, ⟨h0, hg⟩, rfl⟩ := hs
    have hg : ¬ s0.id = g := by simpa using hg
    have he : e < s0.ends.length := by simpa [cutS] using he
    have hn : nth (cutS g s0).ends e = cut g (nth s0.ends e) := nth_map _ he
    unfold JoinOk
    rw [hn]
    by_cases hc : (nth s0.ends e).to = g
    · left; simp [cut, hc]
    · have ec : cut g (nth s0.ends e) = nth s0.ends e := by simp [cut, hc]
      rw [ec]
      rcases h.join s0 h0 e he with hj | ⟨h1, h2, s', h3, h4, h5, h6⟩
      · exact .inl hj
      · refine .inr ⟨h1, h2, cutS g s', ?_, h4, by simpa [cutS] using h5, ?_⟩
        · simp only [fewer, List.mem_map, List.mem_filter]
          exact ⟨s', ⟨h3, by simp; omega⟩, rfl⟩
        · have : nth (cutS g s').ends (nth s0.ends e).ed.toNat = cut g (nth s'.ends (nth s0.ends e).ed.toNat) := nth_map _ (by omega)
          rw [this, h6]
          simp [cut, hg, cutS]
theorem atGo_none {g : Int} : ∀ {l : List Section} {k : Nat}, (∀ s ∈ l, s.id ≠ g) → atGo g k l = -1
  | [], _, _ => rfl
  | x :: r, k, h => by rw [atGo, if_neg (h x (by simp)), atGo_none fun s hs => h s (by simp [hs])]
theorem fewer_find {l : List Section} (h : rMay l = true) (g : Int) : rCheck (fewer g l) = 0 ∧ rFind (fewer g l) g = (noSection, 6) := by
  have hm := (rMay_P _).2 (fewer_may ((rMay_P l).1 h) g)
  refine ⟨by simp [rCheck, hm], ?_⟩
  have ha : atGo g 0 (fewer g l) = -1 := atGo_none fun s hs => by
    simp only [fewer, List.mem_map, List.mem_filter] at hs
    obtain ⟨s0, ⟨_, hg⟩, rfl⟩ := hs
    simpa [cutS] using hg
  simp [rFind, hm, ha]
end Go.Lev
