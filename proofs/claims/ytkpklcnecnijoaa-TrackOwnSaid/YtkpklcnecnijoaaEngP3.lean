import Derived.Test.YtkpklcnecnijoaaEngP2
namespace Go.Lev
set_option linter.unusedSimpArgs false
set_option linter.unusedVariables false
set_option linter.unusedSectionVars false
open Go.Eng
/-! ### with greater numbers -/
def shJ (n : Int) (j : Join) : Join := if 0 < j.to then { j with to := j.to + n } else j
def shSec (n : Int) (s : Section) : Section := { s with id := s.id + n, ends := s.ends.map (shJ n) }
theorem may_to {l : List Section} (h : MayP l) {s : Section} (hs : s ∈ l) {e : Nat} (he : e < s.ends.length) : ((nth s.ends e).to = 0 ∧ (nth s.ends e).ed = 0) ∨ (1 ≤ (nth s.ends e).to ∧ (nth s.ends e).to ≤ 99) := by
  rcases h.join s hs e he with hj | ⟨_, _, s', h3, h4, _⟩
  · exact .inl hj
  · have := h.one s' h3
    rw [← h4]
    exact .inr ⟨this.1, this.2.1⟩
theorem shift_may {l : List Section} (h : MayP l) {n : Int} (hn : 0 ≤ n) (hb : ∀ s ∈ l, s.id + n ≤ 99) : MayP (l.map (shSec n)) := by
  refine ⟨by simpa using h.len, ?_, ?_, ?_⟩
  · intro s hs
    obtain ⟨s0, h0, rfl⟩ := List.mem_map.1 hs
    have h1 := h.one s0 h0
    have h2 := hb s0 h0
    refine ⟨by have := h1.1; simp only [shSec]; omega, h2, ?_⟩
    have h3 := h1.2.2
    unfold rShaped at h3 ⊢
    simp only [shSec, List.length_map]
    exact h3
  · rw [List.pairwise_map]
    refine h.pw.imp fun {a b} hp => ⟨?_, hp.2⟩
    have := hp.1
    simp only [shSec]
    omega
  · intro s hs e he
    obtain ⟨s0, h0, rfl⟩ := List.mem_map.1 hs
    have he : e < s0.ends.length := by simpa [shSec] using he
    have hn' : nth (shSec n s0).ends e = shJ n (nth s0.ends e) := nth_map _ he
    unfold JoinOk
    rw [hn']
    rcases h.join s0 h0 e he with ⟨j1, j2⟩ | ⟨h1, h2, s', h3, h4, h5, h6⟩
    · left; simp [shJ, j1, j2]
    · have hs1 := (h.one s' h3).1
      have hto : 0 < (nth s0.ends e).to := by omega
      have es : shJ n (nth s0.ends e) = { nth s0.ends e with to := (nth s0.ends e).to + n } := by simp [shJ, hto]
      rw [es]
      refine .inr ⟨?_, h2, shSec n s', List.mem_map.2 ⟨s', h3, rfl⟩, ?_, by simpa [shSec] using h5, ?_⟩
      · rintro ⟨a, b⟩
        refine h1 ⟨?_, b⟩
        simp only [shSec] at a
        omega
      · simp only [shSec]; omega
      · have hlt : (nth s0.ends e).ed.toNat < s'.ends.length := by omega
        have : nth (shSec n s').ends (nth s0.ends e).ed.toNat = shJ n (nth s'.ends (nth s0.ends e).ed.toNat) := nth_map _ hlt
        rw [this, h6]
        have := (h.one s0 h0).1
        simp [shJ, shSec, show 0 < s0.id by omega]
theorem shift_bad {l : List Section} {n : Int} {s : Section} (hs : s ∈ l) (hb : 99 < s.id + n) : rCheck (l.map (shSec n)) = 8 := by
  have : ¬ rMay (l.map (shSec n)) = true := fun h => by
    have := ((rMay_P _).1 h).one (shSec n s) (List.mem_map.2 ⟨s, hs, rfl⟩)
    have := this.2.1
    simp only [shSec] at this
    omega
  simp [rCheck, this]
theorem last_max {l : List Section} (hs : Sorted l) (h0 : 0 < l.length) : ∀ s ∈ l, s.id ≤ (nth l (l.length - 1)).id := by
  intro s hsm
  obtain ⟨i, hi, rfl⟩ := List.mem_iff_getElem.1 hsm
  rw [← nth_eq hi]
  rcases Nat.lt_or_ge i (l.length - 1) with h | h
  · have := hs i (l.length - 1) h (by omega); omega
  · obtain rfl : i = l.length - 1 := by omega
    exact Int.le_refl _
theorem shift_next {l : List Section} {n : Int} (hm : rMay (l.map (shSec n)) = true) {i e : Nat} (hi : i < l.length) (he : e < (nth l i).ends.length) : next (l.map (shSec n)) ((nth l i).id + n) e = (shJ n (nth (nth l i).ends e), 0) := by
  have h1 : nth (l.map (shSec n)) i = shSec n (nth l i) := nth_map _ hi
  have h2 := next_at hm (i := i) (e := e) (by simpa using hi) (by rw [h1]; simpa [shSec] using he)
  rw [h1] at h2
  have h3 : nth (shSec n (nth l i)).ends e = shJ n (nth (nth l i).ends e) := nth_map _ he
  rw [h3] at h2
  exact h2
end Go.Lev
