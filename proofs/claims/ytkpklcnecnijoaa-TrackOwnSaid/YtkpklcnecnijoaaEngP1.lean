/-
  THE PLAIN LAWS OF CHAPTER 7: what the program answers is what the document answers.
-/
import Derived.Test.YtkpklcnecnijoaaEngY9
namespace Go.Lev
set_option linter.unusedSimpArgs false
set_option linter.unusedVariables false
set_option linter.unusedSectionVars false
open Go.Eng

def okAt (l : List Section) (j : Nat) : Prop := 1 ≤ (nth l j).id ∧ (nth l j).id ≤ 99 ∧ rShaped (nth l j) = true ∧ (0 < j → (nth l (j - 1)).id < (nth l j).id) ∧ ∀ i, i < j → (nth l j).pt ≠ 0 → (nth l i).pt ≠ (nth l j).pt
def okAt' (l : List Section) (j : Nat) : Prop := 1 ≤ (nth l j).id ∧ (nth l j).id ≤ 99 ∧ rShaped (nth l j) = true ∧ ∀ i, i < j → (nth l i).id < (nth l j).id ∧ ((nth l j).pt ≠ 0 → (nth l i).pt ≠ (nth l j).pt)
theorem rShaped_eq (s : Section) : shaped s = rShaped s := by
  unfold shaped rShaped numbered
  by_cases h : s.pt = 0 <;> simp [h]
def Marks (l : List Section) (pts : List Bool) (k : Nat) : Prop := pts.length = 100 ∧ ∀ p, p < 100 → (nth pts p = true ↔ 0 < p ∧ ∃ i, i < k ∧ (nth l i).pt = (p : Int))
theorem nth_set {α : Type} [Inhabited α] (l : List α) (i j : Nat) (x : α) (h : i < l.length) : nth (l.set i x) j = if j = i then x else nth l j := by
  unfold nth
  by_cases e : j = i
  · subst e; simp [h]
  · simp [e, List.getElem?_set, Ne.symm e]
theorem ck1_iff (l : List Section) : ∀ (r : List Section) (k : Nat) (pts : List Bool), l.drop k = r → Marks l pts k → (ck1 l k pts r = true ↔ ∀ j, k ≤ j → j < l.length → okAt l j)
  | [], k, pts, hr, _ => by
    have : l.length ≤ k := by simpa using hr
    simp [ck1]; intro j h1 h2; omega
  | s :: r, k, pts, hr, hm => by
    have hk : k < l.length := by
      rcases Nat.lt_or_ge k l.length with h | h
      · exact h
      · rw [List.drop_eq_nil_of_le h] at hr; cases hr
    rw [drop_at hk, List.cons.injEq] at hr
    obtain ⟨rfl, hr⟩ := hr
    simp only [ck1, Bool.and_eq_true, Bool.not_eq_true']
    have hb : ck1Bad l k pts (nth l k) = false ↔ okAt l k := by
      unfold ck1Bad okAt numbered
      rw [rShaped_eq]
      cases hs : rShaped (nth l k) with
      | false => simp
      | true =>
        have hbd := shaped_bd (by rw [rShaped_eq]; exact hs)
        have hp := hm.2 (nth l k).pt.toNat (by omega)
        have e1 : (((k : Int) - 1).toNat) = k - 1 := by omega
        rw [e1]
        have hpf : nth pts (nth l k).pt.toNat = false ↔ ∀ i, i < k → (nth l k).pt ≠ 0 → (nth l i).pt ≠ (nth l k).pt := by
          rw [← Bool.not_eq_true, hp]
          constructor
          · intro h i hi h0 he
            exact h ⟨by omega, i, hi, by omega⟩
          · rintro h ⟨h0, i, hi, he⟩
            exact h i hi (by omega) (by omega)
        simp only [Bool.or_eq_false_iff, Bool.and_eq_false_iff, Bool.not_eq_false', Bool.and_eq_true, decide_eq_true_eq, decide_eq_false_iff_not, hpf]
        constructor
        · rintro ⟨⟨⟨⟨h1, h2⟩, _⟩, h3⟩, h4⟩
          exact ⟨h1, h2, trivial, fun h0 => by rcases h3 with h3 | h3 <;> omega, h4⟩
        · rintro ⟨h1, h2, _, h3, h4⟩
          refine ⟨⟨⟨⟨h1, h2⟩, trivial⟩, ?_⟩, h4⟩
          rcases Nat.eq_zero_or_pos k with h0 | h0
          · left; omega
          · right; have := h3 h0; omega
    rw [hb]
    constructor
    · rintro ⟨h1, h2⟩ j hj hlt
      have hbd := shaped_bd (by rw [rShaped_eq]; exact h1.2.2.1)
      have hm' : Marks l (pts.set (nth l k).pt.toNat (decide (0 < (nth l k).pt))) (k + 1) := by
        refine ⟨by simp [hm.1], fun p hp => ?_⟩
        rw [nth_set _ _ _ _ (by rw [hm.1]; omega)]
        split
        · rename_i e
          constructor
          · intro h; simp at h; exact ⟨by omega, k, by omega, by omega⟩
          · rintro ⟨h0, _⟩; simp; omega
        · rename_i e
          rw [hm.2 p hp]
          constructor
          · rintro ⟨h0, i, hi, he⟩; exact ⟨h0, i, by omega, he⟩
          · rintro ⟨h0, i, hi, he⟩
            refine ⟨h0, i, ?_, he⟩
            rcases Nat.lt_or_ge i k with h | h
            · exact h
            · obtain rfl : i = k := by omega
              omega
      rcases Nat.lt_or_ge k j with h | h
      · exact (ck1_iff l r (k + 1) _ hr hm').1 h2 j (by omega) hlt
      · obtain rfl : j = k := by omega
        exact h1
    · intro h
      have h1 := h k (Nat.le_refl _) hk
      refine ⟨h1, ?_⟩
      have hbd := shaped_bd (by rw [rShaped_eq]; exact h1.2.2.1)
      have hm' : Marks l (pts.set (nth l k).pt.toNat (decide (0 < (nth l k).pt))) (k + 1) := by
        refine ⟨by simp [hm.1], fun p hp => ?_⟩
        rw [nth_set _ _ _ _ (by rw [hm.1]; omega)]
        split
        · rename_i e
          constructor
          · intro h; simp at h; exact ⟨by omega, k, by omega, by omega⟩
          · rintro ⟨h0, _⟩; simp; omega
        · rename_i e
          rw [hm.2 p hp]
          constructor
          · rintro ⟨h0, i, hi, he⟩; exact ⟨h0, i, by omega, he⟩
          · rintro ⟨h0, i, hi, he⟩
            refine ⟨h0, i, ?_, he⟩
            rcases Nat.lt_or_ge i k with h | h
            · exact h
            · obtain rfl : i = k := by omega
              omega
      exact (ck1_iff l r (k + 1) _ hr hm').2 fun j hj hlt => h j (by omega) hlt
theorem marks0 (l : List Section) : Marks l (List.replicate 100 false) 0 := by
  refine ⟨by simp, fun p hp => ?_⟩
  rw [nth_eq (by simpa using hp), List.getElem_replicate]
  constructor
  · intro h; cases h
  · rintro ⟨_, i, h, _⟩; exact absurd h (Nat.not_lt_zero _)
theorem rMay1_iff (l : List Section) : ∀ (r : List Section) (k : Nat), l.drop k = r → (rMay1 (l.take k) r = true ↔ ∀ j, k ≤ j → j < l.length → okAt' l j)
  | [], k, hr => by
    have : l.length ≤ k := by simpa using hr
    simp [rMay1]; intro j h1 h2; omega
  | s :: r, k, hr => by
    have hk : k < l.length := by
      rcases Nat.lt_or_ge k l.length with h | h
      · exact h
      · rw [List.drop_eq_nil_of_le h] at hr; cases hr
    rw [drop_at hk, List.cons.injEq] at hr
    obtain ⟨rfl, hr⟩ := hr
    rw [rMay1, take_at hk, Bool.and_eq_true, rMay1_iff l r (k + 1) hr]
    have hb : rOk (l.take k) (nth l k) = true ↔ okAt' l k := by
      unfold rOk okAt' rClash
      simp only [Bool.and_eq_true, Bool.not_eq_true', Bool.or_eq_false_iff, decide_eq_false_iff_not, Bool.not_eq_false', List.all_eq_true, Bool.and_eq_false_iff, decide_eq_true_eq]
      constructor
      · rintro ⟨⟨⟨h1, h2⟩, h3⟩, h4⟩
        refine ⟨by omega, by omega, h3, fun i hi => ?_⟩
        have := h4 (nth l i) (by rw [← take_get hi]; exact nth_mem (by simp; omega))
        refine ⟨by omega, fun h0 he => ?_⟩
        rcases this.2 with h | h
        · exact h0 h
        · exact h he
      · rintro ⟨h1, h2, h3, h4⟩
        refine ⟨⟨⟨by omega, by omega⟩, h3⟩, fun x hx => ?_⟩
        obtain ⟨i, hi, rfl⟩ := List.mem_iff_getElem.1 hx
        have hik : i < k := by simp at hi; omega
        have := h4 i hik
        have e : (l.take k)[i] = nth l i := by rw [← nth_eq hi, take_get hik]
        rw [e]
        refine ⟨by omega, ?_⟩
        by_cases h0 : (nth l k).pt = 0
        · exact .inl h0
        · exact .inr (this.2 h0)
    rw [hb]
    constructor
    · rintro ⟨h1, h2⟩ j hj hlt
      rcases Nat.lt_or_ge k j with h | h
      · exact h2 j (by omega) hlt
      · obtain rfl : j = k := by omega
        exact h1
    · intro h
      exact ⟨h k (Nat.le_refl _) hk, fun j hj hlt => h j (by omega) hlt⟩
def Sorted (l : List Section) : Prop := ∀ i j, i < j → j < l.length → (nth l i).id < (nth l j).id
theorem okAt_sorted {l : List Section} (h : ∀ j, j < l.length → okAt l j) : Sorted l := by
  intro i j hij hj
  obtain ⟨d, rfl⟩ := Nat.exists_eq_add_of_lt hij
  clear hij
  induction d with
  | zero => exact (h (i + 0 + 1) hj).2.2.2.1 (by omega)
  | succ d ih =>
    have h1 := ih (by omega)
    have h2 := (h (i + (d + 1) + 1) hj).2.2.2.1 (by omega)
    have e : i + (d + 1) + 1 - 1 = i + d + 1 := by omega
    rw [e] at h2
    omega
theorem first_eq (l : List Section) : ck1 l 0 (List.replicate 100 false) l = rMay1 [] l := by
  have h1 := ck1_iff l l 0 _ rfl (marks0 l)
  have h2 := rMay1_iff l l 0 rfl
  rw [List.take_zero] at h2
  rw [Bool.eq_iff_iff, h1, h2]
  constructor
  · intro h j _ hj
    have hs := okAt_sorted fun j hj => h j (Nat.zero_le _) hj
    have := h j (Nat.zero_le _) hj
    exact ⟨this.1, this.2.1, this.2.2.1, fun i hi => ⟨hs i j hi hj, this.2.2.2.2 i hi⟩⟩
  · intro h j _ hj
    have := h j (Nat.zero_le _) hj
    exact ⟨this.1, this.2.1, this.2.2.1, fun h0 => (this.2.2.2 (j - 1) (by omega)).1, fun i hi => (this.2.2.2 i hi).2⟩
theorem sorted_of {l : List Section} (h : ck1 l 0 (List.replicate 100 false) l = true) : Sorted l :=
  okAt_sorted fun j hj => (ck1_iff l l 0 _ rfl (marks0 l)).1 h j (Nat.zero_le _) hj
/-! ### places -/
theorem cmpI_lt {a b : Int} : cmpI a b < 0 ↔ a < b := by unfold cmpI; split <;> (try split) <;> omega
theorem cmpI_eq {a b : Int} : cmpI a b = 0 ↔ a = b := by unfold cmpI; split <;> (try split) <;> omega
theorem bsGo_spec {l : List Section} {id : Int} (hs : Sorted l) : ∀ (n i j : Nat), j - i ≤ n → i ≤ j → j ≤ l.length → (∀ x, x < i → (nth l x).id < id) → (∀ x, j ≤ x → x < l.length → id ≤ (nth l x).id) →
    (∀ x, x < bsGo l id i j → (nth l x).id < id) ∧ (∀ x, bsGo l id i j ≤ x → x < l.length → id ≤ (nth l x).id)
  | 0, i, j, hn, hij, hj, h1, h2 => by
    obtain rfl : i = j := by omega
    rw [bsGo_end]; exact ⟨h1, h2⟩
  | n + 1, i, j, hn, hij, hj, h1, h2 => by
    rcases Nat.lt_or_ge i j with hlt | hge
    · rw [bsGo_step hlt]
      split
      · rename_i hc
        rw [cmpI_lt] at hc
        refine bsGo_spec hs n _ _ (by omega) (by omega) hj (fun x hx => ?_) h2
        rcases Nat.lt_or_ge x ((i + j) / 2) with h | h
        · have := hs x ((i + j) / 2) h (by omega); omega
        · obtain rfl : x = (i + j) / 2 := by omega
          exact hc
      · rename_i hc
        rw [cmpI_lt] at hc
        refine bsGo_spec hs n _ _ (by omega) (by omega) (by omega) h1 (fun x hx hxl => ?_)
        rcases Nat.lt_or_ge ((i + j) / 2) x with h | h
        · have := hs ((i + j) / 2) x h hxl; omega
        · obtain rfl : x = (i + j) / 2 := by omega
          omega
    · obtain rfl : i = j := by omega
      rw [bsGo_end]; exact ⟨h1, h2⟩
theorem atGo_spec (id : Int) : ∀ (l : List Section) (k : Nat), (atGo id k l = -1 ∧ ∀ i, i < l.length → (nth l i).id ≠ id) ∨ ∃ p, p < l.length ∧ atGo id k l = (k : Int) + p ∧ (nth l p).id = id
  | [], k => .inl ⟨rfl, fun i h => by simp at h⟩
  | x :: r, k => by
    unfold atGo
    split
    · rename_i h
      exact .inr ⟨0, by simp, by simp, by simpa [nth] using h⟩
    · rename_i h
      rcases atGo_spec id r (k + 1) with ⟨h1, h2⟩ | ⟨p, h1, h2, h3⟩
      · refine .inl ⟨h1, fun i hi => ?_⟩
        cases i with
        | zero => simpa [nth] using h
        | succ i => simpa [nth] using h2 i (by simpa using hi)
      · exact .inr ⟨p + 1, by simpa using h1, by rw [h2]; omega, by simpa [nth] using h3⟩
theorem place_at {l : List Section} (hs : Sorted l) (id : Int) : ((place l id).2 = false ∧ atGo id 0 l = -1) ∨ ((place l id).2 = true ∧ atGo id 0 l = (place l id).1) := by
  have hb := bsGo_spec (id := id) hs l.length 0 l.length (by omega) (by omega) (Nat.le_refl _) (fun x h => absurd h (Nat.not_lt_zero _)) (fun x h1 h2 => absurd h1 (by omega))
  have hle := bsGo_le l id l.length 0 l.length (by omega) (by omega)
  unfold place
  rcases atGo_spec id l 0 with ⟨h1, h2⟩ | ⟨p, h1, h2, h3⟩
  · left
    refine ⟨?_, h1⟩
    simp only [Bool.and_eq_false_iff, decide_eq_false_iff_not]
    rcases Nat.lt_or_ge (bsGo l id 0 l.length) l.length with h | h
    · right; rw [cmpI_eq]; exact h2 _ h
    · left; omega
  · right
    have hp : bsGo l id 0 l.length = p := by
      rcases Nat.lt_trichotomy (bsGo l id 0 l.length) p with h | h | h
      · have a := hb.2 _ (Nat.le_refl _) (by omega)
        have b := hs _ _ h h1
        omega
      · exact h
      · have := hb.1 p h; omega
    rw [hp]
    refine ⟨?_, by rw [h2]; omega⟩
    simp only [Bool.and_eq_true, decide_eq_true_eq, cmpI_eq]
    exact ⟨h1, h3⟩
theorem end_eq {l : List Section} (hs : Sorted l) (s : Section) (e : Nat) : ckEnd l s e = rJoined l s e := by
  unfold ckEnd rJoined
  split
  · rfl
  · rcases place_at hs (nth s.ends e).to with ⟨h1, h2⟩ | ⟨h1, h2⟩
    · rw [h1, h2]; simp
    · have h3 := place_lt h1
      rw [h1, h2]
      simp only [Int.toNat_natCast]
      split
      · rename_i h
        rcases h with h | h | h | h
        · omega
        · simp [h]
        · simp [h]
        · simp [h.1, h.2]
      · rename_i h
        simp only [not_or] at h
        obtain ⟨_, h4, h5, h6⟩ := h
        simp only [h4, h5, decide_false, Bool.not_true, Bool.false_or, Bool.or_false]
        by_cases h7 : (nth s.ends e).to = s.id
        · by_cases h8 : (nth s.ends e).ed = (e : Int)
          · exact absurd ⟨h7, h8⟩ h6
          · simp [h8]
        · simp [h7]
theorem check_eq (l : List Section) : check l = rCheck l := by
  unfold check rCheck rMay
  by_cases h16 : 16 < (l.length : Int)
  · simp [h16]
  · rw [if_neg h16, first_eq]
    cases h1 : rMay1 [] l with
    | false => simp
    | true =>
      have hs := sorted_of ((first_eq l).trans h1)
      have e2 : ck2 l = rMay2 l := by
        unfold ck2 rMay2
        congr 1
        funext s
        congr 1
        funext e
        exact end_eq hs s e
      simp [h16, e2]
theorem sorted_may {l : List Section} (h : rMay l = true) : Sorted l := by
  unfold rMay at h
  simp only [Bool.and_eq_true] at h
  exact sorted_of ((first_eq l).trans h.1.2)
theorem find_eq (l : List Section) (id : Int) : find l id = rFind l id := by
  unfold find rFind
  rw [check_eq]
  unfold rCheck
  cases hm : rMay l with
  | false => simp
  | true =>
    rcases place_at (sorted_may hm) id with ⟨h1, h2⟩ | ⟨h1, h2⟩
    · simp [h1, h2]
    · rw [h1, h2]
      simp
end Go.Lev
