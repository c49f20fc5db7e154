/-
  THE PLAIN DATA: what is handed in, as the program's structs.
-/
import Derived.Test.YtkpklcnecnijoaaEngX
namespace Go.Lev
set_option linter.unusedSimpArgs false
set_option linter.unusedVariables false
set_option linter.unusedSectionVars false
open Go.Eng

def I64 (x : Int) : Prop := -9223372036854775808 ≤ x ∧ x ≤ 9223372036854775807
theorem of_i64 {d : D} (h : Sh.ok (.i .i64) d) : ∃ n, d = .n n ∧ I64 n := by
  cases d with
  | n n =>
    refine ⟨n, rfl, ?_⟩
    have h : (Lit.int .i64 n).wf = true := h
    simp [Lit.wf, IntKind.min, IntKind.max, IntKind.signed, IntKind.bits] at h
    unfold I64
    omega
  | t _ => exact h.elim
  | l _ => exact h.elim
theorem of_u8 {d : D} (h : Sh.ok (.i .u8) d) : ∃ n, d = .n n ∧ 0 ≤ n ∧ n ≤ 255 := by
  cases d with
  | n n =>
    refine ⟨n, rfl, ?_⟩
    have h : (Lit.int .u8 n).wf = true := h
    simp [Lit.wf, IntKind.min, IntKind.max, IntKind.signed, IntKind.bits] at h
    omega
  | t _ => exact h.elim
  | l _ => exact h.elim
theorem of_s {sz : Nat} {e : Sh} {d : D} (h : Sh.ok (.s sz e) d) : ∃ l, d = .l l ∧ l.length ≤ maxLen ∧ ∀ x ∈ l, Sh.ok e x := by
  cases d with
  | l l => exact ⟨l, rfl, by simpa only [Sh.ok] using h⟩
  | t _ => exact h.elim
  | n _ => exact h.elim
theorem of_st {fs : List Sh} {d : D} (h : Sh.ok (.st fs) d) : ∃ l, d = .l l ∧ Sh.okL fs l := by
  cases d with
  | l l => exact ⟨l, rfl, by simpa only [Sh.ok] using h⟩
  | t _ => exact h.elim
  | n _ => exact h.elim
theorem of_cons {f : Sh} {fs : List Sh} {l : List D} (h : Sh.okL (f :: fs) l) : ∃ d ds, l = d :: ds ∧ Sh.ok f d ∧ Sh.okL fs ds := by
  cases l with
  | nil => exact h.elim
  | cons d ds => exact ⟨d, ds, rfl, by simpa only [Sh.okL] using h⟩
theorem of_nil {l : List D} (h : Sh.okL [] l) : l = [] := by cases l with | nil => rfl | cons _ _ => exact h.elim
theorem of_list {α : Type} {c : α → List AV} {p : α → Prop} {e : Sh} (h : ∀ d, Sh.ok e d → ∃ a, Sh.av e d = c a ∧ p a) : ∀ l : List D, (∀ x ∈ l, Sh.ok e x) → ∃ as : List α, l.map (Sh.av e) = as.map c ∧ as.length = l.length ∧ ∀ a ∈ as, p a
  | [], _ => ⟨[], rfl, rfl, fun _ h => by cases h⟩
  | d :: l, hl => by
    obtain ⟨a, h1, h2⟩ := h d (hl d (by simp))
    obtain ⟨as, h3, h4, h5⟩ := of_list h l fun x hx => hl x (by simp [hx])
    exact ⟨a :: as, by simp [h1, h3], by simp [h4], by simpa using ⟨h2, h5⟩⟩

def shJoin : Sh := .st [.i .i64, .i .i64]
def shSection : Sh := .st [.i .i64, .i .i64, .s 2 shJoin]
def Join.ok (j : Join) : Prop := I64 j.to ∧ I64 j.ed
def Section.ok (s : Section) : Prop := I64 s.id ∧ I64 s.pt ∧ s.ends.length ≤ maxLen ∧ ∀ j ∈ s.ends, Join.ok j
theorem of_join (d : D) (h : Sh.ok shJoin d) : ∃ j : Join, Sh.av shJoin d = j.c ∧ Join.ok j := by
  obtain ⟨l, rfl, h⟩ := of_st h
  obtain ⟨d1, l, rfl, h1, h⟩ := of_cons h
  obtain ⟨d2, l, rfl, h2, h⟩ := of_cons h
  obtain rfl := of_nil h
  obtain ⟨a, rfl, ha⟩ := of_i64 h1
  obtain ⟨b, rfl, hb⟩ := of_i64 h2
  exact ⟨⟨a, b⟩, rfl, ha, hb⟩
theorem of_section (d : D) (h : Sh.ok shSection d) : ∃ s : Section, Sh.av shSection d = s.c ∧ Section.ok s := by
  obtain ⟨l, rfl, h⟩ := of_st h
  obtain ⟨d1, l, rfl, h1, h⟩ := of_cons h
  obtain ⟨d2, l, rfl, h2, h⟩ := of_cons h
  obtain ⟨d3, l, rfl, h3, h⟩ := of_cons h
  obtain rfl := of_nil h
  obtain ⟨a, rfl, ha⟩ := of_i64 h1
  obtain ⟨b, rfl, hb⟩ := of_i64 h2
  obtain ⟨l, rfl, hl, h3⟩ := of_s h3
  obtain ⟨js, e1, e2, e3⟩ := of_list of_join l h3
  refine ⟨⟨a, b, js⟩, ?_, ha, hb, by simpa [e2] using hl, e3⟩
  simp only [Sh.av, Sh.avL, shSection, e1, Section.c, List.cons_append, List.nil_append]
theorem arg_section {d : D} (h : Sh.ok shSection d) : ∃ s : Section, Sh.arg shSection d = .agg s.c ∧ Section.ok s := by
  obtain ⟨s, e, h⟩ := of_section d h
  refine ⟨s, ?_, h⟩
  cases d with
  | l l => simpa only [Sh.arg, shSection, Sh.av, AV.agg.injEq] using e
  | n _ => simp only [Sh.av, shSection, Section.c] at e; cases e
  | t _ => simp only [Sh.av, shSection, Section.c] at e; cases e
theorem arg_i64 {d : D} (h : Sh.ok (.i .i64) d) : ∃ n, Sh.arg (.i .i64) d = .n n ∧ I64 n := by
  obtain ⟨n, rfl, h'⟩ := of_i64 h
  exact ⟨n, rfl, h'⟩
theorem arg_u8 {d : D} (h : Sh.ok (.i .u8) d) : ∃ n, Sh.arg (.i .u8) d = .i .u8 n ∧ 0 ≤ n ∧ n ≤ 255 := by
  obtain ⟨n, rfl, h'⟩ := of_u8 h
  exact ⟨n, rfl, h'⟩
theorem arg_list {α : Type} {c : α → List AV} {p : α → Prop} {e : Sh} {sz : Nat} (h : ∀ d, Sh.ok e d → ∃ a, Sh.av e d = c a ∧ p a) {d : D} (hd : Sh.ok (.s sz e) d) : ∃ as : List α, Sh.arg (.s sz e) d = .sl sz (as.map c) ∧ as.length ≤ maxLen ∧ ∀ a ∈ as, p a := by
  obtain ⟨l, rfl, hl, h1⟩ := of_s hd
  obtain ⟨as, e1, e2, e3⟩ := of_list h l h1
  exact ⟨as, by simp only [Sh.arg, e1], by omega, e3⟩
end Go.Lev
