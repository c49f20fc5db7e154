/-
  THE ENGINE, PART W4: a row that nobody writes any more, wherever it is named.
-/
import Derived.Test.YtkpklcnecnijoaaEngW3
namespace Go.Eng
set_option linter.unusedSimpArgs false
set_option linter.unusedVariables false
set_option linter.unusedSectionVars false
open Go.RowKit

mutual
def frV (l : Nat) (cs : List AV) : AV → AV
  | .agg ds => .agg (frL l cs ds)
  | .tup ds => .tup (frL l cs ds)
  | .fn j ds => .fn j (frL l cs ds)
  | .sm l' ver off n sz => if l' = l ∧ ver = cs.length ∧ off = 0 then .sl sz (chunks sz n cs) else .sm l' ver off n sz
  | .ptr l' ver off => .ptr l' ver off
  | .mp l' => .mp l'
  | .i k n => .i k n
  | .b t => .b t
  | .v x => .v x
  | .u => .u
  | .s0 sz => .s0 sz
  | .sl sz es => .sl sz es
  | .ip sz es i k => .ip sz es i k
  | .top => .top
def frL (l : Nat) (cs : List AV) : List AV → List AV
  | [] => []
  | x :: xs => frV l cs x :: frL l cs xs
end
def frO (l : Nat) (cs : List AV) : AO → AO
  | .cells ds r => .cells (frL l cs ds) r
  | .imap kvs => .imap kvs
  | .rsv => .rsv
def frS (l : Nat) (cs : List AV) : List (Nat × AO) → List (Nat × AO)
  | [] => []
  | (k, o) :: r => (k, frO l cs o) :: frS l cs r
def frF (l : Nat) (cs : List AV) : List (Nat × AV) → List (Nat × AV)
  | [] => []
  | (i, x) :: r => (i, frV l cs x) :: frF l cs r
theorem frL_length (l : Nat) (cs : List AV) : ∀ xs : List AV, (frL l cs xs).length = xs.length
  | [] => rfl
  | x :: xs => by simp [frL, frL_length l cs xs]
theorem frO_real (l : Nat) (cs : List AV) (o : AO) : (frO l cs o).real = o.real := by cases o <;> rfl
theorem fget_frF (l : Nat) (cs : List AV) : ∀ (φ : AF) (i : Nat), fget (frF l cs φ) i = frV l cs (fget φ i)
  | [], i => rfl
  | (j, x) :: r, i => by
    simp only [frF, fget]
    split
    · rfl
    · exact fget_frF l cs r i
theorem sget_frS (l : Nat) (cs : List AV) : ∀ (σ : AS) (k : Nat), sget (frS l cs σ) k = (sget σ k).map (frO l cs)
  | [], k => rfl
  | (j, o) :: r, k => by
    simp only [frS, sget]
    split
    · rfl
    · exact sget_frS l cs r k
mutual
theorem rel_fr {c c' : Ctx} {l : Nat} {cs : List AV} (hle : c.Le c') (hS : ∀ k p, c'.S k = some p → c.S k = some p) (hrow : ∀ (n sz : Nat) (y : Value), rel c (.sm l cs.length 0 n sz) y → rel c' (.sl sz (chunks sz n cs)) y) : ∀ (x : AV) (y : Value), rel c x y → rel c' (frV l cs x) y
  | .agg ds, y, r => by
    simp only [rel, frV] at r ⊢
    obtain ⟨xs, e, r⟩ := r
    exact ⟨xs, e, relCs_fr hle hS hrow ds _ r⟩
  | .tup ds, y, r => by
    simp only [rel, frV] at r ⊢
    obtain ⟨xs, e, r⟩ := r
    exact ⟨xs, e, relL_fr hle hS hrow ds _ r⟩
  | .fn j ds, y, r => by
    simp only [rel, frV] at r ⊢
    obtain ⟨g, xs, e, hi, r⟩ := r
    exact ⟨g, xs, e, by rw [hle.inv]; exact hi, relL_fr hle hS hrow ds _ r⟩
  | .sm l' ver off n sz, y, r => by
    simp only [frV]
    split
    · rename_i h
      obtain ⟨rfl, rfl, rfl⟩ := h
      exact hrow n sz y r
    · simp only [rel] at r ⊢
      exact ⟨r.1, fun p hp => r.2 p (hS _ _ hp)⟩
  | .ptr l' ver off, y, r => by
    simp only [rel, frV] at r ⊢
    exact ⟨r.1, fun p hp => r.2 p (hS _ _ hp)⟩
  | .mp l', y, r => by
    simp only [rel, frV] at r ⊢
    exact ⟨r.1, fun p hp => r.2 p (hS _ _ hp)⟩
  | .i k n, y, r => by simp only [frV]; exact rel_moved hle rfl r
  | .b t, y, r => by simp only [frV]; exact rel_moved hle rfl r
  | .v x, y, r => by simp only [frV]; exact rel_moved hle rfl r
  | .u, y, r => by simp only [frV]; exact rel_moved hle rfl r
  | .s0 sz, y, r => by simp only [frV]; exact rel_moved hle rfl r
  | .sl sz es, y, r => by simp only [frV]; exact rel_moved hle rfl r
  | .ip sz es i k, y, r => by simp only [frV]; exact rel_moved hle rfl r
  | .top, y, r => by simp only [frV, rel]
theorem relL_fr {c c' : Ctx} {l : Nat} {cs : List AV} (hle : c.Le c') (hS : ∀ k p, c'.S k = some p → c.S k = some p) (hrow : ∀ (n sz : Nat) (y : Value), rel c (.sm l cs.length 0 n sz) y → rel c' (.sl sz (chunks sz n cs)) y) : ∀ (xs : List AV) (ys : List Value), relL c xs ys → relL c' (frL l cs xs) ys
  | [], ys, r => by simpa only [frL, relL] using r
  | x :: xs, ys, r => by
    simp only [frL, relL] at r ⊢
    obtain ⟨y, ys', e, r1, r2⟩ := r
    exact ⟨y, ys', e, rel_fr hle hS hrow x y r1, relL_fr hle hS hrow xs ys' r2⟩
theorem relCs_fr {c c' : Ctx} {l : Nat} {cs : List AV} (hle : c.Le c') (hS : ∀ k p, c'.S k = some p → c.S k = some p) (hrow : ∀ (n sz : Nat) (y : Value), rel c (.sm l cs.length 0 n sz) y → rel c' (.sl sz (chunks sz n cs)) y) : ∀ (xs : List AV) (ys : List Value), relCs c xs ys → relCs c' (frL l cs xs) ys
  | [], ys, r => by simpa only [frL, relCs] using r
  | x :: xs, ys, r => by
    simp only [frL, relCs] at r ⊢
    obtain ⟨y, ys', e, ho, r1, r2⟩ := r
    exact ⟨y, ys', e, ho, rel_fr hle hS hrow x y r1, relCs_fr hle hS hrow xs ys' r2⟩
end
section
variable {P : Program} {inv : Nat → Option Nat} {w0 : World} {M : Nat → Prop} {n N : Nat} {φ : AF} {σ : AS}
theorem AWp.freezeA {c : ACode} {Q : Exit → AF → AS → Prop} (hM : ∀ b, M b → b < w0.heap.size) (l : Nat) (cs : List AV) (r : Bool) (hl : sget σ l = some (.cells cs r)) (hb : AV.plainL cs = true)
    (h : AWp P inv w0 M N n c Q (frF l cs φ) (frS l cs (sdel σ l))) : AWp P inv w0 M N n c Q φ σ := by
  intro c₀ hc β a w hs
  have hm := hs.mem
  have hback : ∀ k o, sget (frS l cs (sdel σ l)) k = some o → k ≠ l ∧ ∃ o', sget σ k = some o' ∧ o = frO l cs o' := fun k o e => by
    rw [sget_frS, sget_sdel] at e
    by_cases hk : k = l
    · rw [if_pos hk] at e; cases e
    · rw [if_neg hk] at e
      obtain ⟨o', e', rfl⟩ := Option.map_eq_some_iff.1 e
      exact ⟨hk, o', e', rfl⟩
  have hav : ∀ b, avoid M (frS l cs (sdel σ l)) β b → avoid M σ β b := by
    rintro b (hb' | ⟨k, o, e, hr, hbk⟩)
    · exact .inl hb'
    · obtain ⟨_, o', e', rfl⟩ := hback k o e
      exact .inr ⟨k, o', e', by rw [frO_real] at hr; exact hr, hbk⟩
  have hle : (ctx inv M σ β w).Le (ctx inv M (frS l cs (sdel σ l)) β w) := ⟨rfl, Nat.le_refl _, fun _ _ _ => rfl, fun b _ h => hav b h⟩
  have hS : ∀ k p, (ctx inv M (frS l cs (sdel σ l)) β w).S k = some p → (ctx inv M σ β w).S k = some p := by
    intro k p hp
    have hp : place β w (frS l cs (sdel σ l)) k = some p := hp
    show place β w σ k = some p
    unfold place at hp ⊢
    cases e : sget (frS l cs (sdel σ l)) k with
    | none => rw [e] at hp; cases hp
    | some o =>
      obtain ⟨_, o', e', rfl⟩ := hback k o e
      rw [e] at hp
      rw [e']
      cases o' with
      | rsv => exact hp
      | imap kvs => exact hp
      | cells ds r' => cases r' <;> simpa only [frO, frL_length] using hp
  have hrow : ∀ (k sz : Nat) (y : Value), rel (ctx inv M σ β w) (.sm l cs.length 0 k sz) y → rel (ctx inv M (frS l cs (sdel σ l)) β w) (.sl sz (chunks sz k cs)) y := by
    intro k sz y hr
    have hlive : live σ l cs.length := by unfold live; rw [hl]
    obtain ⟨p, ad, cap, hp, hv, hbd, hx, hcap, hr⟩ := sm_live hlive hr
    rw [hx]
    simp only [rel]
    refine ⟨ad, cap, by rw [chunks_length], by rw [chunks_length]; exact hcap, fun hne => ?_⟩
    have hm0 : 0 < k := by
      rcases Nat.eq_zero_or_pos k with e0 | e0
      · subst e0; exact absurd rfl hne
      · exact e0
    have hrl : r = true := by
      cases r with
      | true => rfl
      | false => unfold place at hp; rw [hl] at hp; cases hp; simp at hr; omega
    subst hrl
    have hpe : p = ⟨β l, cs.length, blockSize w (β l), true⟩ := by unfold place at hp; rw [hl] at hp; cases hp; rfl
    subst hpe
    simp only [if_true] at hr
    obtain ⟨ys, _, h4, h5⟩ := hm.cell hl
    have hown := hm.own l _ hl rfl
    refine ⟨_, hr.1.resolve_left (by omega), ?_, hown.2, ?_⟩
    · rintro (ha | ⟨l', o, e, hro, hbe⟩)
      · have := hM _ ha
        have := hown.1
        simp only at *
        omega
      · obtain ⟨hne', o', e', rfl⟩ := hback l' o e
        rw [frO_real] at hro
        exact hne' (hm.inj l' l o' _ e' hl hro rfl hbe)
    · have hbare := plainL_bare cs hb
      have hle0 : (ctx inv M σ β w).Le { ctx inv M (frS l cs (sdel σ l)) β w with S := fun _ => Option.none } := ⟨hle.inv, hle.size, hle.keep, hle.avoid⟩
      have h6 : relCs { ctx inv M (frS l cs (sdel σ l)) β w with S := fun _ => Option.none } cs ys := relCs_mono (N := 0) hle0 cs ys (.inr rfl) h4
      refine relRows_chunks k (by omega) hbare h6 fun j u hu => ?_
      show w.cell? _ = _
      rw [addr_add]
      simpa using h5 j u hu
  have hfr := fun x y => rel_fr (l := l) (cs := cs) hle hS hrow x y
  have hst : St inv w0 M n (frF l cs φ) (frS l cs (sdel σ l)) β a w := by
    refine ⟨⟨fun i => by rw [fget_frF]; exact hfr _ _ (hs.slots i), ⟨hm.below, fun k k' o o' e e' hr hr' hbb => ?_, fun k o e hr => ?_, fun k ds e => ?_, fun k ds e => ?_, fun k kvs e => ?_⟩⟩, hs.size, hs.defers⟩
    · obtain ⟨_, o1, e1, rfl⟩ := hback k o e
      obtain ⟨_, o2, e2, rfl⟩ := hback k' o' e'
      rw [frO_real] at hr hr'
      exact hm.inj _ _ _ _ e1 e2 hr hr' hbb
    · obtain ⟨_, o1, e1, rfl⟩ := hback k o e
      rw [frO_real] at hr
      exact hm.own _ _ e1 hr
    · obtain ⟨_, o1, e1, e2⟩ := hback k _ e
      cases o1 with
      | cells ds1 r1 =>
        simp only [frO, AO.cells.injEq] at e2
        obtain ⟨rfl, rfl⟩ := e2
        obtain ⟨xs, ty, k1, k2, k3⟩ := hm.cells _ ds1 e1
        exact ⟨xs, ty, k1, by rw [frL_length]; exact k2, by rw [frL_length]; exact relCs_fr hle hS hrow ds1 _ k3⟩
      | imap kvs => simp [frO] at e2
      | rsv => simp [frO] at e2
    · obtain ⟨_, o1, e1, e2⟩ := hback k _ e
      cases o1 with
      | cells ds1 r1 =>
        simp only [frO, AO.cells.injEq] at e2
        obtain ⟨rfl, rfl⟩ := e2
        rw [hm.ghost _ ds1 e1]; rfl
      | imap kvs => simp [frO] at e2
      | rsv => simp [frO] at e2
    · obtain ⟨_, o1, e1, e2⟩ := hback k _ e
      cases o1 with
      | imap kvs1 =>
        simp only [frO, AO.imap.injEq] at e2
        subst e2
        exact hm.maps _ kvs e1
      | cells ds1 r1 => simp [frO] at e2
      | rsv => simp [frO] at e2
  refine Code.wp_mono ?_ (h c₀ hc β a w hst)
  rintro e a' w' ⟨φ2, σ2, β2, q2, hst2, hext2⟩
  exact ⟨φ2, σ2, β2, q2, hst2, Ext.trans ⟨hle, fun k _ p' hp' => ⟨p', hS k p' hp', Nat.le_refl _, fun _ => rfl⟩⟩ hext2⟩
end
section cells
variable {α : Type} {c : α → List AV} {sz : Nat} [h : Cells c sz]
include h
mutual
theorem plain_fr (l : Nat) (cs : List AV) : ∀ x : AV, x.plain = true → frV l cs x = x
  | .agg ds, h => by simp only [AV.plain] at h; simp only [frV, plainL_fr l cs ds h]
  | .i _ _, _ => by simp only [frV]
  | .b _, _ => by simp only [frV]
  | .v _, _ => by simp only [frV]
  | .sl _ _, _ => by simp only [frV]
  | .ip _ _ _ _, _ => by simp only [frV]
  | .tup _, h => by simp [AV.plain] at h
  | .u, h => by simp [AV.plain] at h
  | .s0 _, h => by simp [AV.plain] at h
  | .ptr _ _ _, h => by simp [AV.plain] at h
  | .sm _ _ _ _ _, h => by simp [AV.plain] at h
  | .fn _ _, h => by simp [AV.plain] at h
  | .mp _, h => by simp [AV.plain] at h
  | .top, h => by simp [AV.plain] at h
theorem plainL_fr (l : Nat) (cs : List AV) : ∀ xs : List AV, AV.plainL xs = true → frL l cs xs = xs
  | [], _ => by simp only [frL]
  | x :: xs, h => by
    simp only [AV.plainL, Bool.and_eq_true] at h
    simp only [frL, plain_fr l cs x h.1, plainL_fr l cs xs h.2]
end
theorem flat_fr (l' : Nat) (cs : List AV) (l : List α) : frL l' cs (l.map c).flatten = (l.map c).flatten := plainL_fr (c := c) l' cs _ (flat_plain l)
end cells
attribute [go_sem] flat_fr
attribute [go_sem] frV frL frO frS frF
end Go.Eng
