/-
  THE ENGINE, PART F: slices of slices, literals, and all operations that reckon a value.
-/
import Derived.Test.YtclilifadifkgaaEngE
import Derived.Laws.Tables
namespace Go.Eng
open Go.RowKit

section
variable {P : Program} {inv : Nat → Option Nat} {w0 : World} {M : Nat → Prop} {φ : AF} {σ : AS} {β : Nat → Nat} {a : Act} {w : World}

theorem run_sliceBound (k : IntKind) (i : Nat) (y : Nat) (code : BoundsCode) (h : i ≤ y) : (Instr.sliceBound (.int k i) y code).run P w = .ok i w := by
  have : 0 ≤ (i : Int) ∧ (i : Int) ≤ (y : Int) := ⟨by omega, by omega⟩
  simp [Instr.sliceBound, asIntOf, this]

theorem run_bounds (b : Bool) {len cap : Nat} {lo hi mx : Option Value} {l h m : Nat}
    (hm : mx = none ∧ m = cap ∨ ∃ k, mx = some (.int k m) ∧ m ≤ cap) (hh : hi = none ∧ h = len ∧ mx = none ∨ ∃ k, hi = some (.int k h) ∧ h ≤ m) (hl : lo = none ∧ l = 0 ∨ ∃ k, lo = some (.int k l) ∧ l ≤ h) :
    (Instr.sliceBounds b len cap lo hi mx).run P w = .ok (l, h, m) w := by
  unfold Instr.sliceBounds
  rcases hm with ⟨rfl, rfl⟩ | ⟨k, rfl, hm⟩
  · rcases hh with ⟨rfl, rfl, _⟩ | ⟨k, rfl, hh⟩
    · rcases hl with ⟨rfl, rfl⟩ | ⟨k', rfl, hl⟩
      · rfl
      · simp only [Sem.run_bind, Sem.run_pure, Result.andThen_ok, run_sliceBound k' l h _ hl]
    · rcases hl with ⟨rfl, rfl⟩ | ⟨k', rfl, hl⟩
      · simp only [Sem.run_bind, Sem.run_pure, Result.andThen_ok, run_sliceBound k h m _ hh]
      · simp only [Sem.run_bind, Sem.run_pure, Result.andThen_ok, run_sliceBound k h m _ hh, run_sliceBound k' l h _ hl]
  · rcases hh with ⟨rfl, rfl, h0⟩ | ⟨k', rfl, hh⟩
    · cases h0
    · rcases hl with ⟨rfl, rfl⟩ | ⟨k'', rfl, hl⟩
      · simp only [Sem.run_bind, Sem.run_pure, Result.andThen_ok, run_sliceBound k m cap _ hm, run_sliceBound k' h m _ hh]
      · simp only [Sem.run_bind, Sem.run_pure, Result.andThen_ok, run_sliceBound k m cap _ hm, run_sliceBound k' h m _ hh, run_sliceBound k'' l h _ hl]
theorem run_sliceAt_arr {t e : TypeId} {n sz : Nat} (hu : P.underlying t = some (.array n e)) (hsz : siz P e = some sz) (A : Addr) {lo hi mx : Option Value} {l h m : Nat}
    (hm : mx = none ∧ m = n ∨ ∃ k, mx = some (.int k m) ∧ m ≤ n) (hh : hi = none ∧ h = n ∧ mx = none ∨ ∃ k, hi = some (.int k h) ∧ h ≤ m) (hl : lo = none ∧ l = 0 ∨ ∃ k, lo = some (.int k l) ∧ l ≤ h) :
    (Instr.sliceAt t (.pointer (some A)) lo hi mx).run P w = .ok (.slice (if m = l then some A else (some A).map (·.add (l * sz))) (h - l) (m - l)) w := by
  unfold Instr.sliceAt
  rw [Sem.run_bind, run_underlying hu]
  simp only [Result.andThen_ok, Sem.run_bind, Instr.sureAddr, Sem.run_pure, run_bounds false hm hh hl, run_siz hsz]
  split <;> simp
theorem run_sliceAt {t e : TypeId} {sz : Nat} (hu : P.underlying t = some (.slice e)) (hsz : siz P e = some sz) (A : Option Addr) (len cap : Nat) {lo hi mx : Option Value} {l h m : Nat}
    (hm : mx = none ∧ m = cap ∨ ∃ k, mx = some (.int k m) ∧ m ≤ cap) (hh : hi = none ∧ h = len ∧ mx = none ∨ ∃ k, hi = some (.int k h) ∧ h ≤ m) (hl : lo = none ∧ l = 0 ∨ ∃ k, lo = some (.int k l) ∧ l ≤ h) :
    (Instr.sliceAt t (.slice A len cap) lo hi mx).run P w = .ok (.slice (if m = l then A else A.map (·.add (l * sz))) (h - l) (m - l)) w := by
  have hb := run_bounds (P := P) (w := w) true hm hh hl
  unfold Instr.sliceAt
  rw [Sem.run_bind, run_underlying hu]
  simp only [Result.andThen_ok]
  unfold Instr.slice
  rw [Sem.run_bind, run_underlying hu]
  simp only [Result.andThen_ok, Sem.run_bind, hb, run_siz hsz, Sem.run_pure]

theorem rel_some_i {c : Ctx} {k : IntKind} {n : Int} {v : Value} (h : rel c (.i k n) v) (h0 : 0 ≤ n) : v = .int k (n.toNat : Nat) := by
  simp only [rel] at h
  rw [h, Int.toNat_of_nonneg h0]

/-- An optional operand. -/
def relO (c : Ctx) : Option AV → Option Value → Prop
  | none, none => True
  | some x, some y => rel c x y
  | _, _ => False

theorem sl_cut {c : Ctx} {sz : Nat} {es : List (List AV)} {ad : Option Addr} {cap : Nat} (hcap : es.length ≤ cap) (hr : es ≠ [] → ∃ a : Addr, ad = some a ∧ ¬ c.A a.block ∧ a.block < c.w.heap.size ∧ relRows c sz a 0 es) (l h : Nat) (hl : l ≤ h) (hh : h ≤ es.length) :
    rel c (.sl sz ((es.take h).drop l)) (.slice (if cap = l then ad else ad.map (·.add (l * sz))) (h - l) (cap - l)) := by
  simp only [rel]
  refine ⟨_, _, by rw [List.length_drop, List.length_take, Nat.min_eq_left hh], by rw [List.length_drop, List.length_take, Nat.min_eq_left hh]; omega, fun hne => ?_⟩
  have hlt : l < h := by
    rcases Nat.lt_or_ge l h with hlt | hge
    · exact hlt
    · exact absurd (List.eq_nil_of_length_eq_zero (by rw [List.length_drop, List.length_take, Nat.min_eq_left hh]; omega)) hne
  have hes : es ≠ [] := fun e => by rw [e] at hh; simp at hh; omega
  obtain ⟨a, rfl, hA, hb, hrows⟩ := hr hes
  rw [if_neg (by omega)]
  refine ⟨a.add (l * sz), rfl, by rw [block_add]; exact hA, by rw [block_add]; exact hb, relRows_shift (l * sz) ?_⟩
  have := relRows_drop l (relRows_take h hrows)
  rwa [show l * sz + 0 = 0 + l * sz by omega]

theorem sm_cut {l ver off n sz : Nat} {p : Place} {ad : Option Addr} {cap : Nat} (hp : place β w σ l = some p) (hv : p.len = ver) (h1 : off + n * sz ≤ ver) (hcap : n ≤ cap)
    (hr : if p.real then (cap = 0 ∨ ad = some ⟨p.block, off, none⟩) ∧ off + cap * sz ≤ p.size else cap = 0) (lo h : Nat) (hl : lo ≤ h) (hh : h ≤ n) :
    rel (ctx inv M σ β w) (.sm l ver (off + lo * sz) (h - lo) sz) (.slice (if cap = lo then ad else ad.map (·.add (lo * sz))) (h - lo) (cap - lo)) := by
  simp only [rel]
  refine ⟨rfl, fun p' hp' => ?_⟩
  have : p' = p := by have := (show place β w σ l = some p' from hp').symm.trans hp; simpa using this
  subst this
  have hb : lo * sz + (h - lo) * sz ≤ n * sz := by rw [← Nat.add_mul]; exact Nat.mul_le_mul_right _ (by omega)
  have hc2 : lo * sz + (cap - lo) * sz = cap * sz := by rw [← Nat.add_mul]; congr 1; omega
  refine ⟨by omega, fun _ => ⟨by omega, _, _, rfl, by omega, ?_⟩⟩
  cases hreal : p'.real with
  | false => rw [hreal] at hr; simp only [Bool.false_eq_true, if_false] at hr ⊢; omega
  | true =>
    rw [hreal] at hr
    simp only [if_true] at hr ⊢
    obtain ⟨h2, h3⟩ := hr
    refine ⟨?_, by omega⟩
    by_cases hcl : cap = lo
    · exact .inl (by omega)
    · rw [if_neg hcl]
      rcases h2 with h2 | h2
      · exact .inl (by omega)
      · rw [h2]; exact .inr (by simp [addr_add])

theorem rel_sm_of (hm : Mem inv w0 M σ β w) {l ver off m sz : Nat} {p : Place} (hl : live σ l ver) (hp : place β w σ l = some p) (hv : p.len = ver) (h0 : 0 < ver) (hle : off + m * sz ≤ ver) :
    rel (ctx inv M σ β w) (.sm l ver off m sz) (.slice (some ⟨p.block, off, none⟩) m m) := by
  have hreal : p.real = true ∧ ver ≤ p.size := by
    unfold live at hl
    unfold place at hp
    split at hl
    · rename_i cs r e
      rw [e] at hp
      cases r with
      | false => have := hm.ghost l cs e; subst this; simp at hl; omega
      | true =>
        simp only [Option.some.injEq] at hp
        subst hp
        refine ⟨rfl, ?_⟩
        obtain ⟨xs, ty, q1, q2, _⟩ := hm.cells l cs e
        simp only [blockSize, q1]
        omega
    · cases hl
  simp only [rel]
  refine ⟨rfl, fun p' hp' => ?_⟩
  have : p' = p := by have := (show place β w σ l = some p' from hp').symm.trans hp; simpa using this
  subst this
  refine ⟨by omega, fun _ => ⟨hle, _, m, rfl, Nat.le_refl _, ?_⟩⟩
  rw [hreal.1]
  exact ⟨.inr rfl, by omega⟩
def Slicer (P : Program) (w : World) (sz : Nat) (u : Value) (F : Option Value → Option Value → Option Value → Sem Value) : Prop :=
  ∀ (A : Option Addr) (len cap : Nat), u = .slice A len cap → ∀ (lo hi mx : Option Value) (l h m : Nat), (mx = none ∧ m = cap ∨ ∃ k, mx = some (.int k m) ∧ m ≤ cap) → (hi = none ∧ h = len ∧ mx = none ∨ ∃ k, hi = some (.int k h) ∧ h ≤ m) →
    (lo = none ∧ l = 0 ∨ ∃ k, lo = some (.int k l) ∧ l ≤ h) → (F lo hi mx).run P w = .ok (.slice (if m = l then A else A.map (·.add (l * sz))) (h - l) (m - l)) w
theorem aslc_sound {sz : Nat} {x : AV} {u : Value} {F : Option Value → Option Value → Option Value → Sem Value} (hF : Slicer P w sz u F) {lo hi mx : Option AV} {lo' hi' mx' : Option Value} {K : AV → Prop}
    (hx : rel (ctx inv M σ β w) x u) (hlo : relO (ctx inv M σ β w) lo lo') (hhi : relO (ctx inv M σ β w) hi hi') (hmx : relO (ctx inv M σ β w) mx mx') (h : aslc σ x lo hi mx sz K) :
    ∃ z r, K z ∧ rel (ctx inv M σ β w) z r ∧ (F lo' hi' mx').run P w = .ok r w := by
  have rn : ∀ {v : Option Value}, relO (ctx inv M σ β w) none v → v = none := by intro v hv; cases v <;> first | rfl | exact hv.elim
  have rs : ∀ {v : Option Value} {k : IntKind} {n : Int}, relO (ctx inv M σ β w) (some (.i k n)) v → 0 ≤ n → v = some (.int k (n.toNat : Nat)) := by
    intro v k n hv h0
    cases v with
    | none => exact hv.elim
    | some v => rw [rel_some_i (c := ctx inv M σ β w) hv h0]
  unfold aslc at h
  split at h
  · -- three bounds, all 0
    rename_i k m
    obtain ⟨rfl, rfl, rfl, h⟩ := h
    have e1 := rn hlo; subst e1
    have e2 := rs hhi (Int.le_refl 0); subst e2
    have e3 := rs hmx (Int.le_refl 0); subst e3
    have key : ∀ (A : Option Addr) (len cap : Nat), u = .slice A len cap → ∃ r, rel (ctx inv M σ β w) (.s0 sz) r ∧ (F none (some (.int .i64 ((0 : Int).toNat : Nat))) (some (.int k ((0 : Int).toNat : Nat)))).run P w = .ok r w := fun A len cap hu =>
      ⟨_, by simp only [rel]; exact ⟨_, rfl⟩, hF A len cap hu _ _ _ 0 0 0 (.inr ⟨k, rfl, by omega⟩) (.inr ⟨.i64, rfl, by omega⟩) (.inl ⟨rfl, rfl⟩)⟩
    split at h
    · simp only [rel] at hx
      obtain ⟨ad, cap, eu, _⟩ := hx
      obtain ⟨r, h1, h2⟩ := key ad _ cap eu
      exact ⟨_, r, h, h1, h2⟩
    · simp only [rel] at hx
      obtain ⟨ad, eu⟩ := hx
      obtain ⟨r, h1, h2⟩ := key ad _ _ eu
      exact ⟨_, r, h, h1, h2⟩
    · obtain ⟨p, ad, cap, _, _, _, eu, _⟩ := sm_live h.1 hx
      obtain ⟨r, h1, h2⟩ := key ad _ cap eu
      exact ⟨_, r, h.2, h1, h2⟩
    · exact h.elim
  · exact h.elim
  · have e3 := rn hmx; subst e3
    split at h
    · -- a slice that nobody writes
      rename_i sz' es
      obtain ⟨rfl, h⟩ := h
      simp only [rel] at hx
      obtain ⟨ad, cap, eu, hcap, hr⟩ := hx
      split at h
      · have e1 := rn hlo; subst e1
        have e2 := rn hhi; subst e2
        refine ⟨_, _, h, ?_, hF ad es.length cap eu _ _ _ (0) (es.length) cap (.inl ⟨rfl, rfl⟩) (.inl ⟨rfl, rfl, rfl⟩) (.inl ⟨rfl, rfl⟩)⟩
        simpa using sl_cut hcap hr 0 es.length (by omega) (by omega)
      · rename_i k hh
        obtain ⟨⟨h0, h1⟩, h⟩ := h
        have e1 := rn hlo; subst e1
        have e2 := rs hhi h0; subst e2
        refine ⟨_, _, h, ?_, hF ad es.length cap eu _ _ _ (0) (hh.toNat) cap (.inl ⟨rfl, rfl⟩) (.inr ⟨k, rfl, by omega⟩) (.inl ⟨rfl, rfl⟩)⟩
        simpa using sl_cut hcap hr 0 hh.toNat (by omega) (by omega)
      · rename_i k l
        obtain ⟨⟨h0, h1⟩, h⟩ := h
        have e1 := rs hlo h0; subst e1
        have e2 := rn hhi; subst e2
        refine ⟨_, _, h, ?_, hF ad es.length cap eu _ _ _ (l.toNat) (es.length) cap (.inl ⟨rfl, rfl⟩) (.inl ⟨rfl, rfl, rfl⟩) (.inr ⟨k, rfl, by omega⟩)⟩
        have := sl_cut hcap hr l.toNat es.length (by omega) (by omega)
        rwa [List.take_length] at this
      · rename_i k l k' hh
        obtain ⟨⟨h0, h1, h2⟩, h⟩ := h
        have e1 := rs hlo h0; subst e1
        have e2 := rs hhi (by omega); subst e2
        exact ⟨_, _, h, sl_cut hcap hr l.toNat hh.toNat (by omega) (by omega), hF ad es.length cap eu _ _ _ (l.toNat) (hh.toNat) cap (.inl ⟨rfl, rfl⟩) (.inr ⟨k', rfl, by omega⟩) (.inr ⟨k, rfl, by omega⟩)⟩
      · exact h.elim
    · -- a named row
      rename_i l ver off n sz'
      obtain ⟨rfl, hlive, h⟩ := h
      obtain ⟨p, ad, cap, hp, hv, hb, eu, hcap, hr⟩ := sm_live hlive hx
      split at h
      · have e1 := rn hlo; subst e1
        have e2 := rn hhi; subst e2
        refine ⟨_, _, h, ?_, hF ad n cap eu _ _ _ (0) (n) cap (.inl ⟨rfl, rfl⟩) (.inl ⟨rfl, rfl, rfl⟩) (.inl ⟨rfl, rfl⟩)⟩
        simpa using sm_cut (M := M) (inv := inv) hp hv hb hcap hr 0 n (by omega) (by omega)
      · rename_i k hh
        obtain ⟨⟨h0, h1⟩, h⟩ := h
        have e1 := rn hlo; subst e1
        have e2 := rs hhi h0; subst e2
        refine ⟨_, _, h, ?_, hF ad n cap eu _ _ _ (0) (hh.toNat) cap (.inl ⟨rfl, rfl⟩) (.inr ⟨k, rfl, by omega⟩) (.inl ⟨rfl, rfl⟩)⟩
        simpa using sm_cut (M := M) (inv := inv) hp hv hb hcap hr 0 hh.toNat (by omega) (by omega)
      · rename_i k lo
        obtain ⟨⟨h0, h1⟩, h⟩ := h
        have e1 := rs hlo h0; subst e1
        have e2 := rn hhi; subst e2
        exact ⟨_, _, h, sm_cut (M := M) (inv := inv) hp hv hb hcap hr lo.toNat n (by omega) (by omega), hF ad n cap eu _ _ _ (lo.toNat) (n) cap (.inl ⟨rfl, rfl⟩) (.inl ⟨rfl, rfl, rfl⟩) (.inr ⟨k, rfl, by omega⟩)⟩
      · rename_i k lo k' hh
        obtain ⟨⟨h0, h1, h2⟩, h⟩ := h
        have e1 := rs hlo h0; subst e1
        have e2 := rs hhi (by omega); subst e2
        exact ⟨_, _, h, sm_cut (M := M) (inv := inv) hp hv hb hcap hr lo.toNat hh.toNat (by omega) (by omega), hF ad n cap eu _ _ _ (lo.toNat) (hh.toNat) cap (.inl ⟨rfl, rfl⟩) (.inr ⟨k', rfl, by omega⟩) (.inr ⟨k, rfl, by omega⟩)⟩
      · exact h.elim
    · -- a slice without room
      simp only [rel] at hx
      obtain ⟨ad, eu⟩ := hx
      have fin : ∀ (lo'' hi'' : Option Value), (hi'' = none ∧ (0 : Nat) = 0 ∧ (none : Option Value) = none ∨ ∃ k, hi'' = some (.int k (0 : Nat)) ∧ 0 ≤ 0) → (lo'' = none ∧ (0 : Nat) = 0 ∨ ∃ k, lo'' = some (.int k (0 : Nat)) ∧ 0 ≤ 0) → ∃ r, rel (ctx inv M σ β w) (.s0 sz) r ∧ (F lo'' hi'' none).run P w = .ok r w := by
        intro lo'' hi'' h1 h2
        exact ⟨_, by simp only [rel]; exact ⟨_, rfl⟩, hF ad 0 0 eu lo'' hi'' none 0 0 0 (.inl ⟨rfl, rfl⟩) h1 h2⟩
      split at h
      · have e1 := rn hlo; subst e1
        have e2 := rn hhi; subst e2
        obtain ⟨r, k1, k2⟩ := fin none none (.inl ⟨rfl, rfl, rfl⟩) (.inl ⟨rfl, rfl⟩)
        exact ⟨_, r, h, k1, k2⟩
      · rename_i k hh
        obtain ⟨rfl, h⟩ := h
        have e1 := rn hlo; subst e1
        have e2 := rs hhi (Int.le_refl 0); subst e2
        obtain ⟨r, k1, k2⟩ := fin none _ (.inr ⟨k, rfl, Nat.le_refl _⟩) (.inl ⟨rfl, rfl⟩)
        exact ⟨_, r, h, k1, k2⟩
      · rename_i k ll
        obtain ⟨rfl, h⟩ := h
        have e1 := rs hlo (Int.le_refl 0); subst e1
        have e2 := rn hhi; subst e2
        obtain ⟨r, k1, k2⟩ := fin _ none (.inl ⟨rfl, rfl, rfl⟩) (.inr ⟨k, rfl, Nat.le_refl _⟩)
        exact ⟨_, r, h, k1, k2⟩
      · rename_i k ll k' hh
        obtain ⟨⟨rfl, rfl⟩, h⟩ := h
        have e1 := rs hlo (Int.le_refl 0); subst e1
        have e2 := rs hhi (Int.le_refl 0); subst e2
        obtain ⟨r, k1, k2⟩ := fin _ _ (.inr ⟨k', rfl, Nat.le_refl _⟩) (.inr ⟨k, rfl, Nat.le_refl _⟩)
        exact ⟨_, r, h, k1, k2⟩
      · exact h.elim
    · exact h.elim

/-! ### literals -/
theorem one_rel {c : Ctx} {x : AV} {v : Value} (h1 : x.one = true) (h : rel c x v) : v.oneCell' = true := by
  cases x <;> simp only [AV.one, Bool.false_eq_true] at h1 <;> simp only [rel] at h
  · subst h; rfl
  · subst h; rfl
  · subst h; exact h1
  · obtain ⟨_, rfl⟩ := h; rfl
  · obtain ⟨_, _, rfl, _⟩ := h; rfl
  · obtain ⟨_, rfl, _⟩ := h; rfl
  · exact h.1
  · exact h.1
  · obtain ⟨_, _, rfl, _⟩ := h; rfl
  · exact h.1
theorem cells_one {v : Value} (h : v.oneCell' = true) : v.cells = #[v] := by cases v <;> first | rfl | (simp [Value.oneCell'] at h)
theorem cells_rel {c : Ctx} {x : AV} {v : Value} (h1 : x.sound = true) (h : rel c x v) : relCs c x.cells v.cells.toList := by
  have : (∃ cs, x = .agg cs) ∨ (x.cells = [x] ∧ x.one = true) := by
    cases x <;> first | exact .inl ⟨_, rfl⟩ | exact .inr ⟨rfl, h1⟩
  rcases this with ⟨cs, rfl⟩ | ⟨e, h2⟩
  · simp only [rel] at h
    obtain ⟨xs, rfl, h⟩ := h
    exact h
  · have ho := one_rel h2 h
    rw [e, cells_one ho]
    exact relCs_cons ho h relCs_nil
theorem ovl_length : ∀ (xs : List AV) (cs : List AV) (off : Nat), (ovl cs off xs).length = cs.length
  | [], _, _ => rfl
  | x :: xs, cs, off => by simp [ovl, ovl_length xs]
theorem ovl_rel {c : Ctx} (off : Nat) : ∀ (xs : List AV) (us : List Value) (j : Nat) (cs : List AV) (cells : Array Value), relCs c xs us → relCs c cs cells.toList →
    relCs c (ovl cs (off + j) xs) ((us.zipIdx j).foldl (fun cs p => cs.setIfInBounds (off + p.2) p.1) cells).toList ∧ ((us.zipIdx j).foldl (fun cs p => cs.setIfInBounds (off + p.2) p.1) cells).size = cells.size
  | [], us, j, cs, cells, h, h' => by
    simp only [relCs] at h
    subst h
    exact ⟨h', rfl⟩
  | x :: xs, us, j, cs, cells, h, h' => by
    simp only [relCs] at h
    obtain ⟨u, us', rfl, h1, h2, h⟩ := h
    have h3 : relCs c (cs.set (off + j) x) (cells.setIfInBounds (off + j) u).toList := by rw [Array.toList_setIfInBounds]; exact relCs_set _ h' h1 h2
    have := ovl_rel off xs us' (j + 1) _ _ h h3
    simp only [ovl, List.zipIdx_cons, List.foldl_cons]
    exact ⟨this.1, this.2.trans (by simp)⟩

theorem fill_sound (hs : Knows inv w0 M φ σ β a w) {place : Nat → Option (Nat × Nat × TypeId)} : ∀ {l : List (Nat × Operand)} {ps : List (Nat × Nat × Opd)} {cs cs' : List AV} {cells : Array Value},
    cparts P inv place l = some ps → fillA φ cs ps = some cs' → relCs (ctx inv M σ β w) cs cells.toList →
    ∃ cells', Instr.fill (fun i => (place i).map fun p => (p.1, p.2.1)) cells (l.map fun p => (p.1, a.eval p.2)) = some cells' ∧ relCs (ctx inv M σ β w) cs' cells'.toList
  | [], _, _, _, cells, h, hf, hr => by
    simp only [cparts, Option.some.injEq] at h
    subst h
    simp only [fillA, Option.some.injEq] at hf
    subst hf
    exact ⟨cells, rfl, hr⟩
  | (i, x) :: l, _, cs, _, cells, h, hf, hr => by
    simp only [cparts] at h
    split at h
    · rename_i off n t e
      split at h
      · rename_i d ps e1 e2
        simp only [Option.some.injEq] at h
        subst h
        simp only [fillA] at hf
        split at hf
        · rename_i hc
          obtain ⟨c1, c2, c3⟩ := hc
          have hx := copd_rel hs e1
          have hxc := cells_rel c1 hx
          have hl := relCs_length hxc
          have hl2 := relCs_length hr
          have := ovl_rel off _ _ 0 _ _ hxc hr
          obtain ⟨cells', h1, h2⟩ := fill_sound hs e2 hf this.1
          refine ⟨cells', ?_, h2⟩
          simp only [List.map_cons, Instr.fill, e, Option.map_some]
          have hsz : (a.eval x).cells.size = n := by rw [← Array.length_toList, ← hl]; exact c2
          rw [if_neg (by rw [hsz]; simp; rw [← Array.length_toList, ← hl2]; omega)]
          rw [← h1]
          congr 1
          rw [← Array.foldl_toList, Array.toList_zipIdx]
        · cases hf
      · cases h
    · cases h
end
end Go.Eng
