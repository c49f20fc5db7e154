/-
  THE ENGINE, PART S: what a statement's argument is read as, and what it is here.
-/
import Derived.Test.YtclilifadifkgaaEngR
import Derived.DataReads
namespace Go.Eng
open Go.RowKit

/-- Kinds of what is handed in: numbers, truth values, slices, structs, arrays. -/
inductive Sh where
  | i (k : IntKind)
  | b
  | s (sz : Nat) (e : Sh)
  | st (fs : List Sh)
  | ar (n : Nat) (e : Sh)
  deriving Inhabited
/-- What is handed in, no memory in sight. -/
inductive D where
  | n (n : Int)
  | t (t : Bool)
  | l (l : List D)
  deriving Inhabited

mutual
def Sh.size : Sh → Nat
  | .i _ => 1 | .b => 1 | .s _ _ => 1
  | .st fs => Sh.sizeL fs
  | .ar n e => n * e.size
def Sh.sizeL : List Sh → Nat
  | [] => 0
  | x :: r => x.size + Sh.sizeL r
end
mutual
def Sh.av : Sh → D → List AV
  | .i k, .n n => [.i k n]
  | .b, .t t => [.b t]
  | .s sz e, .l l => [.sl sz (l.map (Sh.av e))]
  | .st fs, .l l => Sh.avL fs l
  | .ar _ e, .l l => (l.map (Sh.av e)).flatten
  | _, _ => []
def Sh.avL : List Sh → List D → List AV
  | x :: xs, d :: ds => Sh.av x d ++ Sh.avL xs ds
  | _, _ => []
end
mutual
def Sh.ok : Sh → D → Prop
  | .i k, .n n => (Lit.int k n).wf = true
  | .b, .t _ => True
  | .s _ e, .l l => l.length ≤ maxLen ∧ ∀ d ∈ l, Sh.ok e d
  | .st fs, .l l => Sh.okL fs l
  | .ar n e, .l l => l.length = n ∧ ∀ d ∈ l, Sh.ok e d
  | _, _ => False
def Sh.okL : List Sh → List D → Prop
  | [], [] => True
  | x :: xs, d :: ds => Sh.ok x d ∧ Sh.okL xs ds
  | _, _ => False
end
section
variable (P : Program)
mutual
def shOf : Nat → TypeId → Option Sh
  | 0, _ => none
  | n + 1, t =>
    match P.underlying t with
    | some (.int k) => some (.i k)
    | some .bool => some .b
    | some (.slice e) => match shOf n e with
      | some s => if P.cellsOf e = s.size ∧ 0 < s.size then some (.s s.size s) else none
      | none => none
    | some (.struct fs) => match shFs n 0 fs.toList with
      | some l => if P.cellsOf t = Sh.sizeL l then some (.st l) else none
      | none => none
    | some (.array m e) => match shOf n e with
      | some s => if P.cellsOf e = s.size ∧ P.cellsOf t = m * s.size then some (.ar m s) else none
      | none => none
    | _ => none
def shFs : Nat → Nat → List Field → Option (List Sh)
  | 0, _, _ => none
  | _ + 1, _, [] => some []
  | n + 1, off, f :: fs => match shOf n f.type, shFs n (off + P.cellsOf f.type) fs with
    | some s, some l => if f.offset = off ∧ P.cellsOf f.type = s.size then some (s :: l) else none
    | _, _ => none
end
end

mutual
theorem av_length : ∀ (S : Sh) (d : D), S.ok d → (S.av d).length = S.size
  | .i k, d, h => by cases d <;> simp only [Sh.ok] at h <;> simp [Sh.av, Sh.size]
  | .b, d, h => by cases d <;> simp only [Sh.ok] at h <;> simp [Sh.av, Sh.size]
  | .s sz e, d, h => by cases d <;> simp only [Sh.ok] at h <;> simp [Sh.av, Sh.size]
  | .st fs, d, h => by
    cases d <;> simp only [Sh.ok] at h
    rename_i l
    simp only [Sh.av, Sh.size]
    exact avL_length fs l h
  | .ar n e, d, h => by
    cases d <;> simp only [Sh.ok] at h
    rename_i l
    simp only [Sh.av, Sh.size]
    obtain ⟨h1, h2⟩ := h
    subst h1
    induction l with
    | nil => simp
    | cons x l ih =>
      simp only [List.map_cons, List.flatten_cons, List.length_append, List.length_cons]
      rw [av_length e x (h2 x (by simp)), ih fun d hd => h2 d (by simp [hd]), Nat.add_mul]
      omega
theorem avL_length : ∀ (fs : List Sh) (l : List D), Sh.okL fs l → (Sh.avL fs l).length = Sh.sizeL fs
  | [], l, h => by cases l <;> simp only [Sh.okL] at h <;> simp [Sh.avL, Sh.sizeL]
  | s :: ss, l, h => by
    cases l <;> simp only [Sh.okL] at h
    simp only [Sh.avL, Sh.sizeL, List.length_append]
    rw [av_length s _ h.1, avL_length ss _ h.2]
end

section
variable {H : Type} {enc : TypeId × Value → H} {P : Program} {w : World} {base : Nat} {spare : Nat → Bool} {held : Bool} {inv : Nat → Option Nat}
/-- Nothing is kept apart, nothing has a name. -/
abbrev c0 (inv : Nat → Option Nat) (w : World) : Ctx := ⟨inv, w, fun _ => False, fun _ => none⟩

theorem mapM_ex {α β : Type} {f : α → Option β} : ∀ {l : List α} {r : List β}, l.mapM f = some r → r.length = l.length ∧ ∀ (i : Nat) (x : α), l[i]? = some x → ∃ y, r[i]? = some y ∧ f x = some y
  | [], r, h => by simp at h; subst h; exact ⟨rfl, by simp⟩
  | a :: l, r, h => by
    simp only [List.mapM_cons, Option.pure_def, Option.bind_eq_bind, Option.bind_eq_some_iff, Option.some.injEq] at h
    obtain ⟨y, h1, ys, h2, rfl⟩ := h
    obtain ⟨h3, h4⟩ := mapM_ex h2
    refine ⟨by simp [h3], fun i x hx => ?_⟩
    cases i with
    | zero => simp at hx; subst hx; exact ⟨y, by simp, h1⟩
    | succ i => simpa using h4 i x (by simpa using hx)

theorem bare_av : ∀ (S : Sh) (d : D), AV.bareL (S.av d) = true
  | S, d => by
    have key : ∀ (S : Sh), ∀ d, AV.bareL (S.av d) = true := by
      intro S
      refine Sh.rec (motive_1 := fun S => ∀ d, AV.bareL (S.av d) = true) (motive_2 := fun fs => ∀ l, AV.bareL (Sh.avL fs l) = true) ?_ ?_ ?_ ?_ ?_ ?_ ?_ S
      · intro k d; cases d <;> simp [Sh.av, AV.bareL, AV.bare]
      · intro d; cases d <;> simp [Sh.av, AV.bareL, AV.bare]
      · intro sz e ih d; cases d <;> simp [Sh.av, AV.bareL, AV.bare]
      · intro fs ih d; cases d <;> simp [Sh.av, AV.bareL]; exact ih _
      · intro n e ih d
        cases d <;> simp [Sh.av, AV.bareL]
        rename_i l
        induction l with
        | nil => simp [AV.bareL]
        | cons x l ihl => simp only [List.map_cons, List.flatten_cons, bareL_append, ih x, ihl, Bool.and_self]
      · intro l; cases l <;> simp [Sh.avL, AV.bareL]
      · intro s ss ih ihl l
        cases l <;> simp [Sh.avL, AV.bareL]
        rw [bareL_append, ih, ihl]; rfl
    exact key S d

/-- The elements of a row, one by one. -/
theorem rows_open {a : Addr} {sz len : Nat} {S : Sh} (hf : ∀ i, i < len → ∃ cs d, w.cells? base (a.add (i * sz)) sz = some cs ∧ S.ok d ∧ relCs (c0 inv w) (S.av d) cs) (hsz : S.size = sz) :
    ∃ ds : List D, ds.length = len ∧ (∀ d ∈ ds, S.ok d) ∧ ∀ k, relRows (c0 inv w) sz (a.add (k * sz)) 0 ((ds.drop k).map S.av) := by
  have h1 : ∃ ds : List D, ds.length = len ∧ ∀ i, i < len → ∃ cs d, ds[i]? = some d ∧ w.cells? base (a.add (i * sz)) sz = some cs ∧ S.ok d ∧ relCs (c0 inv w) (S.av d) cs := by
    induction len with
    | zero => exact ⟨[], rfl, fun i hi => absurd hi (Nat.not_lt_zero i)⟩
    | succ n ih =>
      obtain ⟨ds, hl, hd⟩ := ih fun i hi => hf i (by omega)
      obtain ⟨cs, d, k1, k2, k3⟩ := hf n (by omega)
      refine ⟨ds ++ [d], by simp [hl], fun i hi => ?_⟩
      by_cases hin : i < n
      · obtain ⟨cs', d', q0, q⟩ := hd i hin
        exact ⟨cs', d', by rw [List.getElem?_append_left (by omega)]; exact q0, q⟩
      · have : i = n := by omega
        subst this
        exact ⟨cs, d, by rw [List.getElem?_append_right (by omega)]; simp [hl], k1, k2, k3⟩
  obtain ⟨ds, hl, hd⟩ := h1
  refine ⟨ds, hl, fun d hm => ?_, fun k => ?_⟩
  · obtain ⟨i, hi, e⟩ := List.mem_iff_getElem.1 hm
    obtain ⟨cs, d', q0, _, q2, _⟩ := hd i (by omega)
    rw [List.getElem?_eq_getElem hi, e] at q0
    simp only [Option.some.injEq] at q0
    subst q0
    exact q2
  · have key : ∀ (m k : Nat), ds.length - k = m → relRows (c0 inv w) sz a (k * sz) ((ds.drop k).map S.av) := by
      intro m
      induction m with
      | zero =>
        intro k hk
        rw [List.drop_eq_nil_of_le (by omega)]
        simp [relRows]
      | succ m ih =>
        intro k hk
        have hlt : k < ds.length := by omega
        obtain ⟨cs, d', q0, q1, q2, q3⟩ := hd k (by omega)
        rw [List.drop_eq_getElem_cons hlt]
        rw [List.getElem?_eq_getElem hlt] at q0
        simp only [Option.some.injEq] at q0
        simp only [List.map_cons, relRows]
        rw [q0]
        have hlen := av_length S d' q2
        obtain ⟨c1, c2, c3⟩ := World.cells?_some q1
        refine ⟨hlen.trans hsz, ?_, ?_⟩
        · refine relRow_of (bare_av S d') (relCs_bare (S := fun _ => none) _ _ (bare_av S d') q3) fun j u hu => ?_
          have hj : j < cs.length := (List.getElem?_eq_some_iff.1 hu).1
          have := c3 j (by omega)
          rw [add_add] at this
          exact this.trans hu
        · rw [show k * sz + sz = (k + 1) * sz by rw [Nat.add_mul]; omega]
          exact ih (k + 1) (by omega)
    have := key _ k rfl
    have h0 := relRows_shift (c := c0 inv w) (sz := sz) (ad := a) (k := 0) (k * sz) (es := (ds.drop k).map S.av) (by simpa using this)
    exact h0

theorem relCs_flat {c : Ctx} {S : Sh} : ∀ {ds : List D} {css : List (List Value)}, ds.length = css.length → (∀ (i : Nat) d cs, ds[i]? = some d → css[i]? = some cs → relCs c (S.av d) cs) → relCs c (ds.map S.av).flatten css.flatten
  | [], [], _, _ => relCs_nil
  | [], _ :: _, h, _ => by simp at h
  | _ :: _, [], h, _ => by simp at h
  | d :: ds, cs :: css, h, hr => by
    simp only [List.map_cons, List.flatten_cons]
    exact relCs_append (hr 0 d cs rfl rfl) (relCs_flat (by simpa using h) fun i d' cs' h1 h2 => hr (i + 1) d' cs' h1 h2)
theorem chop {α : Type} (sz : Nat) : ∀ (n : Nat) (l : List α), l.length = n * sz → ((List.range n).map fun i => (l.drop (i * sz)).take sz).flatten = l
  | 0, l, h => by simp at h; simp [h]
  | n + 1, l, h => by
    have ih := chop sz n (l.drop sz) (by rw [List.length_drop, h, Nat.add_mul]; omega)
    rw [List.range_succ_eq_map, List.map_cons, List.flatten_cons, List.map_map]
    have e : ((List.range n).map ((fun i => (l.drop (i * sz)).take sz) ∘ Nat.succ)).flatten = l.drop sz := by
      rw [← ih]
      congr 1
      refine List.map_congr_left fun i _ => ?_
      simp only [Function.comp, List.drop_drop]
      rw [show sz + i * sz = i.succ * sz by rw [Nat.succ_mul]; omega]
    rw [e]
    simp

theorem open_cells : ∀ (n : Nat), (∀ (t : TypeId) (S : Sh), shOf P n t = some S → ∀ (fuel : Nat) (cs : List Value) (x : DataW H × List MemPlace), DataW.trod enc P w base spare held fuel t cs = some x →
    ∃ d, S.ok d ∧ relCs (c0 inv w) (S.av d) cs) ∧
    (∀ (off : Nat) (fs : List Field) (l : List Sh), shFs P n off fs = some l → ∀ (fuel : Nat) (cs : List Value) (xs : List (DataW H × List MemPlace)), cs.length = off + Sh.sizeL l →
      (fs.mapM fun f => DataW.trod enc P w base spare held fuel f.type ((cs.drop f.offset).take (P.cellsOf f.type))) = some xs → ∃ ds, Sh.okL l ds ∧ relCs (c0 inv w) (Sh.avL l ds) (cs.drop off)) := by
  intro n
  induction n with
  | zero => exact ⟨fun t S hS => by simp [shOf] at hS, fun off fs l h => by simp [shFs] at h⟩
  | succ n ih =>
  refine ⟨fun t S hS fuel cs x hx => ?_, fun off fs l hl fuel cs xs hlen hx => ?_⟩
  · cases fuel with
    | zero => simp [DataW.trod] at hx
    | succ fuel =>
    unfold shOf at hS
    unfold DataW.trod at hx
    split at hS
    · rename_i k e
      simp only [Option.some.injEq] at hS
      subst hS
      rw [e] at hx
      rcases cs with _ | ⟨v, _ | ⟨v', r⟩⟩
      · simp at hx
      · cases v <;> simp at hx
        rename_i k' q
        obtain ⟨⟨rfl, hw⟩, _⟩ := hx
        exact ⟨.n q, hw, relCs_cons rfl (by simp only [rel]) relCs_nil⟩
      · simp at hx
    · rename_i e
      simp only [Option.some.injEq] at hS
      subst hS
      rw [e] at hx
      rcases cs with _ | ⟨v, _ | ⟨v', r⟩⟩
      · simp at hx
      · cases v <;> simp at hx
        rename_i q
        exact ⟨.t q, trivial, relCs_cons rfl (by simp only [rel]) relCs_nil⟩
      · simp at hx
    · rename_i e0 e
      rw [e] at hx
      split at hS
      · rename_i s hs
        split at hS
        · rename_i hc
          obtain ⟨hc1, hc2⟩ := hc
          simp only [Option.some.injEq] at hS
          subst hS
          rcases cs with _ | ⟨v, _ | ⟨v', r⟩⟩
          · simp at hx
          · cases v <;> simp at hx
            rename_i ad len cap
            cases ad with
            | none =>
              cases len <;> cases cap <;> simp at hx
              exact ⟨.l [], ⟨by simp [maxLen], by simp⟩, relCs_cons rfl (by simp only [rel]; exact ⟨none, 0, rfl, Nat.le_refl _, fun h => absurd rfl h⟩) relCs_nil⟩
            | some a =>
              simp at hx
              obtain ⟨⟨b1, b2, b3⟩, hx⟩ := hx
              obtain ⟨el, q1, _⟩ := Option.bind_eq_some_iff.1 hx
              obtain ⟨h3, h4⟩ := mapM_ex q1
              have hrows : ∀ i, i < len → ∃ cs d, w.cells? base (a.add (i * s.size)) s.size = some cs ∧ s.ok d ∧ relCs (c0 inv w) (s.av d) cs := by
                intro i hi
                obtain ⟨y, _, hy⟩ := h4 i i (by simp [hi])
                rw [hc1] at hy
                obtain ⟨cs, k1, k2⟩ := Option.bind_eq_some_iff.1 hy
                obtain ⟨d, k3, k4⟩ := ih.1 e0 s hs fuel cs y k2
                exact ⟨cs, d, k1, k3, k4⟩
              obtain ⟨ds, r1, r2, r3⟩ := rows_open hrows rfl
              refine ⟨.l ds, ⟨by omega, r2⟩, relCs_cons rfl ?_ relCs_nil⟩
              simp only [rel]
              refine ⟨some a, cap, by simp [r1], by simp [r1]; omega, fun hne => ⟨a, rfl, fun h => h, ?_, by have := r3 0; simp only [Nat.zero_mul, List.drop_zero] at this; rwa [show a.add 0 = a by simp [Addr.add]] at this⟩⟩
              have hpos : 0 < len := by
                rcases Nat.eq_zero_or_pos len with h0 | h0
                · exact absurd (by simp [List.eq_nil_of_length_eq_zero (r1.trans h0)]) hne
                · exact h0
              obtain ⟨cs, d, k1, _⟩ := hrows 0 hpos
              have := World.cells?_block k1 hc2
              simpa [block_add] using this
          · simp at hx
        · cases hS
      · cases hS
    · rename_i fs e
      rw [e] at hx
      split at hS
      · rename_i l hl
        split at hS
        · rename_i hc
          simp only [Option.some.injEq] at hS
          subst hS
          simp only at hx
          split at hx
          · rename_i hlen
            obtain ⟨xs, hxs, _⟩ := Option.map_eq_some_iff.1 hx
            obtain ⟨ds, k1, k2⟩ := ih.2 0 fs.toList l hl fuel cs xs (by rw [hlen, hc]; omega) hxs
            exact ⟨.l ds, k1, by simp only [Sh.av]; simpa using k2⟩
          · cases hx
        · cases hS
      · cases hS
    · rename_i m e0 e
      rw [e] at hx
      split at hS
      · rename_i s hs
        split at hS
        · rename_i hc
          obtain ⟨hc1, hc2⟩ := hc
          simp only [Option.some.injEq] at hS
          subst hS
          simp only at hx
          split at hx
          · rename_i hlen
            obtain ⟨xs, hxs, _⟩ := Option.map_eq_some_iff.1 hx
            obtain ⟨h3, h4⟩ := mapM_ex hxs
            have hel : ∀ i, i < m → ∃ d, s.ok d ∧ relCs (c0 inv w) (s.av d) ((cs.drop (i * s.size)).take s.size) := by
              intro i hi
              obtain ⟨y, _, hy⟩ := h4 i i (by simp [hi])
              rw [hc1] at hy
              exact ih.1 e0 s hs fuel _ y hy
            have hds : ∃ ds : List D, ds.length = m ∧ ∀ i, i < m → ∃ d, ds[i]? = some d ∧ s.ok d ∧ relCs (c0 inv w) (s.av d) ((cs.drop (i * s.size)).take s.size) := by
              clear hc2 hx hxs h3 h4 hlen hc1 e
              induction m with
              | zero => exact ⟨[], rfl, fun i hi => absurd hi (Nat.not_lt_zero i)⟩
              | succ n ihm =>
                obtain ⟨ds, hl, hd⟩ := ihm fun i hi => hel i (by omega)
                obtain ⟨d, k2, k3⟩ := hel n (by omega)
                refine ⟨ds ++ [d], by simp [hl], fun i hi => ?_⟩
                by_cases hin : i < n
                · obtain ⟨d', q0, q⟩ := hd i hin
                  exact ⟨d', by rw [List.getElem?_append_left (by omega)]; exact q0, q⟩
                · have : i = n := by omega
                  subst this
                  exact ⟨d, by rw [List.getElem?_append_right (by omega)]; simp [hl], k2, k3⟩
            obtain ⟨ds, r1, r2⟩ := hds
            refine ⟨.l ds, ⟨r1, fun d hm => ?_⟩, ?_⟩
            · obtain ⟨i, hi, e⟩ := List.mem_iff_getElem.1 hm
              obtain ⟨d', q0, q1, _⟩ := r2 i (by omega)
              rw [List.getElem?_eq_getElem hi, e] at q0
              simp only [Option.some.injEq] at q0
              subst q0
              exact q1
            · have hf := relCs_flat (c := c0 inv w) (S := s) (ds := ds) (css := (List.range m).map fun i => (cs.drop (i * s.size)).take s.size) (by simp [r1]) fun i d cs' h1 h2 => by
                have hi : i < m := by have := (List.getElem?_eq_some_iff.1 h1).1; omega
                obtain ⟨d', q0, _, q2⟩ := r2 i hi
                rw [h1] at q0
                simp only [Option.some.injEq] at q0
                subst q0
                simp [hi] at h2
                subst h2
                exact q2
              rw [chop s.size m cs (by rw [hlen, hc2])] at hf
              exact hf
          · cases hx
        · cases hS
      · cases hS
    · cases hS
  · cases fs with
    | nil =>
      simp only [shFs, Option.some.injEq] at hl
      subst hl
      exact ⟨[], trivial, by rw [List.drop_eq_nil_of_le (by simp [Sh.sizeL] at hlen; omega)]; exact relCs_nil⟩
    | cons f fs =>
      simp only [shFs] at hl
      split at hl
      · rename_i s l' hs hl'
        split at hl
        · rename_i hc
          obtain ⟨hc1, hc2⟩ := hc
          simp only [Option.some.injEq] at hl
          subst hl
          simp only [List.mapM_cons, Option.pure_def, Option.bind_eq_bind, Option.bind_eq_some_iff, Option.some.injEq] at hx
          obtain ⟨y, h1, ys, h2, _⟩ := hx
          simp only [Sh.sizeL] at hlen
          obtain ⟨d, k1, k2⟩ := ih.1 f.type s hs fuel _ y h1
          obtain ⟨ds, k3, k4⟩ := ih.2 (off + P.cellsOf f.type) fs l' hl' fuel cs ys (by rw [hc2]; omega) h2
          refine ⟨d :: ds, ⟨k1, k3⟩, ?_⟩
          have := relCs_append k2 k4
          simp only [Sh.avL]
          rw [hc1, ← List.drop_drop, List.take_append_drop] at this
          exact this
        · cases hl
      · cases hl
end
end Go.Eng
