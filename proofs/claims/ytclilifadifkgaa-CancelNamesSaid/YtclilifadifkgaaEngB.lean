/-
  THE ENGINE, PART B: lists of cells; frames; named rows; memory, and how it goes on.
-/
import Derived.Test.YtclilifadifkgaaEngA
import Derived.Laws.CopyRow
namespace Go.Eng
open Go.RowKit

/-! ### lists of cells -/
theorem relCs_length {c : Ctx} : ∀ {xs : List AV} {ys : List Value}, relCs c xs ys → xs.length = ys.length
  | [], _, h => by simp only [relCs] at h; subst h; rfl
  | x :: xs, _, h => by
    simp only [relCs] at h
    obtain ⟨y, ys', rfl, _, _, h⟩ := h
    simp [relCs_length h]
theorem relCs_get {c : Ctx} : ∀ {xs : List AV} {ys : List Value} {i : Nat} {x : AV}, relCs c xs ys → xs[i]? = some x → ∃ y, ys[i]? = some y ∧ y.oneCell' = true ∧ rel c x y
  | [], _, _, _, _, h => by simp at h
  | x :: xs, _, 0, _, h, e => by
    simp only [relCs] at h
    obtain ⟨y, ys', rfl, h1, h2, _⟩ := h
    simp at e; subst e
    exact ⟨y, by simp, h1, h2⟩
  | x :: xs, _, i + 1, _, h, e => by
    simp only [relCs] at h
    obtain ⟨y, ys', rfl, _, _, h⟩ := h
    simp at e
    simpa using relCs_get h e
theorem relCs_one {c : Ctx} : ∀ {xs : List AV} {ys : List Value}, relCs c xs ys → ∀ y ∈ ys, y.oneCell' = true
  | [], _, h, y, hy => by simp only [relCs] at h; subst h; cases hy
  | x :: xs, _, h, y, hy => by
    simp only [relCs] at h
    obtain ⟨y', ys', rfl, h1, _, h⟩ := h
    rcases List.mem_cons.1 hy with rfl | hy
    · exact h1
    · exact relCs_one h y hy
theorem relCs_append {c : Ctx} : ∀ {xs xs' : List AV} {ys ys' : List Value}, relCs c xs ys → relCs c xs' ys' → relCs c (xs ++ xs') (ys ++ ys')
  | [], _, _, _, h, h' => by simp only [relCs] at h; subst h; simpa using h'
  | x :: xs, _, _, _, h, h' => by
    simp only [relCs] at h
    obtain ⟨y, ys0, rfl, h1, h2, h⟩ := h
    simp only [List.cons_append, relCs]
    exact ⟨y, _, rfl, h1, h2, relCs_append h h'⟩
theorem relCs_take {c : Ctx} : ∀ {xs : List AV} {ys : List Value} (n : Nat), relCs c xs ys → relCs c (xs.take n) (ys.take n)
  | _, _, 0, _ => by simp [relCs]
  | [], _, n + 1, h => by simp only [relCs] at h; subst h; simp [relCs]
  | x :: xs, _, n + 1, h => by
    simp only [relCs] at h
    obtain ⟨y, ys', rfl, h1, h2, h⟩ := h
    simp only [List.take_succ_cons, relCs]
    exact ⟨y, _, rfl, h1, h2, relCs_take n h⟩
theorem relCs_drop {c : Ctx} : ∀ {xs : List AV} {ys : List Value} (n : Nat), relCs c xs ys → relCs c (xs.drop n) (ys.drop n)
  | _, _, 0, h => by simpa using h
  | [], _, n + 1, h => by simp only [relCs] at h; subst h; simp [relCs]
  | x :: xs, _, n + 1, h => by
    simp only [relCs] at h
    obtain ⟨y, ys', rfl, h1, h2, h⟩ := h
    simpa using relCs_drop n h
theorem relCs_set {c : Ctx} : ∀ {xs : List AV} {ys : List Value} (n : Nat) {x : AV} {y : Value}, relCs c xs ys → y.oneCell' = true → rel c x y → relCs c (xs.set n x) (ys.set n y)
  | [], _, _, _, _, h, _, _ => by simp only [relCs] at h; subst h; simp [relCs]
  | x :: xs, _, 0, _, _, h, h1, h2 => by
    simp only [relCs] at h
    obtain ⟨y, ys', rfl, _, _, h⟩ := h
    simp only [List.set_cons_zero, relCs]
    exact ⟨_, _, rfl, h1, h2, h⟩
  | x :: xs, _, n + 1, _, _, h, h1, h2 => by
    simp only [relCs] at h
    obtain ⟨y, ys', rfl, h3, h4, h⟩ := h
    simp only [List.set_cons_succ, relCs]
    exact ⟨_, _, rfl, h3, h4, relCs_set n h h1 h2⟩
theorem relCs_nil {c : Ctx} : relCs c [] [] := by simp [relCs]
theorem relCs_cons {c : Ctx} {x : AV} {xs : List AV} {y : Value} {ys : List Value} (h1 : y.oneCell' = true) (h2 : rel c x y) (h : relCs c xs ys) : relCs c (x :: xs) (y :: ys) := by
  simp only [relCs]; exact ⟨y, ys, rfl, h1, h2, h⟩
theorem relCs_map {c c' : Ctx} (f : AV → AV) (hf : ∀ x y, rel c x y → rel c' (f x) y) : ∀ {xs : List AV} {ys : List Value}, relCs c xs ys → relCs c' (xs.map f) ys
  | [], _, h => by simp only [relCs] at h; subst h; simp [relCs]
  | x :: xs, _, h => by
    simp only [relCs] at h
    obtain ⟨y, ys', rfl, h1, h2, h⟩ := h
    simp only [List.map_cons, relCs]
    exact ⟨y, ys', rfl, h1, hf _ _ h2, relCs_map f hf h⟩
theorem relCs_imp {c c' : Ctx} (hf : ∀ x y, rel c x y → rel c' x y) {xs : List AV} {ys : List Value} (h : relCs c xs ys) : relCs c' xs ys := by
  simpa using relCs_map id hf h
theorem relL_length {c : Ctx} : ∀ {xs : List AV} {ys : List Value}, relL c xs ys → xs.length = ys.length
  | [], _, h => by simp only [relL] at h; subst h; rfl
  | x :: xs, _, h => by
    simp only [relL] at h
    obtain ⟨y, ys', rfl, _, h⟩ := h
    simp [relL_length h]
theorem relL_nil {c : Ctx} : relL c [] [] := by simp [relL]
theorem relL_cons {c : Ctx} {x : AV} {xs : List AV} {y : Value} {ys : List Value} (h2 : rel c x y) (h : relL c xs ys) : relL c (x :: xs) (y :: ys) := by
  simp only [relL]; exact ⟨y, ys, rfl, h2, h⟩
theorem relL_append {c : Ctx} : ∀ {xs xs' : List AV} {ys ys' : List Value}, relL c xs ys → relL c xs' ys' → relL c (xs ++ xs') (ys ++ ys')
  | [], _, _, _, h, h' => by simp only [relL] at h; subst h; simpa using h'
  | x :: xs, _, _, _, h, h' => by
    simp only [relL] at h
    obtain ⟨y, ys0, rfl, h2, h⟩ := h
    simp only [List.cons_append, relL]
    exact ⟨y, _, rfl, h2, relL_append h h'⟩
theorem relL_get {c : Ctx} : ∀ {xs : List AV} {ys : List Value} {i : Nat} {x : AV}, relL c xs ys → xs[i]? = some x → ∃ y, ys[i]? = some y ∧ rel c x y
  | [], _, _, _, _, h => by simp at h
  | x :: xs, _, 0, _, h, e => by
    simp only [relL] at h
    obtain ⟨y, ys', rfl, h2, _⟩ := h
    simp at e; subst e
    exact ⟨y, by simp, h2⟩
  | x :: xs, _, i + 1, _, h, e => by
    simp only [relL] at h
    obtain ⟨y, ys', rfl, _, h⟩ := h
    simp at e
    simpa using relL_get h e
theorem relL_map {c c' : Ctx} (f : AV → AV) (hf : ∀ x y, rel c x y → rel c' (f x) y) : ∀ {xs : List AV} {ys : List Value}, relL c xs ys → relL c' (xs.map f) ys
  | [], _, h => by simp only [relL] at h; subst h; simp [relL]
  | x :: xs, _, h => by
    simp only [relL] at h
    obtain ⟨y, ys', rfl, h2, h⟩ := h
    simp only [List.map_cons, relL]
    exact ⟨y, ys', rfl, hf _ _ h2, relL_map f hf h⟩

theorem bareL_append : ∀ (xs ys : List AV), AV.bareL (xs ++ ys) = (AV.bareL xs && AV.bareL ys)
  | [], ys => by simp [AV.bareL]
  | x :: xs, ys => by simp [AV.bareL, bareL_append xs ys, Bool.and_assoc]
theorem bareL_take : ∀ (n : Nat) (xs : List AV), AV.bareL xs = true → AV.bareL (xs.take n) = true
  | 0, _, _ => by simp [AV.bareL]
  | _ + 1, [], _ => by simp [AV.bareL]
  | n + 1, x :: xs, h => by simp only [AV.bareL, Bool.and_eq_true] at h; simp [AV.bareL, h.1, bareL_take n xs h.2]
theorem bareL_drop : ∀ (n : Nat) (xs : List AV), AV.bareL xs = true → AV.bareL (xs.drop n) = true
  | 0, _, h => by simpa using h
  | _ + 1, [], _ => by simp [AV.bareL]
  | n + 1, x :: xs, h => by simp only [AV.bareL, Bool.and_eq_true] at h; simpa using bareL_drop n xs h.2
theorem bareL_get : ∀ {xs : List AV} {i : Nat} {x : AV}, AV.bareL xs = true → xs[i]? = some x → x.bare = true
  | [], _, _, _, h => by simp at h
  | x :: xs, 0, _, h, e => by simp only [AV.bareL, Bool.and_eq_true] at h; simp at e; subst e; exact h.1
  | x :: xs, i + 1, _, h, e => by simp only [AV.bareL, Bool.and_eq_true] at h; simp at e; exact bareL_get h.2 e

/-! ### rows that nobody writes -/
theorem relRows_get {c : Ctx} {sz : Nat} {a : Addr} : ∀ {k : Nat} {es : List (List AV)} {i : Nat} {r : List AV}, relRows c sz a k es → es[i]? = some r → r.length = sz ∧ relRow c a (k + i * sz) r
  | _, [], _, _, _, h => by simp at h
  | k, r :: rs, 0, _, h, e => by
    simp only [relRows] at h
    simp at e; subst e
    exact ⟨h.1, by simpa using h.2.1⟩
  | k, r :: rs, i + 1, _, h, e => by
    simp only [relRows] at h
    simp at e
    have := relRows_get h.2.2 e
    rw [show k + (i + 1) * sz = k + sz + i * sz by rw [Nat.add_mul]; omega]
    exact this
theorem relRow_get {c : Ctx} {a : Addr} : ∀ {k : Nat} {r : List AV} {j : Nat} {x : AV}, relRow c a k r → r[j]? = some x → ∃ y, c.w.cell? (a.add (k + j)) = some y ∧ y.oneCell' = true ∧ x.bare = true ∧ rel { c with S := fun _ => none } x y
  | _, [], _, _, _, h => by simp at h
  | k, x :: xs, 0, _, h, e => by
    simp only [relRow] at h
    simp at e; subst e
    exact h.1
  | k, x :: xs, j + 1, _, h, e => by
    simp only [relRow] at h
    simp at e
    have := relRow_get h.2 e
    rw [show k + (j + 1) = k + 1 + j by omega]
    exact this
theorem relRow_list {c : Ctx} {a : Addr} : ∀ {k : Nat} {r : List AV}, relRow c a k r → AV.bareL r = true ∧ ∃ ys : List Value, relCs { c with S := fun _ => none } r ys ∧ ∀ j u, ys[j]? = some u → c.w.cell? (a.add (k + j)) = some u
  | _, [], _ => ⟨rfl, [], relCs_nil, by simp⟩
  | k, x :: xs, h => by
    simp only [relRow] at h
    obtain ⟨⟨y, hy, ho, hb, hr⟩, h⟩ := h
    obtain ⟨hbs, ys, h1, h2⟩ := relRow_list h
    refine ⟨by simp [AV.bareL, hb, hbs], y :: ys, relCs_cons ho hr h1, fun j u hu => ?_⟩
    cases j with
    | zero => simp at hu; subst hu; exact hy
    | succ j => simp at hu; have := h2 j u hu; rw [show k + (j + 1) = k + 1 + j by omega]; exact this
theorem relRow_of {c : Ctx} {a : Addr} : ∀ {k : Nat} {r : List AV} {ys : List Value}, AV.bareL r = true → relCs { c with S := fun _ => none } r ys → (∀ j u, ys[j]? = some u → c.w.cell? (a.add (k + j)) = some u) → relRow c a k r
  | _, [], _, _, _, _ => by simp only [relRow]
  | k, x :: xs, _, hb, h, hc => by
    simp only [AV.bareL, Bool.and_eq_true] at hb
    simp only [relCs] at h
    obtain ⟨y, ys', rfl, ho, hr, h⟩ := h
    simp only [relRow]
    refine ⟨⟨y, hc 0 y (by simp), ho, hb.1, hr⟩, relRow_of hb.2 h fun j u hu => ?_⟩
    have := hc (j + 1) u (by simpa using hu)
    rwa [show k + (j + 1) = k + 1 + j by omega] at this
theorem relRows_list {c : Ctx} {sz : Nat} {a : Addr} : ∀ {k : Nat} {es : List (List AV)}, relRows c sz a k es → es.flatten.length = es.length * sz ∧ AV.bareL es.flatten = true ∧ ∃ ys : List Value, relCs { c with S := fun _ => none } es.flatten ys ∧ ∀ j u, ys[j]? = some u → c.w.cell? (a.add (k + j)) = some u
  | _, [], _ => ⟨by simp, rfl, [], relCs_nil, by simp⟩
  | k, r :: rs, h => by
    simp only [relRows] at h
    obtain ⟨hl, hr, h⟩ := h
    obtain ⟨hb1, ys1, h1, h2⟩ := relRow_list hr
    obtain ⟨hl', hb2, ys2, h3, h4⟩ := relRows_list h
    refine ⟨by simp [hl, hl', Nat.add_mul]; omega, by rw [List.flatten_cons, bareL_append, hb1, hb2]; rfl, ys1 ++ ys2, by rw [List.flatten_cons]; exact relCs_append h1 h3, fun j u hu => ?_⟩
    have e := relCs_length h1
    rw [List.getElem?_append] at hu
    split at hu
    · exact h2 j u hu
    · have := h4 _ u hu
      rwa [show k + sz + (j - ys1.length) = k + j by omega] at this

/-- A list cut into n pieces of sz. -/
def chunks (sz : Nat) : Nat → List AV → List (List AV)
  | 0, _ => []
  | n + 1, xs => xs.take sz :: chunks sz n (xs.drop sz)
theorem chunks_length (sz : Nat) : ∀ (n : Nat) (xs : List AV), (chunks sz n xs).length = n
  | 0, _ => rfl
  | n + 1, xs => by simp [chunks, chunks_length sz n]
theorem chunks_flatten (sz : Nat) : ∀ (es : List (List AV)), (∀ r ∈ es, r.length = sz) → chunks sz es.length es.flatten = es
  | [], _ => rfl
  | r :: rs, h => by
    have hr : r.length = sz := h r (by simp)
    simp only [List.length_cons, List.flatten_cons, chunks]
    rw [List.take_left' hr, List.drop_left' hr, chunks_flatten sz rs (fun r hr => h r (by simp [hr]))]
theorem relRows_chunks {c : Ctx} {sz : Nat} {a : Addr} : ∀ {k : Nat} (n : Nat) {xs : List AV} {ys : List Value}, n * sz ≤ xs.length → AV.bareL xs = true → relCs { c with S := fun _ => none } xs ys → (∀ j u, ys[j]? = some u → c.w.cell? (a.add (k + j)) = some u) → relRows c sz a k (chunks sz n xs)
  | _, 0, _, _, _, _, _, _ => by simp only [chunks, relRows]
  | k, n + 1, xs, ys, hl, hb, h, hc => by
    rw [Nat.add_mul] at hl
    simp only [chunks, relRows]
    refine ⟨by rw [List.length_take]; omega, relRow_of (bareL_take sz xs hb) (relCs_take sz h) fun j u hu => ?_, relRows_chunks n (by rw [List.length_drop]; omega) (bareL_drop sz xs hb) (relCs_drop sz h) fun j u hu => ?_⟩
    · rw [List.getElem?_take] at hu
      split at hu
      · exact hc j u hu
      · cases hu
    · rw [List.getElem?_drop] at hu
      have := hc _ u hu
      rwa [show k + sz + j = k + (sz + j) by omega]

/-! ### frames, named rows -/
abbrev AF := List (Nat × AV)
def fget : List (Nat × AV) → Nat → AV
  | [], _ => .top
  | (j, x) :: r, i => if i = j then x else fget r i
def fput : List (Nat × AV) → Nat → AV → List (Nat × AV)
  | [], i, x => [(i, x)]
  | (j, y) :: r, i, x => if i = j then (i, x) :: r else if i < j then (i, x) :: (j, y) :: r else (j, y) :: fput r i x
theorem fget_fput : ∀ (φ : AF) (i : Nat) (x : AV) (k : Nat), fget (fput φ i x) k = if k = i then x else fget φ k
  | [], i, x, k => by simp [fput, fget]
  | (j, y) :: r, i, x, k => by
    simp only [fput]
    split
    · subst_vars; simp only [fget]; split <;> rfl
    · split
      · simp only [fget]
      · simp only [fget, fget_fput r i x k]
        split <;> split <;> first | rfl | (subst_vars; contradiction)

/-- What is known of a slot is put better. -/
def fref : List (Nat × AV) → Nat → AV → List (Nat × AV)
  | [], _, _ => []
  | (j, y) :: r, i, x => if i = j then (i, x) :: r else (j, y) :: fref r i x
theorem fref_id {x : AV} : ∀ {φ : AF} {i : Nat}, fget φ i = x → fref φ i x = φ
  | [], _, _ => rfl
  | (j, y) :: r, i, h => by
    simp only [fget] at h
    simp only [fref]
    split at h
    · rename_i e; rw [if_pos e, e, h]
    · rename_i e; rw [if_neg e, fref_id h]
theorem fput_comm {a b : Nat} (hne : a ≠ b) (x y : AV) : ∀ φ : AF, fput (fput φ a x) b y = fput (fput φ b y) a x
  | [] => by
    simp only [fput]
    rcases Nat.lt_or_gt_of_ne hne with h | h
    · rw [if_neg (Ne.symm hne), if_neg (by omega), if_neg hne, if_pos h]
    · rw [if_neg (Ne.symm hne), if_pos h, if_neg hne, if_neg (by omega)]
  | (j, z) :: r => by
    have ih := fput_comm hne x y r
    simp only [fput]
    rcases Nat.lt_trichotomy a j with ha | ha | ha <;> rcases Nat.lt_trichotomy b j with hb | hb | hb
    all_goals (try subst ha) <;> (try subst hb)
    all_goals first | (exact absurd rfl hne) | skip
    all_goals (repeat' split) <;> simp only [fput] <;> (repeat' split) <;> first | rfl | omega | (exfalso; contradiction) | (exact absurd trivial (by assumption)) | (simp only [ih]; done) | skip
inductive AO where
  | cells (cs : List AV) (real : Bool)
  | imap (kvs : List (Int × Int))
  | rsv
  deriving Inhabited
abbrev AS := List (Nat × AO)
def AO.real : AO → Bool | .cells _ r => r | .imap _ => true | .rsv => false
def sget : List (Nat × AO) → Nat → Option AO
  | [], _ => none
  | (j, x) :: r, i => if i = j then some x else sget r i
def sput : List (Nat × AO) → Nat → AO → List (Nat × AO)
  | [], i, x => [(i, x)]
  | (j, y) :: r, i, x => if i = j then (i, x) :: r else if i < j then (i, x) :: (j, y) :: r else (j, y) :: sput r i x
def sdel : List (Nat × AO) → Nat → List (Nat × AO)
  | [], _ => []
  | (j, y) :: r, i => if i = j then sdel r i else (j, y) :: sdel r i
theorem sget_sput : ∀ (σ : AS) (i : Nat) (x : AO) (k : Nat), sget (sput σ i x) k = if k = i then some x else sget σ k
  | [], i, x, k => by simp [sput, sget]
  | (j, y) :: r, i, x, k => by
    simp only [sput]
    split
    · subst_vars; simp only [sget]; split <;> rfl
    · split
      · simp only [sget]
      · simp only [sget, sget_sput r i x k]
        split <;> split <;> first | rfl | (subst_vars; contradiction)
theorem sget_sdel : ∀ (σ : AS) (i k : Nat), sget (sdel σ i) k = if k = i then none else sget σ k
  | [], i, k => by simp [sdel, sget]
  | (j, y) :: r, i, k => by
    simp only [sdel]
    split
    · rename_i h; subst h; rw [sget_sdel r i k]; simp only [sget]; split <;> rfl
    · simp only [sget, sget_sdel r i k]
      split <;> split <;> first | rfl | (subst_vars; contradiction)

def blockSize (w : World) (b : Nat) : Nat := match w.heap[b]? with | some (.cells xs _ _) => xs.size | _ => 0
theorem blockSize_of {w w' : World} {b b' : Nat} (h : w'.heap[b']? = w.heap[b]?) : blockSize w' b' = blockSize w b := by simp [blockSize, h]
def place (β : Nat → Nat) (w : World) (σ : AS) (l : Nat) : Option Place :=
  match sget σ l with
  | some (.cells cs true) => some ⟨β l, cs.length, blockSize w (β l), true⟩
  | some (.cells cs false) => some ⟨0, cs.length, 0, false⟩
  | some (.imap _) => some ⟨β l, 0, 0, true⟩
  | some .rsv => some ⟨0, 0, 0, false⟩
  | none => none
def avoid (M : Nat → Prop) (σ : AS) (β : Nat → Nat) (b : Nat) : Prop := M b ∨ ∃ l o, sget σ l = some o ∧ o.real = true ∧ β l = b
def ctx (inv : Nat → Option Nat) (M : Nat → Prop) (σ : AS) (β : Nat → Nat) (w : World) : Ctx := ⟨inv, w, avoid M σ β, place β w σ⟩

structure Mem (inv : Nat → Option Nat) (w0 : World) (M : Nat → Prop) (σ : AS) (β : Nat → Nat) (w : World) : Prop where
  below : Below w0.heap.size w0 w
  inj : ∀ l l' o o', sget σ l = some o → sget σ l' = some o' → o.real = true → o'.real = true → β l = β l' → l = l'
  own : ∀ l o, sget σ l = some o → o.real = true → w0.heap.size ≤ β l ∧ β l < w.heap.size
  cells : ∀ l cs, sget σ l = some (.cells cs true) → ∃ xs ty, w.heap[β l]? = some (.cells xs ty (0, 0)) ∧ cs.length ≤ xs.size ∧ relCs (ctx inv M σ β w) cs (xs.toList.take cs.length)
  ghost : ∀ l cs, sget σ l = some (.cells cs false) → cs = []
  maps : ∀ l kvs, sget σ l = some (.imap kvs) → ∃ es clk, w.heap[β l]? = some (.map es clk) ∧ es.toList.map (fun e => (e.key, e.val)) = kvs.map fun p => (Value.int .i64 p.1, Value.int .i64 p.2)

/-- How memory goes on, for whoever holds names below N. -/
def Ext (N : Nat) (c c' : Ctx) : Prop := c.Le c' ∧ Stays N c.S c'.S
theorem Ctx.Le.refl (c : Ctx) : c.Le c := ⟨rfl, Nat.le_refl _, fun _ _ _ => rfl, fun _ _ h => h⟩
theorem Ctx.Le.trans {a b c : Ctx} (h : a.Le b) (k : b.Le c) : a.Le c :=
  ⟨k.inv.trans h.inv, Nat.le_trans h.size k.size, fun i hi hA => (k.keep i (Nat.lt_of_lt_of_le hi h.size) (fun x => hA (h.avoid i hi x))).trans (h.keep i hi hA),
    fun i hi x => h.avoid i hi (k.avoid i (Nat.lt_of_lt_of_le hi h.size) x)⟩
theorem Stays.refl (N : Nat) (S : Nat → Option Place) : Stays N S S := fun _ _ p' h => ⟨p', h, Nat.le_refl _, fun _ => rfl⟩
theorem Stays.trans {N : Nat} {S T U : Nat → Option Place} (h : Stays N S T) (k : Stays N T U) : Stays N S U := by
  intro l hl p' hp'
  obtain ⟨q, hq, h1, h2⟩ := k l hl p' hp'
  obtain ⟨p, hp, h3, h4⟩ := h l hl q hq
  refine ⟨p, hp, Nat.le_trans h3 h1, fun e => ?_⟩
  have e1 : p.len = q.len := by omega
  rw [h2 (by omega), h4 e1]
theorem Stays.mono {N N' : Nat} {S T : Nat → Option Place} (h : Stays N S T) (hN : N' ≤ N) : Stays N' S T := fun l hl => h l (Nat.lt_of_lt_of_le hl hN)
theorem Ext.refl (N : Nat) (c : Ctx) : Ext N c c := ⟨.refl c, .refl N _⟩
theorem Ext.trans {N : Nat} {a b c : Ctx} (h : Ext N a b) (k : Ext N b c) : Ext N a c := ⟨h.1.trans k.1, h.2.trans k.2⟩
theorem Ext.mono {N N' : Nat} {a b : Ctx} (h : Ext N a b) (hN : N' ≤ N) : Ext N' a b := ⟨h.1, h.2.mono hN⟩
theorem Ext.rel {N : Nat} {c c' : Ctx} (h : Ext N c c') {x : AV} {y : Value} (hx : x.under N = true) (r : rel c x y) : Go.Eng.rel c' x y := rel_mono (N := N) h.1 x y (.inl ⟨h.2, hx⟩) r
theorem Ext.relCs {N : Nat} {c c' : Ctx} (h : Ext N c c') {x : List AV} {y : List Value} (hx : AV.underL N x = true) (r : relCs c x y) : Go.Eng.relCs c' x y := relCs_mono (N := N) h.1 x y (.inl ⟨h.2, hx⟩) r
theorem Ext.relL {N : Nat} {c c' : Ctx} (h : Ext N c c') {x : List AV} {y : List Value} (hx : AV.underL N x = true) (r : relL c x y) : Go.Eng.relL c' x y := relL_mono (N := N) h.1 x y (.inl ⟨h.2, hx⟩) r

/-! ### bounds on names -/
def mx (a b : Nat) : Nat := if a ≤ b then b else a
theorem le_mx_left (a b : Nat) : a ≤ mx a b := by unfold mx; split <;> omega
theorem le_mx_right (a b : Nat) : b ≤ mx a b := by unfold mx; split <;> omega
mutual
def AV.bound : AV → Nat
  | .agg cs => AV.boundL cs
  | .tup cs => AV.boundL cs
  | .ptr l _ _ => l + 1
  | .sm l _ _ _ _ => l + 1
  | .mp l => l + 1
  | .fn _ cs => AV.boundL cs
  | .i _ _ => 0 | .b _ => 0 | .v _ => 0 | .u => 0 | .s0 _ => 0 | .sl _ _ => 0 | .ip _ _ _ _ => 0 | .top => 0
def AV.boundL : List AV → Nat
  | [] => 0
  | x :: xs => mx x.bound (AV.boundL xs)
end
mutual
theorem under_of_bound {N : Nat} : ∀ (x : AV), x.bound ≤ N → x.under N = true
  | .agg cs, h => by simp only [AV.under]; exact underL_of_bound cs (by simpa only [AV.bound] using h)
  | .tup cs, h => by simp only [AV.under]; exact underL_of_bound cs (by simpa only [AV.bound] using h)
  | .fn _ cs, h => by simp only [AV.under]; exact underL_of_bound cs (by simpa only [AV.bound] using h)
  | .ptr l _ _, h => by simp only [AV.under, Nat.blt_eq]; simp only [AV.bound] at h; omega
  | .sm l _ _ _ _, h => by simp only [AV.under, Nat.blt_eq]; simp only [AV.bound] at h; omega
  | .mp l, h => by simp only [AV.under, Nat.blt_eq]; simp only [AV.bound] at h; omega
  | .i _ _, _ => by simp only [AV.under]
  | .b _, _ => by simp only [AV.under]
  | .v _, _ => by simp only [AV.under]
  | .u, _ => by simp only [AV.under]
  | .s0 _, _ => by simp only [AV.under]
  | .sl _ _, _ => by simp only [AV.under]
  | .ip _ _ _ _, _ => by simp only [AV.under]
  | .top, _ => by simp only [AV.under]
theorem underL_of_bound {N : Nat} : ∀ (xs : List AV), AV.boundL xs ≤ N → AV.underL N xs = true
  | [], _ => by simp only [AV.underL]
  | x :: xs, h => by
    simp only [AV.boundL] at h
    simp only [AV.underL, Bool.and_eq_true]
    exact ⟨under_of_bound x (Nat.le_trans (le_mx_left _ _) h), underL_of_bound xs (Nat.le_trans (le_mx_right _ _) h)⟩
end
mutual
theorem bare_bound : ∀ (x : AV), x.bare = true → x.bound = 0
  | .agg cs, h => by simp only [AV.bound]; exact bareL_bound cs (by simpa only [AV.bare] using h)
  | .tup cs, h => by simp only [AV.bound]; exact bareL_bound cs (by simpa only [AV.bare] using h)
  | .fn _ cs, h => by simp only [AV.bound]; exact bareL_bound cs (by simpa only [AV.bare] using h)
  | .ptr l _ _, h => by simp [AV.bare] at h
  | .sm l _ _ _ _, h => by simp [AV.bare] at h
  | .mp l, h => by simp [AV.bare] at h
  | .i _ _, _ => by simp only [AV.bound]
  | .b _, _ => by simp only [AV.bound]
  | .v _, _ => by simp only [AV.bound]
  | .u, _ => by simp only [AV.bound]
  | .s0 _, _ => by simp only [AV.bound]
  | .sl _ _, _ => by simp only [AV.bound]
  | .ip _ _ _ _, _ => by simp only [AV.bound]
  | .top, _ => by simp only [AV.bound]
theorem bareL_bound : ∀ (xs : List AV), AV.bareL xs = true → AV.boundL xs = 0
  | [], _ => by simp only [AV.boundL]
  | x :: xs, h => by
    simp only [AV.bareL, Bool.and_eq_true] at h
    simp only [AV.boundL, bare_bound x h.1, bareL_bound xs h.2, mx]
    split <;> rfl
end
def fbound : List (Nat × AV) → Nat
  | [] => 0
  | p :: r => mx p.2.bound (fbound r)
def AO.bound : AO → Nat | .cells cs _ => AV.boundL cs | .imap _ => 0 | .rsv => 0
def sbound : List (Nat × AO) → Nat
  | [] => 0
  | p :: r => mx (p.1 + 1) (mx p.2.bound (sbound r))
/-- A name that nobody has. -/
def fresh (N : Nat) (φ : List (Nat × AV)) (σ : List (Nat × AO)) : Nat := mx N (mx (fbound φ) (sbound σ))
theorem fbound_get : ∀ (φ : AF) (i : Nat), (fget φ i).bound ≤ fbound φ
  | [], _ => by simp [fget, AV.bound]
  | p :: r, i => by
    simp only [fget, fbound]
    split
    · exact le_mx_left _ _
    · exact Nat.le_trans (fbound_get r i) (le_mx_right _ _)
theorem sbound_get : ∀ (σ : AS) (l : Nat) (o : AO), sget σ l = some o → l < sbound σ ∧ o.bound ≤ sbound σ
  | [], _, _, h => by simp [sget] at h
  | p :: r, l, o, h => by
    simp only [sget] at h
    simp only [sbound]
    have h1 := le_mx_left (p.1 + 1) (mx p.2.bound (sbound r))
    have h2 := le_mx_right (p.1 + 1) (mx p.2.bound (sbound r))
    have h3 := le_mx_left p.2.bound (sbound r)
    have h4 := le_mx_right p.2.bound (sbound r)
    split at h
    · rename_i e; simp at h; subst h; subst e; exact ⟨by omega, by omega⟩
    · have := sbound_get r l o h; exact ⟨by omega, by omega⟩
theorem under_mono {N N' : Nat} (h : N ≤ N') {x : AV} (hx : x.bound ≤ N) : x.under N' = true := under_of_bound x (Nat.le_trans hx h)

/-! ### memory goes on -/
section
variable {inv : Nat → Option Nat} {w0 : World} {M : Nat → Prop} {σ σ' : AS} {β : Nat → Nat} {w w' : World}

theorem place_eq (h : ∀ l o, sget σ l = some o → o.real = true → w'.heap[β l]? = w.heap[β l]?) : place β w' σ = place β w σ := by
  funext l
  unfold place
  cases e : sget σ l with
  | none => rfl
  | some o =>
    cases o with
    | imap kvs => rfl
    | rsv => rfl
    | cells cs r =>
      cases r with
      | true => simp only; rw [blockSize_of (h l _ e rfl)]
      | false => rfl

/-- Something that makes new blocks alone. -/
theorem Mem.call (h : Mem inv w0 M σ β w) (hb : Below w.heap.size w w') (N : Nat) : Mem inv w0 M σ β w' ∧ Ext N (ctx inv M σ β w) (ctx inv M σ β w') := by
  have hpl : place β w' σ = place β w σ := place_eq fun l o e hr => hb.block _ (h.own l o e hr).2
  have hx : ∀ N, Ext N (ctx inv M σ β w) (ctx inv M σ β w') := fun N =>
    ⟨⟨rfl, hb.size, fun b hlt _ => hb.block b hlt, fun _ _ x => x⟩, by show Stays N (place β w σ) (place β w' σ); rw [hpl]; exact .refl N _⟩
  refine ⟨⟨h.below.trans (hb.mono h.below.size), h.inj, fun l o e hr => ?_, fun l cs e => ?_, h.ghost, fun l kvs e => ?_⟩, hx N⟩
  · have := h.own l o e hr; exact ⟨this.1, Nat.lt_of_lt_of_le this.2 hb.size⟩
  · obtain ⟨xs, ty, e1, e2, e3⟩ := h.cells l cs e
    exact ⟨xs, ty, (hb.block _ (h.own l _ e rfl).2).trans e1, e2, (hx (AV.boundL cs)).relCs (underL_of_bound cs (Nat.le_refl _)) e3⟩
  · obtain ⟨es, clk, e1, e2⟩ := h.maps l kvs e
    exact ⟨es, clk, (hb.block _ (h.own l _ e rfl).2).trans e1, e2⟩

/-- Fewer named rows. -/
theorem Mem.drop (h : Mem inv w0 M σ β w) (hs : ∀ l o, sget σ' l = some o → sget σ l = some o) (N : Nat) : Mem inv w0 M σ' β w ∧ Ext N (ctx inv M σ β w) (ctx inv M σ' β w) := by
  have hst : ∀ N, Stays N (place β w σ) (place β w σ') := by
    intro N l _ p' hp'
    refine ⟨p', ?_, Nat.le_refl _, fun _ => rfl⟩
    unfold place at hp' ⊢
    cases e : sget σ' l with
    | none => rw [e] at hp'; cases hp'
    | some o => rw [e] at hp'; rw [hs l o e]; exact hp'
  have hav : ∀ b, avoid M σ' β b → avoid M σ β b := by
    rintro b (hm | ⟨l, o, e, hr, hb⟩)
    · exact .inl hm
    · exact .inr ⟨l, o, hs l o e, hr, hb⟩
  have hx : ∀ N, Ext N (ctx inv M σ β w) (ctx inv M σ' β w) := fun N => ⟨⟨rfl, Nat.le_refl _, fun _ _ _ => rfl, fun b _ => hav b⟩, hst N⟩
  refine ⟨⟨h.below, fun l l' o o' e e' => h.inj l l' o o' (hs _ _ e) (hs _ _ e'), fun l o e => h.own l o (hs _ _ e), fun l cs e => ?_, fun l cs e => h.ghost l cs (hs _ _ e), fun l kvs e => h.maps l kvs (hs _ _ e)⟩, hx N⟩
  obtain ⟨xs, ty, e1, e2, e3⟩ := h.cells l cs (hs _ _ e)
  exact ⟨xs, ty, e1, e2, (hx (AV.boundL cs)).relCs (underL_of_bound cs (Nat.le_refl _)) e3⟩

def upd (β : Nat → Nat) (l b : Nat) : Nat → Nat := fun k => if k = l then b else β k
theorem upd_same (β : Nat → Nat) (l b : Nat) : upd β l b l = b := if_pos rfl
theorem upd_other (β : Nat → Nat) {l k : Nat} (b : Nat) (h : k ≠ l) : upd β l b k = β k := if_neg h

/-- A named row is laid, or written, or grows: it lies in block b' then. -/
theorem Mem.put {l b' : Nat} {cs' : List AV} {xs' : Array Value} {ty : TypeId} {N : Nat} (h : Mem inv w0 M σ β w) (hb : Below w0.heap.size w0 w') (hsz : w.heap.size ≤ w'.heap.size)
    (hk : ∀ b, b < w.heap.size → b ≠ b' → w'.heap[b]? = w.heap[b]?) (hn : w'.heap[b']? = some (.cells xs' ty (0, 0))) (hlen : cs'.length ≤ xs'.size) (hb0 : w0.heap.size ≤ b')
    (hother : ∀ l' o', l' ≠ l → sget σ l' = some o' → o'.real = true → β l' ≠ b') (hwas : w.heap.size ≤ b' ∨ ∃ o, sget σ l = some o ∧ o.real = true ∧ β l = b')
    (hN : ∀ l' o', sget σ l' = some o' → l' ≠ l → o'.bound ≤ N) (hcs : AV.boundL cs' ≤ N)
    (hst : l < N → ∀ p', some (⟨b', cs'.length, xs'.size, true⟩ : Place) = some p' → ∃ p, place β w σ l = some p ∧ p.len ≤ p'.len ∧ (p.len = p'.len → p' = p))
    (hrel : relCs (ctx inv M σ β w) cs' (xs'.toList.take cs'.length)) :
    Mem inv w0 M (sput σ l (.cells cs' true)) (upd β l b') w' ∧ Ext N (ctx inv M σ β w) (ctx inv M (sput σ l (.cells cs' true)) (upd β l b') w') := by
  have hsame : ∀ l' o', l' ≠ l → sget σ l' = some o' → o'.real = true → w'.heap[β l']? = w.heap[β l']? := fun l' o' hne e hr =>
    hk _ (h.own l' o' e hr).2 (hother l' o' hne e hr)
  have hpl : ∀ l', l' ≠ l → place (upd β l b') w' (sput σ l (.cells cs' true)) l' = place β w σ l' := by
    intro l' hne
    unfold place
    rw [sget_sput, if_neg hne]
    cases e : sget σ l' with
    | none => rfl
    | some o =>
      cases o with
      | imap kvs => simp only [upd_other β b' hne]
      | rsv => rfl
      | cells cs r =>
        cases r with
        | true => simp only [upd_other β b' hne]; rw [blockSize_of (hsame l' _ hne e rfl)]
        | false => rfl
  have hpl0 : place (upd β l b') w' (sput σ l (.cells cs' true)) l = some ⟨b', cs'.length, xs'.size, true⟩ := by
    unfold place
    rw [sget_sput, if_pos rfl]
    simp [upd_same, blockSize, hn]
  have hblt : b' < w'.heap.size := by
    rcases Nat.lt_or_ge b' w'.heap.size with hlt | hge
    · exact hlt
    · rw [Array.getElem?_eq_none hge] at hn; cases hn
  have hx : Ext N (ctx inv M σ β w) (ctx inv M (sput σ l (.cells cs' true)) (upd β l b') w') := by
    refine ⟨⟨rfl, hsz, fun b hlt hA => ?_, fun b hlt hA => ?_⟩, fun l' hl' p' hp' => ?_⟩
    · refine hk b hlt fun e => hA ?_
      rcases hwas with hw | ⟨o, e1, e2, e3⟩
      · exact absurd (show b < w.heap.size from hlt) (by omega)
      · exact .inr ⟨l, o, e1, e2, e3.trans e.symm⟩
    · rcases hA with hm | ⟨l', o, e1, e2, e3⟩
      · exact .inl hm
      · by_cases hne : l' = l
        · subst hne
          rw [upd_same] at e3
          subst e3
          rcases hwas with hw | ⟨o, e1, e2, e3⟩
          · exact absurd (show b' < w.heap.size from hlt) (by omega)
          · exact .inr ⟨_, o, e1, e2, e3⟩
        · rw [sget_sput, if_neg hne] at e1
          rw [upd_other β b' hne] at e3
          exact .inr ⟨l', o, e1, e2, e3⟩
    · by_cases hne : l' = l
      · subst hne
        exact hst hl' p' (hpl0.symm.trans hp')
      · exact ⟨p', (hpl l' hne).symm.trans hp', Nat.le_refl _, fun _ => rfl⟩
  refine ⟨⟨hb, fun l1 l2 o1 o2 e1 e2 r1 r2 he => ?_, fun l1 o1 e1 r1 => ?_, fun l1 cs e1 => ?_, fun l1 cs e1 => ?_, fun l1 kvs e1 => ?_⟩, hx⟩
  · rw [sget_sput] at e1 e2
    by_cases h1 : l1 = l <;> by_cases h2 : l2 = l
    · rw [h1, h2]
    · rw [if_neg h2] at e2
      rw [h1, upd_same, upd_other β b' h2] at he
      exact absurd he.symm (hother l2 o2 h2 e2 r2)
    · rw [if_neg h1] at e1
      rw [h2, upd_same, upd_other β b' h1] at he
      exact absurd he (hother l1 o1 h1 e1 r1)
    · rw [if_neg h1] at e1
      rw [if_neg h2] at e2
      rw [upd_other β b' h1, upd_other β b' h2] at he
      exact h.inj l1 l2 o1 o2 e1 e2 r1 r2 he
  · rw [sget_sput] at e1
    by_cases h1 : l1 = l
    · rw [h1, upd_same]; exact ⟨hb0, hblt⟩
    · rw [if_neg h1] at e1
      rw [upd_other β b' h1]
      have := h.own l1 o1 e1 r1
      exact ⟨this.1, Nat.lt_of_lt_of_le this.2 hsz⟩
  · rw [sget_sput] at e1
    by_cases h1 : l1 = l
    · rw [if_pos h1] at e1
      simp at e1
      subst e1
      rw [h1, upd_same]
      exact ⟨xs', ty, hn, hlen, hx.relCs (underL_of_bound _ hcs) hrel⟩
    · rw [if_neg h1] at e1
      rw [upd_other β b' h1]
      obtain ⟨xs, ty1, e2, e3, e4⟩ := h.cells l1 cs e1
      exact ⟨xs, ty1, (hsame l1 _ h1 e1 rfl).trans e2, e3, hx.relCs (underL_of_bound _ (hN l1 _ e1 h1)) e4⟩
  · rw [sget_sput] at e1
    by_cases h1 : l1 = l
    · rw [if_pos h1] at e1; simp at e1
    · rw [if_neg h1] at e1; exact h.ghost l1 cs e1
  · rw [sget_sput] at e1
    by_cases h1 : l1 = l
    · rw [if_pos h1] at e1; simp at e1
    · rw [if_neg h1] at e1
      rw [upd_other β b' h1]
      obtain ⟨es, clk, e2, e3⟩ := h.maps l1 kvs e1
      exact ⟨es, clk, (hsame l1 _ h1 e1 rfl).trans e2, e3⟩

/-- A named map is laid, or changed: it lies in block b'. -/
theorem Mem.put_imap {l b' : Nat} {kvs : List (Int × Int)} {es : Array MapEntry} {clk : Nat} {N : Nat} (h : Mem inv w0 M σ β w) (hb : Below w0.heap.size w0 w') (hsz : w.heap.size ≤ w'.heap.size)
    (hk : ∀ b, b < w.heap.size → b ≠ b' → w'.heap[b]? = w.heap[b]?) (hn : w'.heap[b']? = some (.map es clk)) (hb0 : w0.heap.size ≤ b')
    (hother : ∀ l' o', l' ≠ l → sget σ l' = some o' → o'.real = true → β l' ≠ b') (hwas : w.heap.size ≤ b' ∨ ∃ kvs0, sget σ l = some (.imap kvs0) ∧ β l = b') (hl : w.heap.size ≤ b' → sbound σ ≤ l)
    (hN : sbound σ ≤ N) (hlN : w.heap.size ≤ b' → N ≤ l) (hrel : es.toList.map (fun e => (e.key, e.val)) = kvs.map fun p => (Value.int .i64 p.1, Value.int .i64 p.2)) :
    Mem inv w0 M (sput σ l (.imap kvs)) (upd β l b') w' ∧ Ext N (ctx inv M σ β w) (ctx inv M (sput σ l (.imap kvs)) (upd β l b') w') ∧ place (upd β l b') w' (sput σ l (.imap kvs)) l = some ⟨b', 0, 0, true⟩ := by
  have hsame : ∀ l' o', l' ≠ l → sget σ l' = some o' → o'.real = true → w'.heap[β l']? = w.heap[β l']? := fun l' o' hne e hr =>
    hk _ (h.own l' o' e hr).2 (hother l' o' hne e hr)
  have hpl : ∀ l', l' ≠ l → place (upd β l b') w' (sput σ l (.imap kvs)) l' = place β w σ l' := by
    intro l' hne
    unfold place
    rw [sget_sput, if_neg hne]
    cases e : sget σ l' with
    | none => rfl
    | some o =>
      cases o with
      | imap kvs => simp only [upd_other β b' hne]
      | rsv => rfl
      | cells cs r =>
        cases r with
        | true => simp only [upd_other β b' hne]; rw [blockSize_of (hsame l' _ hne e rfl)]
        | false => rfl
  have hpl0 : place (upd β l b') w' (sput σ l (.imap kvs)) l = some ⟨b', 0, 0, true⟩ := by
    unfold place
    rw [sget_sput, if_pos rfl]
    simp [upd_same]
  have hblt : b' < w'.heap.size := by
    rcases Nat.lt_or_ge b' w'.heap.size with hlt | hge
    · exact hlt
    · rw [Array.getElem?_eq_none hge] at hn; cases hn
  have hx : Ext N (ctx inv M σ β w) (ctx inv M (sput σ l (.imap kvs)) (upd β l b') w') := by
    refine ⟨⟨rfl, hsz, fun b hlt hA => ?_, fun b hlt hA => ?_⟩, fun l' hl' p' hp' => ?_⟩
    · refine hk b hlt fun e => hA ?_
      rcases hwas with hw | ⟨o, e1, e3⟩
      · exact absurd (show b < w.heap.size from hlt) (by omega)
      · exact .inr ⟨l, _, e1, rfl, e3.trans e.symm⟩
    · rcases hA with hm | ⟨l', o, e1, e2, e3⟩
      · exact .inl hm
      · by_cases hne : l' = l
        · subst hne
          rw [upd_same] at e3
          subst e3
          rcases hwas with hw | ⟨o, e1, e3⟩
          · exact absurd (show b' < w.heap.size from hlt) (by omega)
          · exact .inr ⟨_, _, e1, rfl, e3⟩
        · rw [sget_sput, if_neg hne] at e1
          rw [upd_other β b' hne] at e3
          exact .inr ⟨l', o, e1, e2, e3⟩
    · by_cases hne : l' = l
      · subst hne
        rcases hwas with hw | ⟨kvs0, e1, e3⟩
        · have := hlN hw; omega
        · have e4 := hpl0.symm.trans hp'
          simp only [Option.some.injEq] at e4
          subst e4
          exact ⟨⟨b', 0, 0, true⟩, by show place β w σ l' = _; unfold place; rw [e1]; simp [e3], Nat.le_refl _, fun _ => rfl⟩
      · exact ⟨p', (hpl l' hne).symm.trans hp', Nat.le_refl _, fun _ => rfl⟩
  refine ⟨⟨hb, fun l1 l2 o1 o2 e1 e2 r1 r2 he => ?_, fun l1 o1 e1 r1 => ?_, fun l1 cs e1 => ?_, fun l1 cs e1 => ?_, fun l1 kvs1 e1 => ?_⟩, hx, hpl0⟩
  · rw [sget_sput] at e1 e2
    by_cases h1 : l1 = l <;> by_cases h2 : l2 = l
    · rw [h1, h2]
    · rw [if_neg h2] at e2
      rw [h1, upd_same, upd_other β b' h2] at he
      exact absurd he.symm (hother l2 o2 h2 e2 r2)
    · rw [if_neg h1] at e1
      rw [h2, upd_same, upd_other β b' h1] at he
      exact absurd he (hother l1 o1 h1 e1 r1)
    · rw [if_neg h1] at e1
      rw [if_neg h2] at e2
      rw [upd_other β b' h1, upd_other β b' h2] at he
      exact h.inj l1 l2 o1 o2 e1 e2 r1 r2 he
  · rw [sget_sput] at e1
    by_cases h1 : l1 = l
    · rw [h1, upd_same]; exact ⟨hb0, hblt⟩
    · rw [if_neg h1] at e1
      rw [upd_other β b' h1]
      have := h.own l1 o1 e1 r1
      exact ⟨this.1, Nat.lt_of_lt_of_le this.2 hsz⟩
  · rw [sget_sput] at e1
    by_cases h1 : l1 = l
    · rw [if_pos h1] at e1; simp at e1
    · rw [if_neg h1] at e1
      rw [upd_other β b' h1]
      obtain ⟨xs, ty1, e2, e3, e4⟩ := h.cells l1 cs e1
      exact ⟨xs, ty1, (hsame l1 _ h1 e1 rfl).trans e2, e3, hx.relCs (underL_of_bound _ (Nat.le_trans (sbound_get σ l1 _ e1).2 hN)) e4⟩
  · rw [sget_sput] at e1
    by_cases h1 : l1 = l
    · rw [if_pos h1] at e1; simp at e1
    · rw [if_neg h1] at e1; exact h.ghost l1 cs e1
  · rw [sget_sput] at e1
    by_cases h1 : l1 = l
    · rw [if_pos h1] at e1
      simp only [Option.some.injEq, AO.imap.injEq] at e1
      subst e1
      rw [h1, upd_same]
      exact ⟨es, clk, hn, hrel⟩
    · rw [if_neg h1] at e1
      rw [upd_other β b' h1]
      obtain ⟨es, clk, e2, e3⟩ := h.maps l1 kvs1 e1
      exact ⟨es, clk, (hsame l1 _ h1 e1 rfl).trans e2, e3⟩
end
end Go.Eng
