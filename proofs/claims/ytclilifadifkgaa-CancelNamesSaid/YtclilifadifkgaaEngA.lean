/-
  THE ENGINE, PART A: abstract values, and how they stand to the model's values. An abstract state has no addresses of what came in: slices that came in are lists; what the call itself makes lies in named rows.
-/
import Derived.Below
import Derived.Calls
namespace Go.Eng
open Go.RowKit

/-- An abstract value. 'i', 'b': a number, a truth value. 'v': any other value of one cell. 'u': none. 'agg': a struct or an array, its cells. 'tup': several results. 's0': a slice without room. 'sl': a slice whose memory nobody writes, its elements' cells. 'ip': a pointer into such a slice. 'ptr', 'sm': a pointer, a slice, into a row of the call's own (its name, how long it was). 'fn': a function's value. 'top': nothing is known. -/
inductive AV where
  | i (k : IntKind) (n : Int)
  | b (b : Bool)
  | v (x : Value)
  | u
  | agg (cs : List AV)
  | tup (cs : List AV)
  | s0 (sz : Nat)
  | sl (sz : Nat) (es : List (List AV))
  | ip (sz : Nat) (es : List (List AV)) (i k : Nat)
  | ptr (l ver off : Nat)
  | sm (l ver off n sz : Nat)
  | fn (j : Nat) (caps : List AV)
  | mp (l : Nat)
  | top
  deriving Inhabited

/-- Where a named row lies: its block, how long it is, how long its block is, and whether the block is there. -/
structure Place where
  block : Nat
  len : Nat
  size : Nat
  real : Bool

/-- What the relation hangs on: the functions' names, memory, what must not be read as a slice that nobody writes, where named rows lie. -/
structure Ctx where
  inv : Nat → Option Nat
  w : World
  A : Nat → Prop
  S : Nat → Option Place

def Ctx.none (c : Ctx) : Ctx := { c with S := fun _ => Option.none }

mutual
/-- A value that has no names in it. -/
def AV.bare : AV → Bool
  | .agg cs => AV.bareL cs
  | .tup cs => AV.bareL cs
  | .ptr _ _ _ => false
  | .sm _ _ _ _ _ => false
  | .mp _ => false
  | .fn _ cs => AV.bareL cs
  | .i _ _ => true | .b _ => true | .v _ => true | .u => true | .s0 _ => true | .sl _ _ => true | .ip _ _ _ _ => true | .top => true
def AV.bareL : List AV → Bool
  | [] => true
  | x :: xs => x.bare && AV.bareL xs
end

mutual
def rel (c : Ctx) : AV → Value → Prop
  | .i k n, x => x = .int k n
  | .b t, x => x = .bool t
  | .v y, x => x = y
  | .u, x => x = undef
  | .agg cs, x => ∃ xs : Array Value, x = .agg xs ∧ relCs c cs xs.toList
  | .tup cs, x => ∃ xs : Array Value, x = .tuple xs ∧ relL c cs xs.toList
  | .s0 _, x => ∃ ad, x = .slice ad 0 0
  | .sl sz es, x => ∃ ad cap, x = .slice ad es.length cap ∧ es.length ≤ cap ∧ (es ≠ [] → ∃ a : Addr, ad = some a ∧ ¬ c.A a.block ∧ a.block < c.w.heap.size ∧ relRows c sz a 0 es)
  | .ip sz es i k, x => ∃ a : Addr, x = .pointer (some (a.add (i * sz + k))) ∧ ¬ c.A a.block ∧ a.block < c.w.heap.size ∧ relRows c sz a 0 es
  | .ptr l ver off, x => x.oneCell' = true ∧ ∀ p, c.S l = some p → ver ≤ p.len ∧ (ver = p.len → x = .pointer (some ⟨p.block, off, Option.none⟩))
  | .sm l ver off n sz, x => x.oneCell' = true ∧ ∀ p, c.S l = some p → ver ≤ p.len ∧ (ver = p.len → off + n * sz ≤ ver ∧ ∃ ad cap, x = .slice ad n cap ∧ n ≤ cap ∧
      if p.real then (cap = 0 ∨ ad = some ⟨p.block, off, Option.none⟩) ∧ off + cap * sz ≤ p.size else cap = 0)
  | .fn j cs, x => ∃ (g : Nat) (xs : Array Value), x = .func (.func g) #[] xs ∧ c.inv g = some j ∧ relL c cs xs.toList
  | .mp l, x => x.oneCell' = true ∧ ∀ p, c.S l = some p → p.len = 0 → x = .map (some p.block)
  | .top, _ => True
def relL (c : Ctx) : List AV → List Value → Prop
  | [], ys => ys = []
  | x :: xs, ys => ∃ y ys', ys = y :: ys' ∧ rel c x y ∧ relL c xs ys'
def relCs (c : Ctx) : List AV → List Value → Prop
  | [], ys => ys = []
  | x :: xs, ys => ∃ y ys', ys = y :: ys' ∧ y.oneCell' = true ∧ rel c x y ∧ relCs c xs ys'
def relRow (c : Ctx) (a : Addr) : Nat → List AV → Prop
  | _, [] => True
  | k, x :: xs => (∃ y, c.w.cell? (a.add k) = some y ∧ y.oneCell' = true ∧ x.bare = true ∧ rel { c with S := fun _ => Option.none } x y) ∧ relRow c a (k + 1) xs
def relRows (c : Ctx) (sz : Nat) (a : Addr) : Nat → List (List AV) → Prop
  | _, [] => True
  | k, r :: rs => r.length = sz ∧ relRow c a k r ∧ relRows c sz a (k + sz) rs
end

theorem block_add (a : Addr) (n : Nat) : (a.add n).block = a.block := by unfold Addr.add; split <;> rfl
theorem add_add (a : Addr) (i j : Nat) : (a.add i).add j = a.add (i + j) := by
  unfold Addr.add
  by_cases hi : i = 0 <;> by_cases hj : j = 0 <;> simp [hi, hj, Nat.add_assoc]

/-- How one state of memory goes on from another one, as far as an abstract value sees it. -/
structure Ctx.Le (c c' : Ctx) : Prop where
  inv : c'.inv = c.inv
  size : c.w.heap.size ≤ c'.w.heap.size
  keep : ∀ b, b < c.w.heap.size → ¬ c.A b → c'.w.heap[b]? = c.w.heap[b]?
  avoid : ∀ b, b < c.w.heap.size → c'.A b → c.A b

/-- Names below N stay: a row only grows; one that did not grow lies where it lay. -/
def Stays (N : Nat) (S S' : Nat → Option Place) : Prop :=
  ∀ l, l < N → ∀ p', S' l = some p' → ∃ p, S l = some p ∧ p.len ≤ p'.len ∧ (p.len = p'.len → p' = p)

mutual
/-- All names in a value lie below N. -/
def AV.under (N : Nat) : AV → Bool
  | .agg cs => AV.underL N cs
  | .tup cs => AV.underL N cs
  | .ptr l _ _ => Nat.blt l N
  | .sm l _ _ _ _ => Nat.blt l N
  | .mp l => Nat.blt l N
  | .fn _ cs => AV.underL N cs
  | .i _ _ => true | .b _ => true | .v _ => true | .u => true | .s0 _ => true | .sl _ _ => true | .ip _ _ _ _ => true | .top => true
def AV.underL (N : Nat) : List AV → Bool
  | [] => true
  | x :: xs => x.under N && AV.underL N xs
end

theorem Ctx.Le.none {c c' : Ctx} (h : c.Le c') : ({ c with S := fun _ => Option.none } : Ctx).Le { c' with S := fun _ => Option.none } := ⟨h.inv, h.size, h.keep, h.avoid⟩
theorem stays_none (N : Nat) : Stays N (fun _ => Option.none) (fun _ => Option.none) := by intro l _ p' h; cases h

theorem cell_keep {c c' : Ctx} (h : c.Le c') {p : Addr} (hb : p.block < c.w.heap.size) (hA : ¬ c.A p.block) : c'.w.cell? p = c.w.cell? p :=
  World.cell?_of_block (w := c.w) (h.keep p.block hb hA)

mutual
theorem rel_mono {N : Nat} {c c' : Ctx} (h : c.Le c') : ∀ (x : AV) (y : Value), (Stays N c.S c'.S ∧ x.under N = true ∨ c'.S = fun _ => Option.none) → rel c x y → rel c' x y
  | .i _ _, _, _, r => by simpa only [rel] using r
  | .b _, _, _, r => by simpa only [rel] using r
  | .v _, _, _, r => by simpa only [rel] using r
  | .u, _, _, r => by simpa only [rel] using r
  | .agg cs, y, s, r => by
    simp only [rel] at r ⊢
    obtain ⟨xs, e, r⟩ := r
    exact ⟨xs, e, relCs_mono h cs _ (by simpa only [AV.under] using s) r⟩
  | .tup cs, y, s, r => by
    simp only [rel] at r ⊢
    obtain ⟨xs, e, r⟩ := r
    exact ⟨xs, e, relL_mono h cs _ (by simpa only [AV.under] using s) r⟩
  | .s0 _, _, _, r => by simpa only [rel] using r
  | .sl sz es, y, s, r => by
    simp only [rel] at r ⊢
    obtain ⟨ad, cap, e, hc, hr⟩ := r
    refine ⟨ad, cap, e, hc, fun hne => ?_⟩
    obtain ⟨a, ea, hA, hlt, hrow⟩ := hr hne
    exact ⟨a, ea, fun ha => hA (h.avoid _ hlt ha), Nat.lt_of_lt_of_le hlt h.size, relRows_mono (N := N) h sz a hA hlt 0 es hrow⟩
  | .ip sz es i k, y, s, r => by
    simp only [rel] at r ⊢
    obtain ⟨a, e, hA, hlt, hrow⟩ := r
    exact ⟨a, e, fun ha => hA (h.avoid _ hlt ha), Nat.lt_of_lt_of_le hlt h.size, relRows_mono (N := N) h sz a hA hlt 0 es hrow⟩
  | .ptr l ver off, y, s, r => by
    simp only [rel] at r ⊢
    refine ⟨r.1, ?_⟩
    replace r := r.2
    intro p' hp'
    rcases s with ⟨s, hb⟩ | s
    · simp only [AV.under, Nat.blt_eq] at hb
      obtain ⟨p, hp, hle, he⟩ := s l hb p' hp'
      obtain ⟨h1, h2⟩ := r p hp
      refine ⟨Nat.le_trans h1 hle, fun e => ?_⟩
      have e1 : p.len = p'.len := Nat.le_antisymm hle (e ▸ h1)
      rw [he e1]; exact h2 (e.trans e1.symm)
    · rw [s] at hp'; cases hp'
  | .sm l ver off n sz, y, s, r => by
    simp only [rel] at r ⊢
    refine ⟨r.1, ?_⟩
    replace r := r.2
    intro p' hp'
    rcases s with ⟨s, hb⟩ | s
    · simp only [AV.under, Nat.blt_eq] at hb
      obtain ⟨p, hp, hle, he⟩ := s l hb p' hp'
      obtain ⟨h1, h2⟩ := r p hp
      refine ⟨Nat.le_trans h1 hle, fun e => ?_⟩
      have e1 : p.len = p'.len := Nat.le_antisymm hle (e ▸ h1)
      rw [he e1]; exact h2 (e.trans e1.symm)
    · rw [s] at hp'; cases hp'
  | .fn j cs, y, s, r => by
    simp only [rel] at r ⊢
    obtain ⟨g, xs, e, hi, r⟩ := r
    exact ⟨g, xs, e, by rw [h.inv]; exact hi, relL_mono h cs _ (by simpa only [AV.under] using s) r⟩
  | .mp l, y, s, r => by
    simp only [rel] at r ⊢
    refine ⟨r.1, ?_⟩
    replace r := r.2
    intro p' hp' h0
    rcases s with ⟨s, hb⟩ | s
    · simp only [AV.under, Nat.blt_eq] at hb
      obtain ⟨p, hp, hle, he⟩ := s l hb p' hp'
      rw [he (by omega)]; exact r p hp (by omega)
    · rw [s] at hp'; cases hp'
  | .top, _, _, _ => by simp only [rel]
theorem relL_mono {N : Nat} {c c' : Ctx} (h : c.Le c') : ∀ (xs : List AV) (ys : List Value), (Stays N c.S c'.S ∧ AV.underL N xs = true ∨ c'.S = fun _ => Option.none) → relL c xs ys → relL c' xs ys
  | [], _, _, r => by simpa only [relL] using r
  | x :: xs, ys, s, r => by
    simp only [relL] at r ⊢
    obtain ⟨y, ys', e, r1, r2⟩ := r
    refine ⟨y, ys', e, rel_mono (N := N) h x y ?_ r1, relL_mono (N := N) h xs ys' ?_ r2⟩
    · rcases s with ⟨s, hb⟩ | s
      · simp only [AV.underL, Bool.and_eq_true] at hb; exact .inl ⟨s, hb.1⟩
      · exact .inr s
    · rcases s with ⟨s, hb⟩ | s
      · simp only [AV.underL, Bool.and_eq_true] at hb; exact .inl ⟨s, hb.2⟩
      · exact .inr s
theorem relCs_mono {N : Nat} {c c' : Ctx} (h : c.Le c') : ∀ (xs : List AV) (ys : List Value), (Stays N c.S c'.S ∧ AV.underL N xs = true ∨ c'.S = fun _ => Option.none) → relCs c xs ys → relCs c' xs ys
  | [], _, _, r => by simpa only [relCs] using r
  | x :: xs, ys, s, r => by
    simp only [relCs] at r ⊢
    obtain ⟨y, ys', e, ho, r1, r2⟩ := r
    refine ⟨y, ys', e, ho, rel_mono (N := N) h x y ?_ r1, relCs_mono (N := N) h xs ys' ?_ r2⟩
    · rcases s with ⟨s, hb⟩ | s
      · simp only [AV.underL, Bool.and_eq_true] at hb; exact .inl ⟨s, hb.1⟩
      · exact .inr s
    · rcases s with ⟨s, hb⟩ | s
      · simp only [AV.underL, Bool.and_eq_true] at hb; exact .inl ⟨s, hb.2⟩
      · exact .inr s
theorem relRow_mono {N : Nat} {c c' : Ctx} (h : c.Le c') (a : Addr) (hA : ¬ c.A a.block) (hlt : a.block < c.w.heap.size) : ∀ (k : Nat) (xs : List AV), relRow c a k xs → relRow c' a k xs
  | _, [], _ => by simp only [relRow]
  | k, x :: xs, r => by
    simp only [relRow] at r ⊢
    obtain ⟨⟨y, hy, ho, hb, r1⟩, r2⟩ := r
    refine ⟨⟨y, ?_, ho, hb, rel_mono (N := N) h.none x y (.inr rfl) r1⟩, relRow_mono (N := N) h a hA hlt (k + 1) xs r2⟩
    rw [cell_keep h (by rw [block_add]; exact hlt) (by rw [block_add]; exact hA)]; exact hy
theorem relRows_mono {N : Nat} {c c' : Ctx} (h : c.Le c') (sz : Nat) (a : Addr) (hA : ¬ c.A a.block) (hlt : a.block < c.w.heap.size) : ∀ (k : Nat) (es : List (List AV)), relRows c sz a k es → relRows c' sz a k es
  | _, [], _ => by simp only [relRows]
  | k, r :: rs, h' => by
    simp only [relRows] at h' ⊢
    exact ⟨h'.1, relRow_mono (N := N) h a hA hlt k r h'.2.1, relRows_mono (N := N) h sz a hA hlt (k + sz) rs h'.2.2⟩
end
mutual
/-- Of a value without names no named row matters. -/
theorem rel_bare {c : Ctx} {S : Nat → Option Place} : ∀ (x : AV) (y : Value), x.bare = true → rel c x y → rel { c with S := S } x y
  | .i _ _, _, _, r => by simpa only [rel] using r
  | .b _, _, _, r => by simpa only [rel] using r
  | .v _, _, _, r => by simpa only [rel] using r
  | .u, _, _, r => by simpa only [rel] using r
  | .agg cs, y, s, r => by
    simp only [rel] at r ⊢
    obtain ⟨xs, e, r⟩ := r
    exact ⟨xs, e, relCs_bare cs _ (by simpa only [AV.bare] using s) r⟩
  | .tup cs, y, s, r => by
    simp only [rel] at r ⊢
    obtain ⟨xs, e, r⟩ := r
    exact ⟨xs, e, relL_bare cs _ (by simpa only [AV.bare] using s) r⟩
  | .s0 _, _, _, r => by simpa only [rel] using r
  | .sl sz es, y, s, r => by
    simp only [rel] at r ⊢
    obtain ⟨ad, cap, e, hc, hr⟩ := r
    refine ⟨ad, cap, e, hc, fun hne => ?_⟩
    obtain ⟨a, ea, hA, hlt, hrow⟩ := hr hne
    exact ⟨a, ea, hA, hlt, relRows_S sz a 0 es hrow⟩
  | .ip sz es i k, y, s, r => by
    simp only [rel] at r ⊢
    obtain ⟨a, e, hA, hlt, hrow⟩ := r
    exact ⟨a, e, hA, hlt, relRows_S sz a 0 es hrow⟩
  | .ptr l ver off, y, s, r => by simp [AV.bare] at s
  | .sm l ver off n sz, y, s, r => by simp [AV.bare] at s
  | .mp l, y, s, r => by simp [AV.bare] at s
  | .fn j cs, y, s, r => by
    simp only [rel] at r ⊢
    obtain ⟨g, xs, e, hi, r⟩ := r
    exact ⟨g, xs, e, hi, relL_bare cs _ (by simpa only [AV.bare] using s) r⟩
  | .top, _, _, _ => by simp only [rel]
theorem relL_bare {c : Ctx} {S : Nat → Option Place} : ∀ (xs : List AV) (ys : List Value), AV.bareL xs = true → relL c xs ys → relL { c with S := S } xs ys
  | [], _, _, r => by simpa only [relL] using r
  | x :: xs, ys, s, r => by
    simp only [AV.bareL, Bool.and_eq_true] at s
    simp only [relL] at r ⊢
    obtain ⟨y, ys', e, r1, r2⟩ := r
    exact ⟨y, ys', e, rel_bare x y s.1 r1, relL_bare xs ys' s.2 r2⟩
theorem relCs_bare {c : Ctx} {S : Nat → Option Place} : ∀ (xs : List AV) (ys : List Value), AV.bareL xs = true → relCs c xs ys → relCs { c with S := S } xs ys
  | [], _, _, r => by simpa only [relCs] using r
  | x :: xs, ys, s, r => by
    simp only [AV.bareL, Bool.and_eq_true] at s
    simp only [relCs] at r ⊢
    obtain ⟨y, ys', e, ho, r1, r2⟩ := r
    exact ⟨y, ys', e, ho, rel_bare x y s.1 r1, relCs_bare xs ys' s.2 r2⟩
theorem relRow_S {c : Ctx} {S : Nat → Option Place} (a : Addr) : ∀ (k : Nat) (xs : List AV), relRow c a k xs → relRow { c with S := S } a k xs
  | _, [], _ => by simp only [relRow]
  | k, x :: xs, r => by
    simp only [relRow] at r ⊢
    exact ⟨r.1, relRow_S a (k + 1) xs r.2⟩
theorem relRows_S {c : Ctx} {S : Nat → Option Place} (sz : Nat) (a : Addr) : ∀ (k : Nat) (es : List (List AV)), relRows c sz a k es → relRows { c with S := S } sz a k es
  | _, [], _ => by simp only [relRows]
  | k, r :: rs, h' => by
    simp only [relRows] at h' ⊢
    exact ⟨h'.1, relRow_S a k r h'.2.1, relRows_S sz a (k + sz) rs h'.2.2⟩
end
end Go.Eng
