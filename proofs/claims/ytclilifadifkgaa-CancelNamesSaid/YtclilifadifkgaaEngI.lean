/-
  THE ENGINE, PART I: what part H says of an operation is so in the model.
-/
import Derived.Test.YtclilifadifkgaaEngH
import Derived.Laws.AppendOwn
import Derived.Laws.MakeOwn
namespace Go.Eng
open Go.RowKit

section
variable {P : Program} {inv : Nat → Option Nat} {w0 : World} {M : Nat → Prop} {n N : Nat} {φ : AF} {σ : AS} {β : Nat → Nat} {a : Act} {w : World}

theorem getD_put (a : Act) (d i : Nat) (y : Value) (hd : d < a.tmps.size) : (a.put (some d) y).tmps.getD i undef = if i = d then y else a.tmps.getD i undef := by
  simp only [Act.put, Array.getD_eq_getD_getElem?, Array.getElem?_setIfInBounds]
  by_cases h : i = d
  · subst h; simp [hd]
  · rw [if_neg (fun e => h e.symm), if_neg h]

/-- A slot is written, memory having gone on. -/
theorem St.put {σ' : AS} {β' : Nat → Nat} {w' : World} {N1 : Nat} (hs : St inv w0 M n φ σ β a w) (hm : Mem inv w0 M σ' β' w') (he : Ext N1 (ctx inv M σ β w) (ctx inv M σ' β' w')) (hN : fbound φ ≤ N1) {d : Nat} (hd : d < n) {x : AV} {y : Value}
    (hr : rel (ctx inv M σ' β' w') x y) : St inv w0 M n (fput φ d x) σ' β' (a.put (some d) y) w' := by
  refine ⟨⟨fun i => ?_, hm⟩, by simp [Act.put, hs.size], hs.defers⟩
  rw [fget_fput, getD_put a d i y (by rw [hs.size]; exact hd)]
  split
  · exact hr
  · exact he.rel (under_of_bound _ (Nat.le_trans (fbound_get φ i) hN)) (hs.slots i)
theorem St.keep {σ' : AS} {β' : Nat → Nat} {w' : World} {N1 : Nat} (hs : St inv w0 M n φ σ β a w) (hm : Mem inv w0 M σ' β' w') (he : Ext N1 (ctx inv M σ β w) (ctx inv M σ' β' w')) (hN : fbound φ ≤ N1) :
    St inv w0 M n φ σ' β' a w' :=
  ⟨⟨fun i => he.rel (under_of_bound _ (Nat.le_trans (fbound_get φ i) hN)) (hs.slots i), hm⟩, hs.size, hs.defers⟩
theorem St.set (hs : St inv w0 M n φ σ β a w) {d : Nat} (hd : d < n) {x : AV} {y : Value} (hr : rel (ctx inv M σ β w) x y) : St inv w0 M n (fput φ d x) σ β (a.put (some d) y) w :=
  hs.put hs.mem (.refl (fbound φ) _) (Nat.le_refl _) hd hr

theorem fresh_le (N : Nat) (φ : AF) (σ : AS) : N ≤ fresh N φ σ ∧ fbound φ ≤ fresh N φ σ ∧ sbound σ ≤ fresh N φ σ := by
  have h1 := le_mx_left N (mx (fbound φ) (sbound σ))
  have h2 := le_mx_right N (mx (fbound φ) (sbound σ))
  have h3 := le_mx_left (fbound φ) (sbound σ)
  have h4 := le_mx_right (fbound φ) (sbound σ)
  unfold fresh
  omega
theorem ev_bound (d : Opd) (h : ∀ x, d = .c x → x.bound = 0) : (ev φ d).bound ≤ fbound φ := by
  cases d with
  | t i => exact fbound_get φ i
  | c x => simp only [ev, h x rfl]; omega
theorem copd_bound {t : TypeId} {x : Operand} {d : Opd} (h : copd P inv t x = some d) : ∀ y, d = .c y → y.bound = 0 := by
  intro y hy
  subst hy
  unfold copd at h
  split at h
  · cases h
  · rename_i v
    obtain ⟨z, h1, h2⟩ := Option.map_eq_some_iff.1 h
    cases h2
    unfold cav at h1
    repeat' split at h1
    all_goals first | (cases h1; done) | (simp only [Option.some.injEq] at h1; subst h1; simp [AV.bound])
  · obtain ⟨z, h1, h2⟩ := Option.map_eq_some_iff.1 h
    cases h2
    simp [AV.bound, AV.boundL]
  · cases h
theorem cells_bound (x : AV) : AV.boundL x.cells ≤ x.bound := by
  cases x <;> simp [AV.cells, AV.boundL, AV.bound, mx]
  all_goals (split <;> omega)

/-- A new row, with a name that nobody has. -/
theorem Mem.fresh_put {l : Nat} {cs : List AV} {xs : Array Value} {ty : TypeId} {w' : World} (h : Mem inv w0 M σ β w) (hl : sbound σ ≤ l) (hcb : AV.boundL cs ≤ l) (hheap : w'.heap = w.heap.push (.cells xs ty)) (hos : w'.os = w.os) (htape : w'.tape = w.tape) (hout : w'.output = w.output)
    (hlen : cs.length ≤ xs.size) (hrel : relCs (ctx inv M σ β w) cs (xs.toList.take cs.length)) :
    Mem inv w0 M (sput σ l (.cells cs true)) (upd β l w.heap.size) w' ∧ Ext l (ctx inv M σ β w) (ctx inv M (sput σ l (.cells cs true)) (upd β l w.heap.size) w') ∧
      place (upd β l w.heap.size) w' (sput σ l (.cells cs true)) l = some ⟨w.heap.size, cs.length, xs.size, true⟩ := by
  have hold : ∀ b, b < w.heap.size → w'.heap[b]? = w.heap[b]? := fun b hb => by rw [hheap, Array.getElem?_push, if_neg (by omega)]
  have hnew : w'.heap[w.heap.size]? = some (.cells xs ty (0, 0)) := by rw [hheap]; simp
  have hsz : w.heap.size ≤ w'.heap.size := by rw [hheap]; simp
  have hbel : Below w0.heap.size w0 w' := h.below.trans ⟨hos, htape, hout, hsz, fun b hb => hold b (Nat.lt_of_lt_of_le hb h.below.size)⟩
  have hno : ∀ o, sget σ l ≠ some o := fun o e => by have := (sbound_get σ l o e).1; omega
  have := Mem.put (l := l) (b' := w.heap.size) (N := l) h hbel hsz (fun b hb _ => hold b hb) hnew hlen h.below.size (fun l' o' _ e hr => Nat.ne_of_lt (h.own l' o' e hr).2) (.inl (Nat.le_refl _))
    (fun l' o' e _ => Nat.le_trans (sbound_get σ l' o' e).2 hl) hcb (fun hlt => absurd hlt (Nat.lt_irrefl _)) hrel
  refine ⟨this.1, this.2, ?_⟩
  unfold place
  rw [sget_sput, if_pos rfl]
  simp [upd_same, blockSize, hnew]

theorem relCs_ext {N1 : Nat} {c c' : Ctx} (he : Ext N1 c c') {cs : List AV} {ys : List Value} (hb : AV.boundL cs ≤ N1) (h : relCs c cs ys) : relCs c' cs ys := he.relCs (underL_of_bound _ hb) h

theorem runs_zero_bound : ∀ {r : List (Nat × AV)} {zs : List Value}, zmL (runs r) zs = true → AV.boundL (runs r) = 0 := by
  intro r zs h
  generalize runs r = xs at h
  induction xs generalizing zs with
  | nil => rfl
  | cons x xs ih =>
    cases zs with
    | nil => simp [zmL] at h
    | cons z zs =>
      simp only [zmL, Bool.and_eq_true] at h
      have h2 := ih h.2
      have h1 : x.bound = 0 := by
        have := h.1
        unfold zmC at this
        split at this <;> first | (simp [AV.bound]; done) | cases this
      simp [AV.boundL, h1, h2, mx]
theorem zeroOf_bound {t : TypeId} {r : List (Nat × AV)} (h : zeroOf P t = some r) : AV.boundL (runs r) = 0 := by
  unfold zeroOf at h
  split at h
  · split at h
    · split at h
      · rename_i e4
        cases h
        exact runs_zero_bound e4
      · cases h
    · cases h
  · cases h

theorem rel_sm_mk {l ver off m sz cap : Nat} {p : Place} (hp : place β w σ l = some p) (hv : p.len = ver) (h1 : off + m * sz ≤ ver) (hcap : m ≤ cap) (hreal : p.real = true) (hsz : off + cap * sz ≤ p.size) :
    rel (ctx inv M σ β w) (.sm l ver off m sz) (.slice (some ⟨p.block, off, none⟩) m cap) := by
  simp only [rel]
  refine ⟨rfl, fun p' hp' => ?_⟩
  have : p' = p := by have := (show place β w σ l = some p' from hp').symm.trans hp; simpa using this
  subst this
  exact ⟨by omega, fun _ => ⟨h1, _, cap, rfl, hcap, by rw [hreal]; exact ⟨.inr rfl, hsz⟩⟩⟩

theorem boundL_append : ∀ (xs ys : List AV), AV.boundL (xs ++ ys) ≤ mx (AV.boundL xs) (AV.boundL ys)
  | [], ys => by simp only [List.nil_append]; exact le_mx_right _ _
  | x :: xs, ys => by
    have := boundL_append xs ys
    simp only [List.cons_append, AV.boundL]
    unfold mx at this ⊢
    repeat' split
    all_goals (repeat' split at this) <;> omega
theorem boundL_le_append {N : Nat} {xs ys : List AV} (h1 : AV.boundL xs ≤ N) (h2 : AV.boundL ys ≤ N) : AV.boundL (xs ++ ys) ≤ N := by
  have := boundL_append xs ys
  unfold mx at this
  split at this <;> omega
theorem boundL_sub {N : Nat} : ∀ {xs : List AV}, AV.boundL xs ≤ N → ∀ x ∈ xs, x.bound ≤ N
  | [], _, x, h => by cases h
  | y :: ys, h, x, hx => by
    simp only [AV.boundL] at h
    have h1 := le_mx_left y.bound (AV.boundL ys)
    have h2 := le_mx_right y.bound (AV.boundL ys)
    rcases List.mem_cons.1 hx with rfl | hx
    · omega
    · exact boundL_sub (by omega) x hx
theorem boundL_of {N : Nat} : ∀ {xs : List AV}, (∀ x ∈ xs, x.bound ≤ N) → AV.boundL xs ≤ N
  | [], _ => by simp [AV.boundL]
  | y :: ys, h => by
    have h1 := h y (by simp)
    have h2 := boundL_of (fun x hx => h x (by simp [hx]) : ∀ x ∈ ys, x.bound ≤ N)
    simp only [AV.boundL, mx]
    split <;> omega
theorem boundL_ovl {N : Nat} : ∀ (xs cs : List AV) (off : Nat), AV.boundL cs ≤ N → AV.boundL xs ≤ N → AV.boundL (ovl cs off xs) ≤ N
  | [], _, _, h, _ => h
  | x :: xs, cs, off, h, hx => by
    simp only [AV.boundL] at hx
    have h1 := le_mx_left x.bound (AV.boundL xs)
    have h2 := le_mx_right x.bound (AV.boundL xs)
    refine boundL_ovl xs _ _ (boundL_of fun y hy => ?_) (by omega)
    rcases List.mem_or_eq_of_mem_set hy with hy | rfl
    · exact boundL_sub h y hy
    · omega
theorem fillA_bound : ∀ {ps : List (Nat × Nat × Opd)} {cs cs' : List AV}, fillA φ cs ps = some cs' → (∀ p ∈ ps, ∀ y, p.2.2 = .c y → y.bound = 0) → ∀ N, fbound φ ≤ N → AV.boundL cs ≤ N → AV.boundL cs' ≤ N
  | [], _, _, h, _, _, _, hb => by simp only [fillA, Option.some.injEq] at h; subst h; exact hb
  | (off, n, x) :: ps, cs, _, h, hp, N, hN, hb => by
    simp only [fillA] at h
    split at h
    · refine fillA_bound h (fun p hp' => hp p (by simp [hp'])) N hN (boundL_ovl _ _ _ hb ?_)
      exact Nat.le_trans (cells_bound _) (Nat.le_trans (ev_bound x (hp (off, n, x) (by simp))) hN)
    · cases h
theorem cparts_bound {place : Nat → Option (Nat × Nat × TypeId)} : ∀ {l : List (Nat × Operand)} {ps : List (Nat × Nat × Opd)}, cparts P inv place l = some ps → ∀ p ∈ ps, ∀ y, p.2.2 = .c y → y.bound = 0
  | [], _, h, p, hp => by simp only [cparts, Option.some.injEq] at h; subst h; cases hp
  | (i, x) :: l, _, h, p, hp => by
    simp only [cparts] at h
    split at h
    · split at h
      · rename_i off n t _ _ _ d ps e1 e2
        simp only [Option.some.injEq] at h
        subst h
        rcases List.mem_cons.1 hp with rfl | hp
        · exact copd_bound e1
        · exact cparts_bound e2 p hp
      · cases h
    · cases h

/-! ### new rows -/
theorem run_alloc_zero {t : TypeId} {i : TypeInfo} {z : Value} (hi : P.info? t = some i) (hz : i.zero = some z) (w : World) : (Instr.alloc t true (.tuple #[])).run P w = .ok (.pointer (some ⟨w.heap.size, 0, none⟩)) (w.alloc (.cells z.cells t)) := by
  simp [Instr.alloc, zeroValue, typeInfo, hi, hz, newVar, newRow]

/-- A new row goes into a slot as a pointer. -/
theorem St.new_ptr (hs : St inv w0 M n φ σ β a w) {d : Nat} (hd : d < n) {cs : List AV} {xs : Array Value} {ty : TypeId} (hcb : AV.boundL cs ≤ fresh N φ σ) (hlen : cs.length = xs.size) (hrel : relCs (ctx inv M σ β w) cs xs.toList) :
    St inv w0 M n (fput φ d (.ptr (fresh N φ σ) cs.length 0)) (sput σ (fresh N φ σ) (.cells cs true)) (upd β (fresh N φ σ) w.heap.size) (a.put (some d) (.pointer (some ⟨w.heap.size, 0, none⟩))) (w.alloc (.cells xs ty)) ∧
    Ext N (ctx inv M σ β w) (ctx inv M (sput σ (fresh N φ σ) (.cells cs true)) (upd β (fresh N φ σ) w.heap.size) (w.alloc (.cells xs ty))) := by
  obtain ⟨f1, f2, f3⟩ := fresh_le N φ σ
  have h := hs.mem.fresh_put (l := fresh N φ σ) (cs := cs) (xs := xs) (ty := ty) (w' := w.alloc (.cells xs ty)) f3 hcb rfl rfl rfl rfl (by omega) (by rw [hlen, ← Array.length_toList, List.take_length]; exact hrel)
  refine ⟨hs.put h.1 h.2.1 f2 hd ?_, h.2.1.mono f1⟩
  exact rel_ptr_mk h.2.2 rfl
theorem St.new_sm (hs : St inv w0 M n φ σ β a w) {d : Nat} (hd : d < n) {cs : List AV} {xs : Array Value} {ty : TypeId} {sz m cap : Nat} {w' : World} (hheap : w'.heap = w.heap.push (.cells xs ty)) (hos : w'.os = w.os) (htape : w'.tape = w.tape) (hout : w'.output = w.output)
    (hcb : AV.boundL cs ≤ fresh N φ σ) (hl : cs.length = m * sz) (hcap : m ≤ cap) (hsz : cap * sz ≤ xs.size) (hrel : relCs (ctx inv M σ β w) cs (xs.toList.take cs.length)) :
    St inv w0 M n (fput φ d (.sm (fresh N φ σ) (m * sz) 0 m sz)) (sput σ (fresh N φ σ) (.cells cs true)) (upd β (fresh N φ σ) w.heap.size) (a.put (some d) (.slice (some ⟨w.heap.size, 0, none⟩) m cap)) w' ∧
    Ext N (ctx inv M σ β w) (ctx inv M (sput σ (fresh N φ σ) (.cells cs true)) (upd β (fresh N φ σ) w.heap.size) w') := by
  obtain ⟨f1, f2, f3⟩ := fresh_le N φ σ
  have hle : m * sz ≤ cap * sz := Nat.mul_le_mul_right _ hcap
  have h := hs.mem.fresh_put (l := fresh N φ σ) (cs := cs) (xs := xs) (ty := ty) (w' := w') f3 hcb hheap hos htape hout (by omega) hrel
  refine ⟨hs.put h.1 h.2.1 f2 hd ?_, h.2.1.mono f1⟩
  exact rel_sm_mk h.2.2 (by simp [hl]) (by simp) hcap rfl (by simpa using hsz)

/-- A new map goes into a slot. -/
theorem St.new_map (hs : St inv w0 M n φ σ β a w) {d : Nat} (hd : d < n) :
    St inv w0 M n (fput φ d (.mp (fresh N φ σ))) (sput σ (fresh N φ σ) (.imap [])) (upd β (fresh N φ σ) w.heap.size) (a.put (some d) (.map (some w.heap.size))) (w.alloc (.map #[] 0)) ∧
    Ext N (ctx inv M σ β w) (ctx inv M (sput σ (fresh N φ σ) (.imap [])) (upd β (fresh N φ σ) w.heap.size) (w.alloc (.map #[] 0))) := by
  obtain ⟨f1, f2, f3⟩ := fresh_le N φ σ
  have h := hs.mem.put_imap (l := fresh N φ σ) (b' := w.heap.size) (kvs := []) (es := #[]) (clk := 0) (w' := w.alloc (.map #[] 0)) (N := fresh N φ σ) (hs.mem.below.alloc hs.mem.below.size _) (by simp)
    (fun b hb _ => Below.heap_alloc _ _ _ hb) (heap_alloc_new w _) hs.mem.below.size (fun l' o' _ e hr => by have := (hs.mem.own l' o' e hr).2; omega) (.inl (Nat.le_refl _)) (fun _ => f3) f3 (fun _ => Nat.le_refl _) rfl
  refine ⟨hs.put h.1 h.2.1 f2 hd ?_, h.2.1.mono f1⟩
  simp only [rel]
  refine ⟨rfl, fun p' hp' _ => ?_⟩
  have : p' = ⟨w.heap.size, 0, 0, true⟩ := by have := (show place _ _ _ _ = some p' from hp').symm.trans h.2.2; simpa using this
  subst this
  rfl
theorem findI_set (b v : Int) : ∀ (l : List MapEntry) (kvs : List (Int × Int)) (i : Nat), l.map (fun e => (e.key, e.val)) = kvs.map (fun p => (Value.int .i64 p.1, Value.int .i64 p.2)) →
    (findI l b i = none ∧ mset kvs b v = kvs ++ [(b, v)]) ∨ ∃ j x e, findI l b i = some (i + j, x) ∧ l[j]? = some e ∧ e.key = .int .i64 b ∧
      (l.modify j fun e => { e with key := .int .i64 b, val := .int .i64 v }).map (fun e => (e.key, e.val)) = (mset kvs b v).map (fun p => (Value.int .i64 p.1, Value.int .i64 p.2))
  | [], kvs, i, h => by
    cases kvs with
    | nil => exact .inl ⟨rfl, rfl⟩
    | cons p kvs => simp at h
  | e :: l, kvs, i, h => by
    cases kvs with
    | nil => simp at h
    | cons p kvs =>
      simp only [List.map_cons, List.cons.injEq, Prod.mk.injEq] at h
      simp only [findI, mset, h.1.1, keyI]
      by_cases hb : p.1 = b
      · rw [if_pos (by rw [hb]), if_pos hb.symm]
        refine .inr ⟨0, e.val, e, rfl, rfl, by rw [h.1.1, hb], ?_⟩
        simp [h.2, hb]
      · rw [if_neg (by simpa using hb), if_neg (fun e => hb e.symm)]
        rcases findI_set b v l kvs (i + 1) h.2 with ⟨h1, h2⟩ | ⟨j, x, e', h1, h2, h3, h4⟩
        · exact .inl ⟨h1, by rw [h2]; rfl⟩
        · refine .inr ⟨j + 1, x, e', by rw [h1]; congr 2; omega, h2, h3, ?_⟩
          simp only [List.modify_succ_cons, List.map_cons, h.1.1, h.1.2, h4]
theorem rep_rel {c : Ctx} {zs : List AV} {z : Array Value} (hz : relCs c zs z.toList) : ∀ (m : Nat), relCs c (List.replicate m zs).flatten (List.replicate m z.toList).flatten
  | 0 => by simpa using relCs_nil
  | m + 1 => by simp only [List.replicate_succ, List.flatten_cons]; exact relCs_append hz (rep_rel hz m)
theorem rep_length {α : Type} (l : List α) : ∀ (m : Nat), (List.replicate m l).flatten.length = m * l.length
  | 0 => by simp
  | m + 1 => by simp only [List.replicate_succ, List.flatten_cons, List.length_append, rep_length l m, Nat.add_mul]; omega
theorem rep_bound {zs : List AV} {N : Nat} (h : AV.boundL zs ≤ N) (m : Nat) : AV.boundL (List.replicate m zs).flatten ≤ N := by
  refine boundL_of fun x hx => ?_
  obtain ⟨l, hl, hx⟩ := List.mem_flatten.1 hx
  rw [List.eq_of_mem_replicate hl] at hx
  exact boundL_sub h x hx
theorem madeCells_eq (z : Array Value) (m : Nat) : (madeCells z (m * z.size)).toList = (List.replicate m z.toList).flatten := by
  induction m with
  | zero => simp [madeCells]
  | succ m ih =>
    have h1 : (madeCells z ((m + 1) * z.size)).toList = (madeCells z (m * z.size)).toList ++ z.toList := by
      unfold madeCells
      simp only [Array.toList_map, Array.toList_range]
      rw [Nat.add_mul, Nat.one_mul, List.range_add, List.map_append, List.map_map]
      congr 1
      apply List.ext_getElem?
      intro j
      by_cases hj : j < z.size
      · simp [hj, Nat.mul_comm m z.size, Nat.mod_eq_of_lt hj]
      · simp [hj]
    rw [h1, ih, List.replicate_succ', List.flatten_append]
    simp
theorem madeCells_take (z : Array Value) (m c : Nat) (h : m ≤ c) : ((madeCells z (c * z.size)).toList.take (m * z.size)) = (List.replicate m z.toList).flatten := by
  rw [madeCells_eq]
  have : List.replicate c z.toList = List.replicate m z.toList ++ List.replicate (c - m) z.toList := by rw [List.replicate_append_replicate]; congr 1; omega
  rw [this, List.flatten_append, List.take_left' (by rw [rep_length]; simp)]

/-! ### stores -/
theorem ovl_eq : ∀ (xs cs : List AV) (off : Nat), off + xs.length ≤ cs.length → ovl cs off xs = cs.take off ++ xs ++ cs.drop (off + xs.length)
  | [], cs, off, _ => by simp [ovl]
  | x :: xs, cs, off, h => by
    simp only [List.length_cons] at h
    rw [ovl, ovl_eq xs _ _ (by simp; omega)]
    rw [List.take_set, List.drop_set, if_pos (by omega)]
    have h1 : (cs.take (off + 1)).set off x = cs.take off ++ [x] := by
      rw [List.take_succ_eq_append_getElem (by omega), List.set_append_right _ _ (by simp; omega)]
      simp [Nat.min_eq_left (show off ≤ cs.length by omega)]
    rw [h1]
    simp [Nat.add_assoc, Nat.add_comm 1]
end
end Go.Eng
