/-
  THE ENGINE, PART E: what part C says of an operation that reckons a value is so in the model (the operations themselves).
-/
import Derived.Test.YtclilifadifkgaaEngD
namespace Go.Eng
open Go.RowKit

section
variable {P : Program} {inv : Nat → Option Nat} {w0 : World} {M : Nat → Prop} {φ : AF} {σ : AS} {β : Nat → Nat} {a : Act} {w : World}

theorem eqGuard_plain (op : BinOp) (t : TypeId) (ox oy : Operand) (u v : Value) (h1 : ∀ xs, u ≠ .agg xs) (h2 : u ≠ .nilIface) : (eqGuard op t ox oy u v).run P w = .ok () w := by
  unfold eqGuard
  cases u <;> cases op <;> first | rfl | (exact absurd rfl (h1 _)) | (exact absurd rfl h2)

theorem ety_num {t : TypeId} (h : ety P t = some .num) : ∃ k, P.underlying t = some (.int k) := by
  unfold ety at h
  split at h <;> first | (rename_i k e; exact ⟨k, e⟩) | (simp at h; done) | (split at h <;> first | (simp at h; done) | (split at h <;> simp at h))
theorem ety_bool {t : TypeId} (h : ety P t = some .bool) : P.underlying t = some .bool := by
  unfold ety at h
  split at h <;> first | (rename_i e; exact e) | (simp at h; done) | (split at h <;> first | (simp at h; done) | (split at h <;> simp at h))
theorem ety_ptr {t : TypeId} (h : ety P t = some .ptr) : ∃ e, P.underlying t = some (.pointer e) := by
  unfold ety at h
  split at h <;> first | (rename_i k e; exact ⟨k, e⟩) | (simp at h; done) | (split at h <;> first | (simp at h; done) | (split at h <;> simp at h))
theorem ety_fn {t : TypeId} (h : ety P t = some .fn) : ∃ p r v, P.underlying t = some (.func p r v) := by
  unfold ety at h
  split at h <;> first | (rename_i p r v e; exact ⟨p, r, v, e⟩) | (simp at h; done) | (split at h <;> first | (simp at h; done) | (split at h <;> simp at h))
theorem ety_flat {t : TypeId} {ks : List Bool} (h : ety P t = some (.flat ks)) : ∃ fs : Array Field, P.underlying t = some (.struct fs) ∧ P.stoodInHeld t = false ∧ P.eqGuardType P.depth t = false ∧ flatFields P 0 fs.toList = some ks := by
  unfold ety at h
  split at h <;> first | (simp at h; done) | (split at h <;> first | (simp at h; done) | (split at h <;> simp at h; done)) | skip
  rename_i fs e
  split at h
  · simp at h
  · rename_i h2
    simp only [Bool.or_eq_true, not_or, Bool.not_eq_true] at h2
    refine ⟨fs, e, h2.1, h2.2, ?_⟩
    obtain ⟨ks', h3, h4⟩ := Option.map_eq_some_iff.1 h
    cases h4
    exact h3

theorem ety_arr {t : TypeId} {m : Nat} (h : ety P t = some (.arr m)) : ∃ (e : TypeId) (k : IntKind) (i : TypeInfo), P.underlying t = some (.array m e) ∧ P.underlying e = some (.int k) ∧ P.info? e = some i ∧ P.cellsOf e = 1 ∧ P.eqGuardType P.depth t = false := by
  unfold ety at h
  split at h <;> first | (simp at h; done) | skip
  rename_i m' e e1
  split at h
  · rename_i k e2
    split at h
    · rename_i hc
      simp only [Option.some.injEq, ETy.arr.injEq] at h
      subst h
      obtain ⟨i, hi, _, hcell⟩ := siz_info hc.2
      exact ⟨e, k, i, e1, e2, hi, hcell, hc.1⟩
    · simp at h
  · simp at h
theorem eqItems_sound {c : Ctx} {e : TypeId} {k : IntKind} (he : P.underlying e = some (.int k)) (d : Nat) (zs ws : Array Value) : ∀ (m o : Nat) {xs ys : List AV} {us vs : List Value} {t : Bool}, eqC (List.replicate m true) xs ys = some t → relCs c xs us → relCs c ys vs →
    (∀ j, zs[o + j]? = us[j]?) → (∀ j, ws[o + j]? = vs[j]?) → (Op.eqItems (d + 1) e 1 zs ws (List.range' o m)).run P w = .ok t w
  | 0, o, xs, ys, us, vs, t, h, _, _, _, _ => by
    cases xs <;> cases ys <;> simp [eqC] at h
    subst h
    simp [Op.eqItems]
  | m + 1, o, xs, ys, us, vs, t, h, hx, hy, hz, hw => by
    rw [List.replicate_succ] at h
    obtain ⟨k1, a1, b1, xs', ys', t1, rfl, rfl, e5, rfl⟩ := eqC_true h
    simp only [relCs] at hx hy
    obtain ⟨u, us', rfl, _, rx, hx⟩ := hx
    obtain ⟨v, vs', rfl, _, ry, hy⟩ := hy
    simp only [rel] at rx ry
    subst rx ry
    have hz0 : zs[o]? = some (.int k1 a1) := by simpa using hz 0
    have hw0 : ws[o]? = some (.int k1 b1) := by simpa using hw 0
    have hz' : ∀ j, zs[o + 1 + j]? = us'[j]? := fun j => by have := hz (j + 1); rw [show o + 1 + j = o + (j + 1) by omega]; simpa using this
    have hw' : ∀ j, ws[o + 1 + j]? = vs'[j]? := fun j => by have := hw (j + 1); rw [show o + 1 + j = o + (j + 1) by omega]; simpa using this
    have hl : lay P e = some none := by simp [lay, he]
    have ih := eqItems_sound he d zs ws m (o + 1) e5 hx hy hz' hw'
    rw [List.range'_succ]
    simp only [Op.eqItems, Sem.run_bind, Nat.mul_one, run_part_none hl w zs o _ hz0, run_part_none hl w ws o _ hw0, Result.andThen_ok, run_equalIn_int w d e k1 k a1 b1 he]
    by_cases hab : a1 = b1
    · subst hab; simp [ih]
    · simp [hab]

theorem run_eqneq {op : BinOp} {t : TypeId} {u v : Value} {b : Bool} (hop : op = .eql ∨ op = .neq) (hi : ∀ k n, u ≠ .int k n) (hf : ∀ k n, u ≠ .float k n) (hcx : ∀ k n m, u ≠ .complex k n m) (hs : ∀ s, u ≠ .string s)
    (hr : (Op.equal t u v).run P w = .ok b w) : (binOp op t u v).run P w = .ok (.bool (if op = .eql then b else !b)) w := by
  rcases hop with rfl | rfl
  · cases u <;> first | (exact absurd rfl (hi _ _)) | (exact absurd rfl (hf _ _)) | (exact absurd rfl (hcx _ _ _)) | (exact absurd rfl (hs _)) | (simp [binOp, hr])
  · cases u <;> first | (exact absurd rfl (hi _ _)) | (exact absurd rfl (hf _ _)) | (exact absurd rfl (hcx _ _ _)) | (exact absurd rfl (hs _)) | (simp [binOp, hr])

theorem arith_sound {c : Ctx} {op : BinOp} {k : IntKind} {a b : Int} {K : AV → Prop} (t : TypeId) (h : arith op k a b K) : ∃ z r, K z ∧ rel c z r ∧ (binOp op t (.int k a) (.int k b)).run P w = .ok r w := by
  cases op <;> simp only [arith] at h <;> first
    | (exact h.elim)
    | (refine ⟨_, _, h.2, by simp only [rel]; rfl, ?_⟩; simp [binOp, Op.intDiv, h.1]; done)
    | (refine ⟨_, _, h, by simp only [rel]; rfl, ?_⟩; simp [binOp, Op.intArith, Op.intCmp]; done)
    | (refine ⟨_, _, h, by simp only [rel]; rfl, ?_⟩; simp only [binOp, Op.intCmp, Sem.run_pure, ne_eq, not_true_eq_false, if_false]; rfl)

theorem equal_ptr_nil_in (d : Nat) {t e : TypeId} (h : P.underlying t = some (.pointer e)) (ad : Addr) : (Op.equalIn (d + 1) t (.pointer (some ad)) (.pointer none)).run P w = .ok false w := by
  simp only [Op.equalIn, Sem.run_bind, run_underlying h, Result.andThen_ok, Sem.run_pure]
theorem equal_ptr_nil {t e : TypeId} (h : P.underlying t = some (.pointer e)) (ad : Addr) : (Op.equal t (.pointer (some ad)) (.pointer none)).run P w = .ok false w := equal_ptr_nil_in 9999 h ad
theorem equal_nil_ptr_in (d : Nat) {t e : TypeId} (h : P.underlying t = some (.pointer e)) (ad : Option Addr) : (Op.equalIn (d + 1) t (.pointer none) (.pointer ad)).run P w = .ok ad.isNone w := by
  simp only [Op.equalIn, Sem.run_bind, run_underlying h, Result.andThen_ok, Sem.run_pure]
theorem equal_nil_ptr {t e : TypeId} (h : P.underlying t = some (.pointer e)) (ad : Option Addr) : (Op.equal t (.pointer none) (.pointer ad)).run P w = .ok ad.isNone w := equal_nil_ptr_in 9999 h ad
theorem equal_nil_nil_in (d : Nat) {t : TypeId} {p r : Array TypeId} {vv : Bool} (h : P.underlying t = some (.func p r vv)) : (Op.equalIn (d + 1) t .nilFunc .nilFunc).run P w = .ok true w := by
  simp only [Op.equalIn, Sem.run_bind, run_underlying h, Result.andThen_ok, Sem.run_pure]
theorem equal_nil_nil {t : TypeId} {p r : Array TypeId} {vv : Bool} (h : P.underlying t = some (.func p r vv)) : (Op.equal t .nilFunc .nilFunc).run P w = .ok true w := equal_nil_nil_in 9999 h
theorem equal_nil_fn_in (d : Nat) {t : TypeId} {p r : Array TypeId} {vv : Bool} (h : P.underlying t = some (.func p r vv)) (g : Fn) (xs ys : Array Value) : (Op.equalIn (d + 1) t .nilFunc (.func g xs ys)).run P w = .ok false w := by
  simp only [Op.equalIn, Sem.run_bind, run_underlying h, Result.andThen_ok, Sem.run_pure]
theorem equal_nil_fn {t : TypeId} {p r : Array TypeId} {vv : Bool} (h : P.underlying t = some (.func p r vv)) (g : Fn) (xs ys : Array Value) : (Op.equal t .nilFunc (.func g xs ys)).run P w = .ok false w := equal_nil_fn_in 9999 h g xs ys
theorem equal_fn_nil_in (d : Nat) {t : TypeId} {p r : Array TypeId} {vv : Bool} (h : P.underlying t = some (.func p r vv)) (g : Fn) (xs ys : Array Value) : (Op.equalIn (d + 1) t (.func g xs ys) .nilFunc).run P w = .ok false w := by
  simp only [Op.equalIn, Sem.run_bind, run_underlying h, Result.andThen_ok, Sem.run_pure]
theorem equal_fn_nil {t : TypeId} {p r : Array TypeId} {vv : Bool} (h : P.underlying t = some (.func p r vv)) (g : Fn) (xs ys : Array Value) : (Op.equal t (.func g xs ys) .nilFunc).run P w = .ok false w := equal_fn_nil_in 9999 h g xs ys

theorem abin_sound {t : TypeId} {ty : ETy} {op : BinOp} {ox oy : Operand} {x y : AV} {u v : Value} {K : AV → Prop} (hty : ety P t = some ty) (hx : rel (ctx inv M σ β w) x u) (hy : rel (ctx inv M σ β w) y v) (h : abin σ op ty x y K) :
    ∃ z r, K z ∧ rel (ctx inv M σ β w) z r ∧ (do eqGuard op t ox oy u v; binOp op t u v : Sem Value).run P w = .ok r w := by
  unfold abin at h
  split at h
  · -- numbers
    rename_i k a k' b
    simp only [rel] at hx hy
    subst hx hy
    have hg := eqGuard_plain (P := P) (w := w) op t ox oy (.int k a) (.int k' b) (by simp) (by simp)
    split at h
    · obtain ⟨hb0, h⟩ := h
      refine ⟨_, _, h, by simp only [rel]; rfl, ?_⟩
      have h0 : ¬ b < 0 := by omega
      simp only [Sem.run_bind, hg, Result.andThen_ok, binOp, Op.shift, if_neg h0, Sem.run_pure]
    · exact h.elim
    · obtain ⟨rfl, h⟩ := h
      obtain ⟨z, r, h1, h2, h3⟩ := arith_sound (c := ctx inv M σ β w) (P := P) (w := w) t h
      exact ⟨z, r, h1, h2, by simp only [Sem.run_bind, hg, Result.andThen_ok, h3]⟩
  · -- truth values
    rename_i a b
    simp only [rel] at hx hy
    subst hx hy
    obtain ⟨rfl, h⟩ := h
    have hg := eqGuard_plain (P := P) (w := w) op t ox oy (.bool a) (.bool b) (by simp) (by simp)
    have he : (Op.equal t (.bool a) (.bool b)).run P w = .ok (a == b) w := run_equalIn_bool' w 9999 t a b (ety_bool hty)
    have hd : (a == b) = decide (a = b) := by cases a <;> cases b <;> rfl
    split at h
    · refine ⟨_, _, h, by simp only [rel]; rfl, ?_⟩
      simp only [Sem.run_bind, hg, Result.andThen_ok, run_eqneq (.inl rfl) (by simp) (by simp) (by simp) (by simp) he, hd, if_true]
    · refine ⟨_, _, h, by simp only [rel]; rfl, ?_⟩
      simp only [Sem.run_bind, hg, Result.andThen_ok, run_eqneq (.inr rfl) (by simp) (by simp) (by simp) (by simp) he, hd]
      rfl
    · exact h.elim
  · -- structs
    rename_i xs ys
    simp only [rel] at hx hy
    obtain ⟨zs, rfl, hx⟩ := hx
    obtain ⟨ws, rfl, hy⟩ := hy
    split at h
    · rename_i ks
      obtain ⟨fs, e1, e2, e3, e4⟩ := ety_flat hty
      obtain ⟨tt, et, h⟩ := obind_elim h
      have hg := run_eqGuard_agg (P := P) w op t ox oy zs ws e3
      have hfo : P.fieldsOf t = fs := by simp [Program.fieldsOf, e1]
      have he : (Op.equalIn 10000 t (.agg zs) (.agg ws)).run P w = .ok tt w := by
        rw [run_equalIn_agg w 9999 t zs ws (by rw [hfo]; exact e1) e2, hfo]
        exact eqC_sound zs ws 9998 e4 et hx hy (by simp) (by simp)
      split at h
      · refine ⟨_, _, h, by simp only [rel]; rfl, ?_⟩
        simp only [Sem.run_bind, hg, Result.andThen_ok, run_eql_struct, he]
      · refine ⟨_, _, h, by simp only [rel]; rfl, ?_⟩
        simp only [Sem.run_bind, hg, Result.andThen_ok, run_neq_struct, he]
      · exact h.elim
    · rename_i m
      obtain ⟨e, k, i, e1, e2, e3, e4, e5⟩ := ety_arr hty
      obtain ⟨tt, et, h⟩ := obind_elim h
      have hg := run_eqGuard_agg (P := P) w op t ox oy zs ws e5
      have he : (Op.equalIn 10000 t (.agg zs) (.agg ws)).run P w = .ok tt w := by
        rw [run_equalIn_array w 9999 zs ws e1 e3, e4, List.range_eq_range']
        exact eqItems_sound e2 9998 zs ws m 0 et hx hy (by simp) (by simp)
      split at h
      · refine ⟨_, _, h, by simp only [rel]; rfl, ?_⟩
        simp only [Sem.run_bind, hg, Result.andThen_ok, run_eql_struct, he]
      · refine ⟨_, _, h, by simp only [rel]; rfl, ?_⟩
        simp only [Sem.run_bind, hg, Result.andThen_ok, run_neq_struct, he]
      · exact h.elim
    · exact h.elim
  · -- a pointer and nil
    rename_i l ver off
    obtain ⟨rfl, hlv, h⟩ := h
    obtain ⟨p, _, _, rfl⟩ := ptr_live hlv hx
    simp only [rel] at hy
    subst hy
    obtain ⟨et, e3⟩ := ety_ptr hty
    have hg := eqGuard_plain (P := P) (w := w) op t ox oy (.pointer (some ⟨p.block, off, none⟩)) (.pointer none) (by simp) (by simp)
    have he := equal_ptr_nil (w := w) e3 ⟨p.block, off, none⟩
    split at h
    · refine ⟨_, _, h, by simp only [rel]; rfl, ?_⟩
      simp only [Sem.run_bind, hg, Result.andThen_ok, run_eqneq (.inl rfl) (by simp) (by simp) (by simp) (by simp) he, if_true]
    · refine ⟨_, _, h, by simp only [rel]; rfl, ?_⟩
      simp only [Sem.run_bind, hg, Result.andThen_ok, run_eqneq (.inr rfl) (by simp) (by simp) (by simp) (by simp) he]
      rfl
    · exact h.elim
  · -- nil
    obtain ⟨tt, et, h⟩ := obind_elim h
    have key : (∀ xs, u ≠ .agg xs) ∧ u ≠ .nilIface ∧ (∀ k n, u ≠ .int k n) ∧ (∀ k n, u ≠ .float k n) ∧ (∀ k n m, u ≠ .complex k n m) ∧ (∀ s, u ≠ .string s) ∧ (Op.equal t u v).run P w = .ok tt w := by
      unfold isNil at et
      split at et <;> first | (cases et; done) | skip
      all_goals (simp only [Option.some.injEq] at et; subst et; simp only [rel] at hx hy)
      · subst hx hy
        obtain ⟨et, e3⟩ := ety_ptr hty
        refine ⟨by simp, by simp, by simp, by simp, by simp, by simp, ?_⟩
        exact equal_nil_ptr e3 none
      · subst hx
        obtain ⟨ad, rfl, _⟩ := hy
        obtain ⟨et, e3⟩ := ety_ptr hty
        refine ⟨by simp, by simp, by simp, by simp, by simp, by simp, ?_⟩
        exact equal_nil_ptr e3 _
      · subst hy
        obtain ⟨ad, rfl, _⟩ := hx
        obtain ⟨et, e3⟩ := ety_ptr hty
        refine ⟨by simp, by simp, by simp, by simp, by simp, by simp, ?_⟩
        exact equal_ptr_nil e3 _
      · subst hx hy
        obtain ⟨p, r, vv, e3⟩ := ety_fn hty
        refine ⟨by simp, by simp, by simp, by simp, by simp, by simp, ?_⟩
        exact equal_nil_nil e3
      · subst hx
        obtain ⟨g, xs, rfl, _⟩ := hy
        obtain ⟨p, r, vv, e3⟩ := ety_fn hty
        refine ⟨by simp, by simp, by simp, by simp, by simp, by simp, ?_⟩
        exact equal_nil_fn e3 _ _ _
      · subst hy
        obtain ⟨g, xs, rfl, _⟩ := hx
        obtain ⟨p, r, vv, e3⟩ := ety_fn hty
        refine ⟨by simp, by simp, by simp, by simp, by simp, by simp, ?_⟩
        exact equal_fn_nil e3 _ _ _
    obtain ⟨k1, k2, k3, k4, k5, k6, he⟩ := key
    have hg := eqGuard_plain (P := P) (w := w) op t ox oy u v k1 k2
    split at h
    · refine ⟨_, _, h, by simp only [rel]; rfl, ?_⟩
      simp only [Sem.run_bind, hg, Result.andThen_ok, run_eqneq (.inl rfl) k3 k4 k5 k6 he, if_true]
    · refine ⟨_, _, h, by simp only [rel]; rfl, ?_⟩
      simp only [Sem.run_bind, hg, Result.andThen_ok, run_eqneq (.inr rfl) k3 k4 k5 k6 he]
      rfl
    · exact h.elim

/-! ### slices of slices -/
theorem relRows_take {c : Ctx} {sz : Nat} {ad : Addr} : ∀ {k : Nat} (n : Nat) {es : List (List AV)}, relRows c sz ad k es → relRows c sz ad k (es.take n)
  | _, 0, _, _ => by simp [relRows]
  | _, _ + 1, [], _ => by simp [relRows]
  | k, n + 1, r :: rs, h => by
    simp only [relRows] at h
    simp only [List.take_succ_cons, relRows]
    exact ⟨h.1, h.2.1, relRows_take n h.2.2⟩
theorem relRows_drop {c : Ctx} {sz : Nat} {ad : Addr} : ∀ {k : Nat} (n : Nat) {es : List (List AV)}, relRows c sz ad k es → relRows c sz ad (k + n * sz) (es.drop n)
  | _, 0, _, h => by simpa using h
  | _, _ + 1, [], _ => by simp [relRows]
  | k, n + 1, r :: rs, h => by
    simp only [relRows] at h
    have := relRows_drop n h.2.2
    rw [show k + (n + 1) * sz = k + sz + n * sz by rw [Nat.add_mul]; omega]
    simpa using this
theorem relRow_shift {c : Ctx} {ad : Addr} (o : Nat) : ∀ {k : Nat} {r : List AV}, relRow c ad (o + k) r → relRow c (ad.add o) k r
  | _, [], _ => by simp only [relRow]
  | k, x :: xs, h => by
    simp only [relRow] at h ⊢
    refine ⟨by rw [add_add]; exact h.1, relRow_shift o ?_⟩
    rw [show o + (k + 1) = o + k + 1 by omega]; exact h.2
theorem relRows_shift {c : Ctx} {sz : Nat} {ad : Addr} (o : Nat) : ∀ {k : Nat} {es : List (List AV)}, relRows c sz ad (o + k) es → relRows c sz (ad.add o) k es
  | _, [], _ => by simp only [relRows]
  | k, r :: rs, h => by
    simp only [relRows] at h ⊢
    refine ⟨h.1, relRow_shift o h.2.1, relRows_shift o ?_⟩
    rw [show o + (k + sz) = o + k + sz by omega]; exact h.2.2
end
end Go.Eng
