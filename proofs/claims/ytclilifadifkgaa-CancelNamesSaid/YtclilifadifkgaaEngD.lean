/-
  THE ENGINE, PART D: what part C says of an operation that reckons a value is so in the model.
-/
import Derived.Test.YtclilifadifkgaaEngC
import Derived.ChangeKeysEq
import Derived.Laws.Cells
import Derived.Laws.Rows
namespace Go.Eng
open Go.RowKit

/-- What is known of a run's frame and memory. -/
structure Knows (inv : Nat → Option Nat) (w0 : World) (M : Nat → Prop) (φ : List (Nat × AV)) (σ : List (Nat × AO)) (β : Nat → Nat) (a : Act) (w : World) : Prop where
  slots : ∀ i, rel (ctx inv M σ β w) (fget φ i) (a.tmps.getD i undef)
  mem : Mem inv w0 M σ β w

section
variable {P : Program} {inv : Nat → Option Nat} {w0 : World} {M : Nat → Prop} {φ : AF} {σ : AS} {β : Nat → Nat} {a : Act} {w : World}

theorem cav_rel {c : Ctx} {t : TypeId} : ∀ {v : Value} {x : AV}, cav P t v = some x → rel c x v := by
  intro v x h
  unfold cav at h
  split at h
  · cases h; simp only [rel]
  · cases h; simp only [rel]
  · split at h
    · rename_i vs hv
      cases h
      simp only [rel, undef]
      congr 1
      exact Array.isEmpty_iff.1 hv
    · cases h
  · split at h <;> (cases h; simp only [rel]; exact ⟨_, rfl⟩)
  · cases h; simp only [rel]
  · cases h; simp only [rel]
  · cases h; simp only [rel]
  · cases h; simp only [rel]
  · cases h

theorem copd_rel (hs : Knows inv w0 M φ σ β a w) {t : TypeId} {x : Operand} {d : Opd} (h : copd P inv t x = some d) : rel (ctx inv M σ β w) (ev φ d) (a.eval x) := by
  unfold copd at h
  split at h
  · cases h; exact hs.slots _
  · rename_i v
    cases hv : cav P t v with
    | none => rw [hv] at h; cases h
    | some y => rw [hv] at h; cases h; exact cav_rel hv
  · rename_i f
    cases hf : inv f with
    | none => rw [hf] at h; cases h
    | some j => rw [hf] at h; cases h; simp only [ev, rel]; exact ⟨f, #[], rfl, hf, by simp [relL]⟩
  · cases h

theorem copds_rel (hs : Knows inv w0 M φ σ β a w) : ∀ {l : List (TypeId × Operand)} {ds : List Opd}, copds P inv l = some ds → relL (ctx inv M σ β w) (ds.map (ev φ)) (l.map fun p => a.eval p.2)
  | [], _, h => by simp only [copds] at h; cases h; simp [relL]
  | (t, x) :: r, _, h => by
    simp only [copds] at h
    split at h
    · rename_i d ds e1 e2
      cases h
      simp only [List.map_cons]
      exact relL_cons (copd_rel hs e1) (copds_rel hs e2)
    · cases h

theorem relCs_zmL {c : Ctx} : ∀ {xs : List AV} {ys : List Value}, zmL xs ys = true → relCs c xs ys
  | [], [], _ => relCs_nil
  | x :: xs, y :: ys, h => by
    simp only [zmL, Bool.and_eq_true] at h
    obtain ⟨h1, h2⟩ := h
    refine relCs_cons ?_ ?_ (relCs_zmL h2)
    · unfold zmC at h1; split at h1 <;> first | rfl | cases h1
    · unfold zmC at h1
      split at h1
      · simp only [Bool.and_eq_true, decide_eq_true_eq] at h1; obtain ⟨rfl, rfl⟩ := h1; simp only [rel]
      · simp only [beq_iff_eq] at h1; subst h1; simp only [rel]
      · simp only [rel]; exact ⟨_, rfl⟩
      · simp only [rel]
      · simp only [rel]
      · simp only [rel]
      · simp only [rel]
      · cases h1
  | [], _ :: _, h => by simp [zmL] at h
  | _ :: _, [], h => by simp [zmL] at h

theorem zeroOf_rel {c : Ctx} {t : TypeId} {r : List (Nat × AV)} (h : zeroOf P t = some r) : ∃ i z, P.info? t = some i ∧ i.zero = some z ∧ relCs c (runs r) z.cells.toList := by
  unfold zeroOf at h
  split at h
  · rename_i r' i e1 e2
    split at h
    · rename_i z e3
      split at h
      · rename_i e4
        cases h
        exact ⟨i, z, e2, e3, relCs_zmL e4⟩
      · cases h
    · cases h
  · cases h

theorem siz_info {t : TypeId} {n : Nat} (h : siz P t = some n) : ∃ i, P.info? t = some i ∧ i.size = n ∧ P.cellsOf t = n := by
  unfold siz at h
  cases e : P.info? t with
  | none => rw [e] at h; cases h
  | some i => rw [e] at h; simp only [Option.map_some, Option.some.injEq] at h; exact ⟨i, rfl, h, by simp [Program.cellsOf, e, h]⟩
theorem run_siz {t : TypeId} {n : Nat} (h : siz P t = some n) (w : World) : (sizeOf t).run P w = .ok n w := by
  obtain ⟨i, hi, _, hc⟩ := siz_info h
  rw [run_sizeOf w hi, hc]
theorem run_isAgg {t : TypeId} {l : Option Nat} (h : lay P t = some l) (w : World) : (isAgg t).run P w = .ok l.isSome w := by
  unfold lay at h
  unfold isAgg
  split at h
  · rename_i e
    cases e1 : siz P t with
    | none => rw [e1] at h; cases h
    | some n => rw [e1] at h; cases h; simp [run_underlying e]
  · rename_i e
    cases e1 : siz P t with
    | none => rw [e1] at h; cases h
    | some n => rw [e1] at h; cases h; simp [run_underlying e]
  · rename_i d h1 h2 e
    cases h
    rw [Sem.run_bind, run_underlying e]
    simp only [Result.andThen_ok]
    cases d <;> first | rfl | (exact absurd rfl (h1 _)) | (exact absurd rfl (h2 _ _))
  · cases h
theorem lay_siz {t : TypeId} {n : Nat} (h : lay P t = some (some n)) : siz P t = some n := by
  unfold lay at h
  split at h
  · cases e1 : siz P t with
    | none => rw [e1] at h; cases h
    | some n => rw [e1] at h; simpa using h
  · cases e1 : siz P t with
    | none => rw [e1] at h; cases h
    | some n => rw [e1] at h; simpa using h
  · cases h
  · cases h

/-- A variable is read. -/
theorem run_loadVar_of {t : TypeId} {l : Option Nat} (h : lay P t = some l) (w : World) (ad : Addr) (ys : List Value) (hn : ∀ n, l = some n → ys.length = n) (h1 : l = none → ys.length = 1) (hc : ∀ j u, ys[j]? = some u → w.cell? (ad.add j) = some u) :
    (loadVar t ad).run P w = .ok (if l.isSome then .agg ys.toArray else ys.getD 0 undef) w := by
  unfold loadVar
  rw [Sem.run_bind, run_isAgg h]
  simp only [Result.andThen_ok]
  cases l with
  | none =>
    have := h1 rfl
    match ys, this with
    | [y], _ =>
      have hc0 := hc 0 y rfl
      have e0 : ad.add 0 = ad := by simp [Addr.add]
      rw [e0] at hc0
      simp [hc0]
  | some n =>
    have e := hn n rfl
    have hr := run_loadCells_list (P := P) w ad ys hc
    simp only [Option.isSome_some, if_true, Sem.run_bind, run_siz (lay_siz h), Result.andThen_ok]
    rw [e] at hr
    rw [hr]
    simp

theorem place_live {l ver : Nat} (h : live σ l ver) : ∃ p, place β w σ l = some p ∧ p.len = ver := by
  unfold live at h
  unfold place
  split at h
  · rename_i cs r e
    rw [e]
    cases r with
    | true => exact ⟨_, rfl, h⟩
    | false => exact ⟨_, rfl, h⟩
  · cases h
theorem ptr_live {l ver off : Nat} {x : Value} (h : live σ l ver) (hr : rel (ctx inv M σ β w) (.ptr l ver off) x) : ∃ p, place β w σ l = some p ∧ p.len = ver ∧ x = .pointer (some ⟨p.block, off, none⟩) := by
  obtain ⟨p, hp, hv⟩ := place_live (β := β) (w := w) h
  simp only [rel] at hr
  exact ⟨p, hp, hv, (hr.2 p hp).2 hv.symm⟩
theorem sm_live {l ver off n sz : Nat} {x : Value} (h : live σ l ver) (hr : rel (ctx inv M σ β w) (.sm l ver off n sz) x) :
    ∃ p ad cap, place β w σ l = some p ∧ p.len = ver ∧ off + n * sz ≤ ver ∧ x = .slice ad n cap ∧ n ≤ cap ∧ (if p.real then (cap = 0 ∨ ad = some ⟨p.block, off, none⟩) ∧ off + cap * sz ≤ p.size else cap = 0) := by
  obtain ⟨p, hp, hv⟩ := place_live (β := β) (w := w) h
  simp only [rel] at hr
  obtain ⟨h1, ad, cap, h2, h3, h4⟩ := (hr.2 p hp).2 hv.symm
  exact ⟨p, ad, cap, hp, hv, h1, h2, h3, h4⟩
theorem rel_ptr_mk {l ver off : Nat} {p : Place} (hp : place β w σ l = some p) (hv : p.len = ver) : rel (ctx inv M σ β w) (.ptr l ver off) (.pointer (some ⟨p.block, off, none⟩)) := by
  simp only [rel]
  refine ⟨rfl, fun p' hp' => ?_⟩
  have : p' = p := by have := (show place β w σ l = some p' from hp').symm.trans hp; simpa using this
  subst this
  exact ⟨by omega, fun _ => rfl⟩
theorem addr_add (b off k : Nat) : (⟨b, off, none⟩ : Addr).add k = ⟨b, off + k, none⟩ := by unfold Addr.add; split <;> simp_all

/-- A cell of a named row. -/
theorem Mem.cell (hm : Mem inv w0 M σ β w) {l : Nat} {cs : List AV} (h : sget σ l = some (.cells cs true)) :
    ∃ ys : List Value, ys.length = cs.length ∧ relCs (ctx inv M σ β w) cs ys ∧ ∀ j u, ys[j]? = some u → w.cell? ⟨β l, j, none⟩ = some u := by
  obtain ⟨xs, ty, e1, e2, e3⟩ := hm.cells l cs h
  refine ⟨xs.toList.take cs.length, (relCs_length e3).symm, e3, fun j u hu => ?_⟩
  rw [List.getElem?_take] at hu
  split at hu
  · simp only [World.cell?, e1, Option.isSome_none, Bool.false_eq_true, if_false]
    simpa using hu
  · cases hu

theorem aloadC_spec {c : Ctx} {cs : List AV} {off : Nat} {l : Option Nat} {v : AV} {ys : List Value} (h : aloadC cs off l = some v) (hr : relCs c cs ys) :
    ∃ zs : List Value, (∀ n, l = some n → zs.length = n) ∧ (l = none → zs.length = 1) ∧ (∀ j u, zs[j]? = some u → ys[off + j]? = some u) ∧ rel c v (if l.isSome then .agg zs.toArray else zs.getD 0 undef) := by
  cases l with
  | none =>
    simp only [aloadC] at h
    obtain ⟨y, hy, _, hr⟩ := relCs_get hr h
    refine ⟨[y], by simp, by simp, fun j u hu => ?_, by simpa using hr⟩
    cases j with
    | zero => simp at hu; subst hu; exact hy
    | succ j => simp at hu
  | some n =>
    simp only [aloadC] at h
    split at h
    · rename_i hle
      obtain ⟨_, hle⟩ := hle
      cases h
      have hl := relCs_length hr
      refine ⟨(ys.drop off).take n, fun m e => ?_, by simp, fun j u hu => ?_, ?_⟩
      · cases e; rw [List.length_take, List.length_drop]; omega
      · rw [List.getElem?_take] at hu
        split at hu
        · simpa using hu
        · cases hu
      · simp only [Option.isSome_some, if_true, rel]
        exact ⟨_, rfl, by simpa [seg] using relCs_take n (relCs_drop off hr)⟩
    · cases h

theorem aloadC_bare {cs : List AV} {off : Nat} {l : Option Nat} {v : AV} (h : aloadC cs off l = some v) (hb : AV.bareL cs = true) : v.bare = true := by
  cases l with
  | none => exact bareL_get hb h
  | some n =>
    simp only [aloadC] at h
    split at h
    · cases h; simp only [AV.bare, seg]; exact bareL_take _ _ (bareL_drop _ _ hb)
    · cases h

theorem aload_sound (hs : Knows inv w0 M φ σ β a w) {t : TypeId} {l : Option Nat} (ht : lay P t = some l) {x v : AV} {y : Value} (hx : rel (ctx inv M σ β w) x y) (h : aload σ l x = some v) :
    ∃ u, rel (ctx inv M σ β w) v u ∧ (Instr.loadAt t y).run P w = .ok u w := by
  unfold aload at h
  split at h
  · rename_i lo ver off
    split at h
    · rename_i cs rl e
      split at h
      · rename_i hv
        have hrl : rl = true := by
          cases rl with
          | true => rfl
          | false =>
            have := hs.mem.ghost lo cs e
            subst this
            cases l with
            | none => simp [aloadC] at h
            | some m => simp only [aloadC] at h; split at h <;> first | (rename_i hh; simp at hh; omega) | cases h
        subst hrl
        have hlv : live σ lo ver := by unfold live; rw [e]; exact hv
        obtain ⟨p, hp, _, rfl⟩ := ptr_live hlv hx
        obtain ⟨ys, hyl, hyr, hyc⟩ := hs.mem.cell e
        obtain ⟨zs, z1, z2, z3, z4⟩ := aloadC_spec h hyr
        have hpb : p.block = β lo := by unfold place at hp; rw [e] at hp; cases hp; rfl
        refine ⟨_, z4, ?_⟩
        simp only [Instr.loadAt, Instr.sureAddr, Sem.run_bind, Sem.run_pure, Result.andThen_ok]
        exact run_loadVar_of ht w _ zs z1 z2 (fun j u hu => by rw [addr_add, hpb]; exact hyc _ _ (z3 j u hu))
      · cases h
    · cases h
  · rename_i sz es i k
    split at h
    · rename_i r e
      simp only [rel] at hx
      obtain ⟨ad, rfl, _, _, hrows⟩ := hx
      obtain ⟨_, hrow⟩ := relRows_get hrows e
      obtain ⟨hbare, ys, hyr, hyc⟩ := relRow_list hrow
      obtain ⟨zs, z1, z2, z3, z4⟩ := aloadC_spec h hyr
      refine ⟨_, rel_bare (S := (ctx inv M σ β w).S) v _ (aloadC_bare h hbare) z4, ?_⟩
      · simp only [Instr.loadAt, Instr.sureAddr, Sem.run_bind, Sem.run_pure, Result.andThen_ok]
        exact run_loadVar_of ht w _ zs z1 z2 (fun j u hu => by
          rw [add_add]
          have := hyc _ _ (z3 j u hu)
          rw [show i * sz + k + j = 0 + i * sz + (k + j) by omega]; exact this)
    · cases h
  · cases h

theorem run_part_none {t : TypeId} (h : lay P t = some none) (w : World) (cs : Array Value) (off : Nat) (v : Value) (hv : cs[off]? = some v) : (part t cs off).run P w = .ok v w := by
  unfold part
  rw [Sem.run_bind, run_isAgg h]
  simp [hv]
theorem run_part_some {t : TypeId} {n : Nat} (h : lay P t = some (some n)) (w : World) (cs : Array Value) (off : Nat) : (part t cs off).run P w = .ok (.agg (cs.extract off (off + n))) w := by
  unfold part
  rw [Sem.run_bind, run_isAgg h]
  simp [run_siz (lay_siz h)]

theorem eqC_true {ks : List Bool} {xs ys : List AV} {t : Bool} (h : eqC (true :: ks) xs ys = some t) : ∃ k a b xs' ys' t', xs = .i k a :: xs' ∧ ys = .i k b :: ys' ∧ eqC ks xs' ys' = some t' ∧ t = (decide (a = b) && t') := by
  unfold eqC at h
  split at h
  · simp_all
  · rename_i ks' k a xs' k' b ys' e
    cases e
    split at h
    · rename_i ek
      subst ek
      obtain ⟨t1, h1, h2⟩ := Option.map_eq_some_iff.1 h
      exact ⟨k, a, b, xs', ys', t1, rfl, rfl, h1, h2.symm⟩
    · cases h
  · rename_i e; cases e
  · cases h
theorem eqC_false {ks : List Bool} {xs ys : List AV} {t : Bool} (h : eqC (false :: ks) xs ys = some t) : ∃ a b xs' ys' t', xs = .b a :: xs' ∧ ys = .b b :: ys' ∧ eqC ks xs' ys' = some t' ∧ t = (decide (a = b) && t') := by
  unfold eqC at h
  split at h
  · simp_all
  · rename_i e; cases e
  · rename_i ks' a xs' b ys' e
    cases e
    obtain ⟨t1, h1, h2⟩ := Option.map_eq_some_iff.1 h
    exact ⟨a, b, xs', ys', t1, rfl, rfl, h1, h2.symm⟩
  · cases h

theorem eqC_sound {c : Ctx} : ∀ {fs : List Field} {k : Nat} {ks : List Bool} {xs ys : List AV} {us vs : List Value} {t : Bool} (zs ws : Array Value) (d : Nat), flatFields P k fs = some ks → eqC ks xs ys = some t → relCs c xs us → relCs c ys vs →
    (∀ j, zs[k + j]? = us[j]?) → (∀ j, ws[k + j]? = vs[j]?) → (Op.eqFields (d + 1) zs ws fs).run P w = .ok t w
  | [], k, ks, xs, ys, us, vs, t, zs, ws, d, hf, he, _, _, _, _ => by
    simp only [flatFields, Option.some.injEq] at hf
    subst hf
    cases xs <;> cases ys <;> simp [eqC] at he
    subst he
    simp [Op.eqFields]
  | f :: fs, k, ks, xs, ys, us, vs, t, zs, ws, d, hf, he, hx, hy, hz, hw => by
    simp only [flatFields] at hf
    split at hf
    · rename_i hn
      obtain ⟨hname, hoff⟩ := hn
      have step : ∀ (x y : AV) (xs' ys' : List AV) (ks' : List Bool) (t0 t1 : Bool), xs = x :: xs' → ys = y :: ys' → flatFields P (k + 1) fs = some ks' → eqC ks' xs' ys' = some t1 → t = (t0 && t1) → lay P f.type = some none →
          (∀ u v, rel c x u → rel c y v → (Op.equalIn (d + 1) f.type u v).run P w = .ok t0 w) → (Op.eqFields (d + 1) zs ws (f :: fs)).run P w = .ok t w := by
        intro x y xs' ys' ks' t0 t1 e1 e2 e3 e4 e5 e6 e7
        subst e1 e2
        simp only [relCs] at hx hy
        obtain ⟨u, us', rfl, _, rx, hx⟩ := hx
        obtain ⟨v, vs', rfl, _, ry, hy⟩ := hy
        have hz0 : zs[k]? = some u := by simpa using hz 0
        have hw0 : ws[k]? = some v := by simpa using hw 0
        have hz' : ∀ j, zs[k + 1 + j]? = us'[j]? := fun j => by have := hz (j + 1); rw [show k + 1 + j = k + (j + 1) by omega]; simpa using this
        have hw' : ∀ j, ws[k + 1 + j]? = vs'[j]? := fun j => by have := hw (j + 1); rw [show k + 1 + j = k + (j + 1) by omega]; simpa using this
        simp only [Op.eqFields, ne_eq, hname, not_false_eq_true, if_true, Sem.run_bind, hoff, run_part_none e6 w zs k u hz0, run_part_none e6 w ws k v hw0, Result.andThen_ok, e7 u v rx ry]
        cases t0 with
        | false => simp [e5]
        | true =>
          simp only [Bool.not_true, Bool.false_eq_true, if_false]
          rw [e5, Bool.true_and]
          exact eqC_sound zs ws d e3 e4 hx hy hz' hw'
      split at hf
      · rename_i kd ks' e1 e2
        simp only [Option.some.injEq] at hf
        subst hf
        obtain ⟨k1, a1, b1, xs', ys', t1, e3, e4, e5, e6⟩ := eqC_true he
        refine step _ _ _ _ _ _ t1 e3 e4 e2 e5 e6 (by simp [lay, e1]) fun u v ru rv => ?_
        simp only [rel] at ru rv
        subst ru rv
        rw [run_equalIn_int w d f.type k1 kd a1 b1 e1]; rfl
      · rename_i ks' e1 e2
        simp only [Option.some.injEq] at hf
        subst hf
        obtain ⟨a1, b1, xs', ys', t1, e3, e4, e5, e6⟩ := eqC_false he
        refine step _ _ _ _ _ _ t1 e3 e4 e2 e5 e6 (by simp [lay, e1]) fun u v ru rv => ?_
        simp only [rel] at ru rv
        subst ru rv
        rw [run_equalIn_bool' w d f.type a1 b1 e1]; congr 1
      · cases hf
    · cases hf
end
end Go.Eng
