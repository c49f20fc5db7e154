/-
  THE ENGINE, PART T: from a function's contract to the statement's own words: what it is handed, what it leaves.
-/
import Derived.Test.YtclilifadifkgaaEngS
import Derived.ProofKit
namespace Go.Eng
open Go.RowKit Go.ChangeShapes Go.WideShapes

/-- An argument. -/
def Sh.arg : Sh → D → AV
  | .i k, .n n => .i k n
  | .b, .t t => .b t
  | .s sz e, .l l => .sl sz (l.map (Sh.av e))
  | .st fs, .l l => .agg (Sh.avL fs l)
  | .ar _ e, .l l => .agg (l.map (Sh.av e)).flatten
  | _, _ => .top
def Sh.args : List Sh → List D → List AV
  | x :: xs, d :: ds => Sh.arg x d :: Sh.args xs ds
  | _, _ => []

section
variable {H : Type} {enc : TypeId × Value → H} {P : Program} {w W W' : World} {inv : Nat → Option Nat}

theorem relCs_one1 {c : Ctx} {x : AV} {y : Value} (h : relCs c [x] [y]) : rel c x y := by
  simp only [relCs] at h
  obtain ⟨u, us, e, _, h, e'⟩ := h
  simp only [List.cons.injEq] at e
  rw [e.1]; exact h

theorem open_arg {n : Nat} {t : TypeId} {S : Sh} (hS : shOf P n t = some S) {r : Reach} {b0 base : Nat} {sp : Nat → Bool} {held : Bool} {v : Value} {d : DataW H} {ps : List MemPlace} (hval : Value.okWide P w r b0 t v) (hd : DataW.Trod enc P w base sp held t v d ps) :
    ∃ d', S.ok d' ∧ rel (c0 inv w) (S.arg d') v := by
  obtain ⟨fuel, hf⟩ := hd
  obtain ⟨d', h1, h2⟩ := (open_cells (inv := inv) n).1 t S hS fuel _ _ hf
  refine ⟨d', h1, ?_⟩
  cases n with
  | zero => simp [shOf] at hS
  | succ n =>
  unfold shOf at hS
  split at hS
  · rename_i k e
    simp only [Option.some.injEq] at hS
    subst hS
    obtain ⟨q, rfl⟩ := okWide_int e hval
    cases d' <;> simp only [Sh.ok] at h1
    exact relCs_one1 h2
  · rename_i e
    simp only [Option.some.injEq] at hS
    subst hS
    obtain ⟨q, rfl⟩ := okWide_bool e hval
    cases d' <;> simp only [Sh.ok] at h1
    exact relCs_one1 h2
  · rename_i e0 e
    split at hS
    · split at hS
      · simp only [Option.some.injEq] at hS
        subst hS
        obtain ⟨a, len, cap, rfl⟩ := okWide_slice e hval
        cases d' <;> simp only [Sh.ok] at h1
        exact relCs_one1 h2
      · cases hS
    · cases hS
  · rename_i fs e
    split at hS
    · split at hS
      · simp only [Option.some.injEq] at hS
        subst hS
        obtain ⟨cs, rfl, _⟩ := okWide_struct e hval
        cases d' <;> simp only [Sh.ok] at h1
        simp only [Sh.arg, rel]
        exact ⟨cs, rfl, h2⟩
      · cases hS
    · cases hS
  · rename_i m e0 e
    split at hS
    · split at hS
      · simp only [Option.some.injEq] at hS
        subst hS
        have hv := hval
        unfold Value.okWide at hv
        rw [e] at hv
        obtain ⟨cs, rfl, _⟩ := hv
        cases d' <;> simp only [Sh.ok] at h1
        simp only [Sh.arg, rel]
        exact ⟨cs, rfl, h2⟩
      · cases hS
    · cases hS
  · cases hS

theorem open_args {n : Nat} {r : Reach} {b0 base : Nat} {sp : Nat → Bool} {held : Bool} : ∀ {ts : List TypeId} {Ss : List Sh} {vs : List Value} {ds : List (DataW H)} {ps : List MemPlace}, ts.map (shOf P n) = Ss.map some →
    (∀ (j : Nat) t v, ts[j]? = some t → vs[j]? = some v → Value.okWide P w r b0 t v) → DataW.TrodAll enc P w base sp held ts vs ds ps → ∃ ds', Sh.okL Ss ds' ∧ relL (c0 inv w) (Sh.args Ss ds') vs ∧ ds.length = Ss.length
  | [], [], vs, ds, ps, _, _, h => by
    cases vs <;> cases ds <;> simp only [DataW.TrodAll] at h
    exact ⟨[], trivial, relL_nil, rfl⟩
  | t :: ts, S :: Ss, vs, ds, ps, hS, hval, h => by
    cases vs with
    | nil => simp only [DataW.TrodAll] at h
    | cons v vs =>
    cases ds with
    | nil => simp only [DataW.TrodAll] at h
    | cons d ds =>
    simp only [DataW.TrodAll] at h
    obtain ⟨p, q, h1, h2, _⟩ := h
    simp only [List.map_cons, List.cons.injEq] at hS
    obtain ⟨d', k1, k2⟩ := open_arg (inv := inv) hS.1 (hval 0 t v rfl rfl) h1
    obtain ⟨ds', k3, k4, k5⟩ := open_args hS.2 (fun j t v h1 h2 => hval (j + 1) t v h1 h2) h2
    exact ⟨d' :: ds', ⟨k1, k3⟩, relL_cons k2 k4, by simp [k5]⟩
  | [], _ :: _, _, _, _, h, _, _ => by simp at h
  | _ :: _, [], _, _, _, h, _, _ => by simp at h

theorem again_args (hl : laidOutB P = true) (hb : Below W.heap.size W W') : ∀ {ts : List TypeId} {vs : List Value} {ds : List (DataW H)} {ps : List MemPlace}, (∀ t ∈ ts, P.readableRec t = true ∧ t < P.types.size) →
    DataW.TrodAll enc P W 0 (fun _ => true) true ts vs ds ps → (∀ x ∈ ps, x.block < W.heap.size) → DataW.TrodAll enc P W' 0 (fun b => decide (b < W.heap.size)) true ts vs ds ps
  | [], vs, ds, ps, _, h, _ => by cases vs <;> cases ds <;> simp only [DataW.TrodAll] at h ⊢; exact h
  | t :: ts, vs, ds, ps, ht, h, hlt => by
    cases vs with
    | nil => simp only [DataW.TrodAll] at h
    | cons v vs =>
    cases ds with
    | nil => simp only [DataW.TrodAll] at h
    | cons d ds =>
    simp only [DataW.TrodAll] at h ⊢
    obtain ⟨p, q, h1, h2, rfl⟩ := h
    exact ⟨p, q, Below.trod hl (ht t (by simp)).1 (ht t (by simp)).2 h1 hb (fun x hx => hlt x (by simp [hx])), again_args hl hb (fun t h => ht t (by simp [h])) h2 (fun x hx => hlt x (by simp [hx])), rfl⟩

/-- A law's statement, of its function's contract: true, whatever is handed in; what was handed in reads as it did. -/
theorem law_of_pc {fn : Func} {s : ChangeSpec} {apart fresh : Bool} {g j n : Nat} {tb : TypeId} {Ss : List Sh} (hg : inv g = some j) (hl : laidOutB P = true) (hts : fn.params.toList.map (shOf P n) = Ss.map some)
    (hread : fn.params.toList.all (fun t => P.readableRec t && decide (t < P.types.size)) = true) (hres : fn.resultTypes = #[tb]) (hb : P.underlying tb = some .bool) (hvars : s.vars = [])
    (hs : ∀ l : List (DataW H), l.length = Ss.length → s.fn H l = { results := [.lit (.bool true)], args := l })
    (pc : ∀ ds, Sh.okL Ss ds → PC P inv j (Sh.args Ss ds) (fun r => r = .b true)) :
    ∀ (W : World) (base : Nat) (args : Array Value) (ds gs : List (DataW H)) (before : List MemPlace),
      (∀ (j : Nat) t v, fn.params[j]? = some t → args[j]? = some v → Value.okWide P W .any base t v) → DataW.Whole enc P fn.params.toList s.vars apart W args.toList ds gs before →
      Calls P g args W fun e W' => ∃ v, e = .returned v ∧ s.post enc P fn apart fresh false false W args v W' := by
  intro W base args ds gs before hval hW
  have hW' := hW
  obtain ⟨p, q, hA, hV, rfl, hfz, hnd⟩ := hW
  rw [hvars] at hV
  obtain ⟨rfl, rfl⟩ := trodVars_none hV
  obtain ⟨ds', k1, k2, k3⟩ := open_args (inv := inv) hts (fun j t v h1 h2 => hval j t v (by simpa using h1) (by simpa using h2)) hA
  refine (pc ds' k1 g hg (fun _ => False) W args (fun _ h => h.elim) k2).mono ?_
  rintro e W' ⟨v, r, rfl, rfl, hbel, _, hrel⟩
  simp only [rel] at hrel
  subst hrel
  have hfn := hs (ds ++ []) (by simpa using k3)
  refine ⟨_, rfl, ds, [], p ++ [], [], p, [], hW', ?_, ?_, ?_, hbel.frame _, fun h => by cases h⟩
  · rw [hfn, hres]
    exact trodAll_mk1 (shut_bool hb true)
  · rw [hfn]
    have := again_args hl hbel (fun t ht => by
      have := List.all_eq_true.1 hread t ht
      simp only [Bool.and_eq_true, decide_eq_true_eq] at this
      exact this) hA (fun x hx => hW'.lt x (by simp [hx]))
    simpa using this
  · rw [hfn, hvars]
    simp [DataW.TrodVars]
end
end Go.Eng
