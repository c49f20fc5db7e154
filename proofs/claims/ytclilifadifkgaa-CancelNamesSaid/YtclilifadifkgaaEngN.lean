/-
  THE ENGINE, PART N: functions; calls by contract, calls by going in.
-/
import Derived.Test.YtclilifadifkgaaEngM
namespace Go.Eng
open Go.RowKit

/-! ### what is known without names -/
mutual
def snapV (f : Nat → Option (List AV)) : AV → AV
  | .agg cs => .agg (snapL f cs)
  | .tup cs => .tup (snapL f cs)
  | .fn j cs => .fn j (snapL f cs)
  | .s0 sz => .sl sz []
  | .ptr l ver off => match f l with
    | some cs => if cs.length = ver ∧ 0 < ver then .ip ver [cs] 0 off else .top
    | none => .top
  | .sm l ver off n sz => match f l with
    | some cs => if cs.length = ver ∧ off + n * sz ≤ ver then .sl sz (chunks sz n (cs.drop off)) else .top
    | none => .top
  | .mp _ => .top
  | .i k n => .i k n
  | .b t => .b t
  | .v x => .v x
  | .u => .u
  | .sl sz es => .sl sz es
  | .ip sz es i k => .ip sz es i k
  | .top => .top
def snapL (f : Nat → Option (List AV)) : List AV → List AV
  | [] => []
  | x :: xs => snapV f x :: snapL f xs
end
def snapF : Nat → AS → Nat → Option (List AV)
  | 0, _, _ => none
  | k + 1, σ, l => match sget σ l with
    | some (.cells cs _) => some (snapL (snapF k σ) cs)
    | _ => none
def snap (k : Nat) (σ : AS) (x : AV) : AV := snapV (snapF k σ) x
def snaps (k : Nat) (σ : AS) (xs : List AV) : List AV := snapL (snapF k σ) xs

mutual
def AV.scalar : AV → Bool
  | .agg cs => AV.scalarL cs
  | .tup cs => AV.scalarL cs
  | .i _ _ => true | .b _ => true | .v _ => true | .u => true | .s0 _ => true
  | .sl _ es => es.isEmpty
  | .ip _ _ _ _ => false | .ptr _ _ _ => false | .sm _ _ _ _ _ => false | .mp _ => false | .fn _ _ => false | .top => true
def AV.scalarL : List AV → Bool
  | [] => true
  | x :: xs => x.scalar && AV.scalarL xs
end
mutual
theorem scalar_rel {c c' : Ctx} : ∀ (x : AV) (y : Value), x.scalar = true → rel c x y → rel c' x y
  | .agg cs, y, s, r => by
    simp only [rel] at r ⊢
    obtain ⟨xs, e, r⟩ := r
    exact ⟨xs, e, scalarCs_rel cs _ (by simpa only [AV.scalar] using s) r⟩
  | .tup cs, y, s, r => by
    simp only [rel] at r ⊢
    obtain ⟨xs, e, r⟩ := r
    exact ⟨xs, e, scalarL_rel cs _ (by simpa only [AV.scalar] using s) r⟩
  | .i _ _, _, _, r => by simpa only [rel] using r
  | .b _, _, _, r => by simpa only [rel] using r
  | .v _, _, _, r => by simpa only [rel] using r
  | .u, _, _, r => by simpa only [rel] using r
  | .s0 _, _, _, r => by simpa only [rel] using r
  | .sl sz es, y, s, r => by
    simp only [AV.scalar, List.isEmpty_iff] at s
    subst s
    simp only [rel] at r ⊢
    obtain ⟨ad, cap, e, h, _⟩ := r
    exact ⟨ad, cap, e, h, fun h => absurd rfl h⟩
  | .ip _ _ _ _, _, s, _ => by simp [AV.scalar] at s
  | .ptr _ _ _, _, s, _ => by simp [AV.scalar] at s
  | .sm _ _ _ _ _, _, s, _ => by simp [AV.scalar] at s
  | .mp _, _, s, _ => by simp [AV.scalar] at s
  | .fn _ _, _, s, _ => by simp [AV.scalar] at s
  | .top, _, _, _ => by simp only [rel]
theorem scalarL_rel {c c' : Ctx} : ∀ (xs : List AV) (ys : List Value), AV.scalarL xs = true → relL c xs ys → relL c' xs ys
  | [], _, _, r => by simpa only [relL] using r
  | x :: xs, ys, s, r => by
    simp only [AV.scalarL, Bool.and_eq_true] at s
    simp only [relL] at r ⊢
    obtain ⟨y, ys', e, r1, r2⟩ := r
    exact ⟨y, ys', e, scalar_rel x y s.1 r1, scalarL_rel xs ys' s.2 r2⟩
theorem scalarCs_rel {c c' : Ctx} : ∀ (xs : List AV) (ys : List Value), AV.scalarL xs = true → relCs c xs ys → relCs c' xs ys
  | [], _, _, r => by simpa only [relCs] using r
  | x :: xs, ys, s, r => by
    simp only [AV.scalarL, Bool.and_eq_true] at s
    simp only [relCs] at r ⊢
    obtain ⟨y, ys', e, ho, r1, r2⟩ := r
    exact ⟨y, ys', e, ho, scalar_rel x y s.1 r1, scalarCs_rel xs ys' s.2 r2⟩
end

section
variable {P : Program} {inv : Nat → Option Nat} {w0 : World} {M : Nat → Prop} {n N : Nat} {φ : AF} {σ : AS} {β : Nat → Nat} {a : Act} {w : World}

def Snaps (c' : Ctx) (σ : AS) (β : Nat → Nat) (f : Nat → Option (List AV)) : Prop :=
  ∀ l cs', f l = some cs' → ∃ cs r, sget σ l = some (.cells cs r) ∧ cs'.length = cs.length ∧ AV.bareL cs' = true ∧ (r = true → ∃ ys : List Value, relCs c' cs' ys ∧ ∀ j u, ys[j]? = some u → c'.w.cell? ⟨β l, j, none⟩ = some u)

theorem snapL_length (f : Nat → Option (List AV)) : ∀ (xs : List AV), (snapL f xs).length = xs.length
  | [] => by simp [snapL]
  | x :: xs => by simp [snapL, snapL_length f xs]

mutual
theorem snapV_bare {c' : Ctx} {f : Nat → Option (List AV)} (hf : Snaps c' σ β f) : ∀ (x : AV), (snapV f x).bare = true
  | .agg cs => by simp only [snapV, AV.bare]; exact snapL_bare hf cs
  | .tup cs => by simp only [snapV, AV.bare]; exact snapL_bare hf cs
  | .fn j cs => by simp only [snapV, AV.bare]; exact snapL_bare hf cs
  | .s0 sz => by simp only [snapV, AV.bare]
  | .ptr l ver off => by
    simp only [snapV]
    split
    · split <;> simp only [AV.bare]
    · simp only [AV.bare]
  | .sm l ver off n sz => by
    simp only [snapV]
    split
    · split <;> simp only [AV.bare]
    · simp only [AV.bare]
  | .mp _ => by simp only [snapV, AV.bare]
  | .i _ _ => by simp only [snapV, AV.bare]
  | .b _ => by simp only [snapV, AV.bare]
  | .v _ => by simp only [snapV, AV.bare]
  | .u => by simp only [snapV, AV.bare]
  | .sl _ _ => by simp only [snapV, AV.bare]
  | .ip _ _ _ _ => by simp only [snapV, AV.bare]
  | .top => by simp only [snapV, AV.bare]
theorem snapL_bare {c' : Ctx} {f : Nat → Option (List AV)} (hf : Snaps c' σ β f) : ∀ (xs : List AV), AV.bareL (snapL f xs) = true
  | [] => by simp only [snapL, AV.bareL]
  | x :: xs => by simp only [snapL, AV.bareL, snapV_bare hf x, snapL_bare hf xs, Bool.and_self]
end

mutual
theorem snapV_rel (hm : Mem inv w0 M σ β w) (hM : ∀ b, M b → b < w0.heap.size) {A' : Nat → Prop} (hA : ∀ b, A' b → M b) {f : Nat → Option (List AV)} (hf : Snaps ⟨inv, w, A', fun _ => none⟩ σ β f) : ∀ (x : AV) (y : Value), rel (ctx inv M σ β w) x y → rel ⟨inv, w, A', fun _ => none⟩ (snapV f x) y
  | .agg cs, y, r => by
    simp only [snapV, rel] at r ⊢
    obtain ⟨xs, e, r⟩ := r
    exact ⟨xs, e, snapCs_rel hm hM hA hf cs _ r⟩
  | .tup cs, y, r => by
    simp only [snapV, rel] at r ⊢
    obtain ⟨xs, e, r⟩ := r
    exact ⟨xs, e, snapL_rel hm hM hA hf cs _ r⟩
  | .fn j cs, y, r => by
    simp only [snapV, rel] at r ⊢
    obtain ⟨g, xs, e, hi, r⟩ := r
    exact ⟨g, xs, e, hi, snapL_rel hm hM hA hf cs _ r⟩
  | .s0 sz, y, r => by
    simp only [snapV, rel] at r ⊢
    obtain ⟨ad, e⟩ := r
    exact ⟨ad, 0, e, Nat.le_refl _, fun h => absurd rfl h⟩
  | .ptr l ver off, y, r => by
    simp only [snapV]
    split
    · rename_i cs' e
      split
      · rename_i hl
        obtain ⟨cs, rl, hg, h1, h2, h3⟩ := hf l cs' e
        have hlive : live σ l ver := by unfold live; rw [hg]; show cs.length = ver; omega
        obtain ⟨p, hp, _, rfl⟩ := ptr_live hlive r
        have hrl : rl = true := by
          cases rl with
          | true => rfl
          | false => have := hm.ghost l cs hg; subst this; simp only [List.length_nil] at h1; omega
        subst hrl
        obtain ⟨ys, h4, h5⟩ := h3 rfl
        have hpb : p.block = β l := by unfold place at hp; rw [hg] at hp; cases hp; rfl
        have hown := hm.own l _ hg rfl
        simp only [rel]
        refine ⟨⟨β l, 0, none⟩, by simp [addr_add, hpb], fun ha => by have := hM _ (hA _ ha); simp only at this; omega, hown.2, ?_⟩
        simp only [relRows, and_true]
        refine ⟨hl.1, relRow_of h2 h4 fun j u hu => ?_⟩
        rw [addr_add]
        have := h5 j u hu
        simpa using this
      · simp only [rel]
    · simp only [rel]
  | .sm l ver off m sz, y, r => by
    simp only [snapV]
    split
    · rename_i cs' e
      split
      · rename_i hl
        obtain ⟨cs, rl, hg, h1, h2, h3⟩ := hf l cs' e
        have hlive : live σ l ver := by unfold live; rw [hg]; show cs.length = ver; omega
        obtain ⟨p, ad, cap, hp, hv, hb, rfl, hcap, hr⟩ := sm_live hlive r
        simp only [rel]
        refine ⟨ad, cap, by rw [chunks_length], by rw [chunks_length]; exact hcap, fun hne => ?_⟩
        have hm0 : 0 < m := by
          rcases Nat.eq_zero_or_pos m with e0 | e0
          · subst e0; exact absurd rfl hne
          · exact e0
        have hrl : rl = true := by
          cases rl with
          | true => rfl
          | false => unfold place at hp; rw [hg] at hp; cases hp; simp at hr; omega
        subst hrl
        have hpe : p = ⟨β l, cs.length, blockSize w (β l), true⟩ := by unfold place at hp; rw [hg] at hp; cases hp; rfl
        subst hpe
        simp only [if_true] at hr
        obtain ⟨ys, h4, h5⟩ := h3 rfl
        have hown := hm.own l _ hg rfl
        refine ⟨_, hr.1.resolve_left (by omega), fun ha => by have := hM _ (hA _ ha); simp only at this; omega, hown.2, ?_⟩
        refine relRows_chunks m (by rw [List.length_drop]; omega) (bareL_drop _ _ h2) (relCs_drop off h4) fun j u hu => ?_
        rw [addr_add, Nat.zero_add]
        rw [List.getElem?_drop] at hu
        exact h5 _ u hu
      · simp only [rel]
    · simp only [rel]
  | .mp _, _, _ => by simp only [snapV, rel]
  | .i _ _, _, r => by simpa only [snapV, rel] using r
  | .b _, _, r => by simpa only [snapV, rel] using r
  | .v _, _, r => by simpa only [snapV, rel] using r
  | .u, _, r => by simpa only [snapV, rel] using r
  | .sl sz es, y, r => by
    have hle : (ctx inv M σ β w).Le ⟨inv, w, A', fun _ => none⟩ := ⟨rfl, Nat.le_refl _, fun _ _ _ => rfl, fun b _ h => .inl (hA b h)⟩
    simp only [snapV]
    exact rel_mono (N := 0) hle (.sl sz es) y (.inr rfl) r
  | .ip sz es i k, y, r => by
    have hle : (ctx inv M σ β w).Le ⟨inv, w, A', fun _ => none⟩ := ⟨rfl, Nat.le_refl _, fun _ _ _ => rfl, fun b _ h => .inl (hA b h)⟩
    simp only [snapV]
    exact rel_mono (N := 0) hle (.ip sz es i k) y (.inr rfl) r
  | .top, _, _ => by simp only [snapV, rel]
theorem snapL_rel (hm : Mem inv w0 M σ β w) (hM : ∀ b, M b → b < w0.heap.size) {A' : Nat → Prop} (hA : ∀ b, A' b → M b) {f : Nat → Option (List AV)} (hf : Snaps ⟨inv, w, A', fun _ => none⟩ σ β f) : ∀ (xs : List AV) (ys : List Value), relL (ctx inv M σ β w) xs ys → relL ⟨inv, w, A', fun _ => none⟩ (snapL f xs) ys
  | [], _, r => by simpa only [snapL, relL] using r
  | x :: xs, ys, r => by
    simp only [snapL, relL] at r ⊢
    obtain ⟨y, ys', e, r1, r2⟩ := r
    exact ⟨y, ys', e, snapV_rel hm hM hA hf x y r1, snapL_rel hm hM hA hf xs ys' r2⟩
theorem snapCs_rel (hm : Mem inv w0 M σ β w) (hM : ∀ b, M b → b < w0.heap.size) {A' : Nat → Prop} (hA : ∀ b, A' b → M b) {f : Nat → Option (List AV)} (hf : Snaps ⟨inv, w, A', fun _ => none⟩ σ β f) : ∀ (xs : List AV) (ys : List Value), relCs (ctx inv M σ β w) xs ys → relCs ⟨inv, w, A', fun _ => none⟩ (snapL f xs) ys
  | [], _, r => by simpa only [snapL, relCs] using r
  | x :: xs, ys, r => by
    simp only [snapL, relCs] at r ⊢
    obtain ⟨y, ys', e, ho, r1, r2⟩ := r
    exact ⟨y, ys', e, ho, snapV_rel hm hM hA hf x y r1, snapCs_rel hm hM hA hf xs ys' r2⟩
end

theorem snapF_ok (hm : Mem inv w0 M σ β w) (hM : ∀ b, M b → b < w0.heap.size) {A' : Nat → Prop} (hA : ∀ b, A' b → M b) : ∀ (k : Nat), Snaps ⟨inv, w, A', fun _ => none⟩ σ β (snapF k σ)
  | 0 => fun l cs' h => by simp [snapF] at h
  | k + 1 => fun l cs' h => by
    have ih := snapF_ok hm hM hA k
    simp only [snapF] at h
    split at h
    · rename_i cs r e
      simp only [Option.some.injEq] at h
      subst h
      refine ⟨cs, r, e, snapL_length _ _, snapL_bare ih cs, fun hr => ?_⟩
      subst hr
      obtain ⟨ys, _, h2, h3⟩ := hm.cell e
      exact ⟨ys, snapCs_rel hm hM hA ih cs ys h2, h3⟩
    · cases h

/-! ### contracts -/
/-- The function j, called with args whatever memory is: it makes new blocks alone, and what it hands back is R. -/
def PC (P : Program) (inv : Nat → Option Nat) (j : Nat) (args : List AV) (R : AV → Prop) : Prop :=
  ∀ g, inv g = some j → ∀ (M : Nat → Prop) (w : World) (vs : Array Value), (∀ b, M b → b < w.heap.size) → relL ⟨inv, w, M, fun _ => none⟩ args vs.toList →
    Calls P g vs w fun e w' => ∃ v r, e = .returned v ∧ R r ∧ Below w.heap.size w w' ∧ r.bare = true ∧ rel ⟨inv, w', M, fun _ => none⟩ r v

theorem PC.mono {j : Nat} {args : List AV} {R R' : AV → Prop} (h : PC P inv j args R) (hr : ∀ r, R r → R' r) : PC P inv j args R' :=
  fun g hg M w vs hM ha => (h g hg M w vs hM ha).mono fun _ _ ⟨v, r, e, h1, h2⟩ => ⟨v, r, e, hr r h1, h2⟩

theorem avoid_lt (hm : Mem inv w0 M σ β w) (hM : ∀ b, M b → b < w0.heap.size) : ∀ b, avoid M σ β b → b < w.heap.size := by
  rintro b (h | ⟨l, o, e, hr, rfl⟩)
  · exact Nat.lt_of_lt_of_le (hM b h) hm.below.size
  · exact (hm.own l o e hr).2

/-- A call by contract. -/
theorem PC.callK (hM : ∀ b, M b → b < w0.heap.size) {j : Nat} {args : List AV} {R : AV → Prop} (h : PC P inv j args R) {K : AV → AS → Prop} (hk : ∀ r, R r → K r σ) : CallK P inv w0 M N φ σ j args K := by
  refine ⟨mx N (fbound φ), le_mx_left _ _, le_mx_right _ _, fun g hg β w vs hm ha => ?_⟩
  have hle : (ctx inv M σ β w).Le ⟨inv, w, avoid M σ β, fun _ => none⟩ := ⟨rfl, Nat.le_refl _, fun _ _ _ => rfl, fun _ _ h => h⟩
  refine (h g hg (avoid M σ β) w vs (avoid_lt hm hM) (relL_mono (N := 0) hle _ _ (.inr rfl) ha)).mono ?_
  rintro e w' ⟨v, r, rfl, hr, hb, hbare, hrel⟩
  have hc := hm.call hb (mx N (fbound φ))
  exact ⟨v, r, σ, β, rfl, hk r hr, hc.1, hc.2, rel_bare (S := place β w' σ) r v hbare hrel⟩
/-- A call by contract, of what lies in named rows as it is now; what comes back bears no memory. -/
theorem PC.snapK (hM : ∀ b, M b → b < w0.heap.size) (k : Nat) {j : Nat} {args : List AV} {R : AV → Prop} (h : PC P inv j (snaps k σ args) R) {K : AV → AS → Prop} (hk : ∀ r, R r → r.scalar = true ∧ K r σ) : CallK P inv w0 M N φ σ j args K := by
  refine ⟨mx N (fbound φ), le_mx_left _ _, le_mx_right _ _, fun g hg β w vs hm ha => ?_⟩
  have hf := snapF_ok hm hM (A' := fun _ => False) (fun _ h => h.elim) k
  refine (h g hg (fun _ => False) w vs (fun _ h => h.elim) (snapL_rel hm hM (fun _ h => h.elim) hf _ _ ha)).mono ?_
  rintro e w' ⟨v, r, rfl, hr, hb, hbare, hrel⟩
  have hc := hm.call hb (mx N (fbound φ))
  exact ⟨v, r, σ, β, rfl, (hk r hr).2, hc.1, hc.2, scalar_rel r v (hk r hr).1 hrel⟩

/-! ### functions -/
theorem results_sound (hs : Knows inv w0 M φ σ β a w) : ∀ {l : List ResultVar} {rs : List ARes} {xs : List AV}, cres P l = some rs → aresL φ σ rs = some xs →
    ∃ ys : List Value, relL (ctx inv M σ β w) xs ys ∧ (l.mapM fun
      | .tmp t => pure (a.tmps.getD t undef)
      | .cell ad t => do loadVar t (← asAddr (a.tmps.getD ad undef)) : Sem (List Value)).run P w = .ok ys w
  | [], rs, xs, h, hx => by
    simp only [cres, Option.some.injEq] at h
    subst h
    simp only [aresL, Option.some.injEq] at hx
    subst hx
    exact ⟨[], relL_nil, rfl⟩
  | .tmp t :: l, rs, xs, h, hx => by
    simp only [cres] at h
    obtain ⟨rs', h1, rfl⟩ := Option.map_eq_some_iff.1 h
    simp only [aresL, ares] at hx
    split at hx
    · rename_i x xs' e1 e2
      simp only [Option.some.injEq] at hx e1
      subst hx e1
      obtain ⟨ys, h2, h3⟩ := results_sound hs h1 e2
      exact ⟨_, relL_cons (hs.slots t) h2, by simp only [List.mapM_cons, Sem.run_bind, Sem.run_pure, Result.andThen_ok, h3]⟩
    · cases hx
  | .cell ad t :: l, rs, xs, h, hx => by
    simp only [cres] at h
    split at h
    · rename_i lo rs' h0 h1
      simp only [Option.some.injEq] at h
      subst h
      simp only [aresL, ares] at hx
      split at hx
      · rename_i x xs' e1 e2
        simp only [Option.some.injEq] at hx
        subst hx
        obtain ⟨ys, h2, h3⟩ := results_sound hs h1 e2
        obtain ⟨u, k1, k2⟩ := aload_sound hs h0 (hs.slots ad) e1
        have hp : ∃ pa, a.tmps.getD ad undef = .pointer (some pa) := by
          revert k2
          cases a.tmps.getD ad undef with
          | pointer pa => cases pa <;> simp [Instr.loadAt, Instr.sureAddr]
          | _ => simp [Instr.loadAt, Instr.sureAddr]
        obtain ⟨pa, hpa⟩ := hp
        have k3 : (loadVar t pa).run P w = .ok u w := by
          rw [hpa] at k2
          simpa [Instr.loadAt, Instr.sureAddr] using k2
        refine ⟨u :: ys, relL_cons k1 h2, ?_⟩
        have ha : (asAddr (a.tmps.getD ad undef)).run P w = .ok pa w := by rw [hpa]; rfl
        simp only [List.mapM_cons, Sem.run_bind, ha, Sem.run_pure, Result.andThen_ok, k3, h3]
      · cases hx
    · cases h

theorem fnRes_sound (hs : Knows inv w0 M φ σ β a w) {fn : Func} {rs : List ARes} {x : AV} (h : cres P fn.results.toList = some rs) (hx : fnRes φ σ rs = some x) : ∃ y, rel (ctx inv M σ β w) x y ∧ (results fn a.tmps).run P w = .ok y w := by
  have key : ∀ {xs : List AV}, aresL φ σ rs = some xs → ∃ ys : List Value, relL (ctx inv M σ β w) xs ys ∧ (results fn a.tmps).run P w = .ok (if h : ys.toArray.size = 1 then ys.toArray[0] else .tuple ys.toArray) w := by
    intro xs hxs
    obtain ⟨ys, h1, h2⟩ := results_sound hs h hxs
    refine ⟨ys, h1, ?_⟩
    unfold results
    rw [Sem.run_bind, Array.mapM_eq_mapM_toList, Sem.run_map]
    erw [h2]
    rfl
  unfold fnRes at hx
  split at hx
  · rename_i e
    simp only [Option.some.injEq] at hx
    subst hx
    obtain ⟨ys, h1, h2⟩ := key e
    simp only [relL] at h1
    obtain ⟨y, ys', rfl, h3, rfl⟩ := h1
    exact ⟨y, h3, h2⟩
  · rename_i hne e
    simp only [Option.some.injEq] at hx
    subst hx
    obtain ⟨ys, h1, h2⟩ := key e
    have hlen : ys.length ≠ 1 := by
      intro h1l
      obtain ⟨x, hx⟩ := List.length_eq_one_iff.1 ((relL_length h1).trans h1l)
      exact hne x (by rw [hx])
    refine ⟨.tuple ys.toArray, by simp only [rel]; exact ⟨_, rfl, by simpa using h1⟩, ?_⟩
    rw [h2, dif_neg (by simpa using hlen)]
  · cases hx

theorem argF_get : ∀ (args : List AV) (k i : Nat), fget (argF k args) i = if k ≤ i then (args[i - k]?).getD .top else .top
  | [], k, i => by simp [argF, fget]
  | x :: xs, k, i => by
    simp only [argF, fget, argF_get xs (k + 1) i]
    by_cases h : i = k
    · subst h; simp
    · rw [if_neg h]
      by_cases h2 : k + 1 ≤ i
      · rw [if_pos h2, if_pos (by omega), show i - k = (i - (k + 1)) + 1 by omega]; simp
      · rw [if_neg h2, if_neg (by omega)]

/-- What a function's end must bear. -/
def FnPost (res : List ARes) (R : AV → AS → Prop) : Exit → AF → AS → Prop
  | .normal, φ, σ => ∃ r, fnRes φ σ res = some r ∧ R r σ
  | .ret, φ, σ => ∃ r, fnRes φ σ res = some r ∧ R r σ
  | _, _, _ => False

/-- A call, by going in. -/
theorem AC.body {j : Nat} {F : AFn} (hF : Has P inv j F) {args : List AV} {R : AV → AS → Prop} (hl : args.length ≤ F.ntmps) (h : AWp P inv w0 M N F.ntmps F.body (FnPost F.res R) (argF 0 args) σ) : AC P inv w0 M N j args σ R := by
  intro g hg β w vs hm ha
  obtain ⟨fn, hf, hc⟩ := hF g hg
  unfold compileFn at hc
  split at hc
  · rename_i c rs hb hrs
    obtain ⟨ac, h1, h2⟩ := Option.map_eq_some_iff.1 hc
    subst h2
    have hlen := relL_length ha
    have hvs : vs.size ≤ fn.ntmps := by have : args.length ≤ fn.ntmps := hl; rw [hlen] at this; simpa using this
    refine calls_of_wp hf hb ?_
    have hst : St inv w0 M fn.ntmps (argF 0 args) σ β { tmps := vs ++ Array.replicate (fn.ntmps - vs.size) undef, defers := [] } w := by
      refine ⟨⟨fun i => ?_, hm⟩, by simp; omega, rfl⟩
      rw [argF_get]
      simp only [Nat.zero_le, if_true, Nat.sub_zero]
      cases e : args[i]? with
      | none => simp only [Option.getD_none, rel]
      | some x =>
        obtain ⟨y, k1, k2⟩ := relL_get ha e
        have hi : i < vs.size := by
          have := (List.getElem?_eq_some_iff.1 k1).1
          simpa using this
        have hy : vs[i]? = some y := by simpa using k1
        have : (vs ++ Array.replicate (fn.ntmps - vs.size) undef).getD i undef = y := by
          rw [Array.getD_eq_getD_getElem?, Array.getElem?_append_left hi, hy]; rfl
        rw [this]
        exact k2
    refine Code.wp_mono ?_ (h c h1 β _ w hst)
    rintro e a' w' ⟨φ', σ', β', q, hst', hext⟩
    cases e with
    | normal =>
      obtain ⟨r, hr, hR⟩ := q
      obtain ⟨y, k1, k2⟩ := fnRes_sound hst'.toKnows hrs hr
      exact ⟨hst'.defers, y, k2, y, r, σ', β', rfl, hR, hst'.mem, hext, k1⟩
    | ret =>
      obtain ⟨r, hr, hR⟩ := q
      obtain ⟨y, k1, k2⟩ := fnRes_sound hst'.toKnows hrs hr
      exact ⟨hst'.defers, y, k2, y, r, σ', β', rfl, hR, hst'.mem, hext, k1⟩
    | exit id => exact q.elim
    | goto l => exact q.elim
    | panic ch => exact q.elim
    | outgrown => exact q.elim
  · cases hc
theorem AC.callK {j : Nat} {args : List AV} {K : AV → AS → Prop} (N' : Nat) (hN : N ≤ N') (hφ : fbound φ ≤ N') (h : AC P inv w0 M N' j args σ K) : CallK P inv w0 M N φ σ j args K := ⟨N', hN, hφ, h⟩

/-- A contract, from the function's code. -/
theorem PC.intro {j : Nat} {F : AFn} (hF : Has P inv j F) {args : List AV} {R : AV → Prop} (hl : args.length ≤ F.ntmps)
    (h : ∀ (w0 : World) (M : Nat → Prop), (∀ b, M b → b < w0.heap.size) → AWp P inv w0 M 0 F.ntmps F.body (FnPost F.res fun r σ => R (snap 4 σ r)) (argF 0 args) []) : PC P inv j args R := by
  intro g hg M w vs hM ha
  have hm : Mem inv w M [] (fun _ => 0) w := ⟨.refl _ _, by intro l l' o o' e; simp [sget] at e, by intro l o e; simp [sget] at e, by intro l cs e; simp [sget] at e, by intro l cs e; simp [sget] at e, by intro l kvs e; simp [sget] at e⟩
  have hle : (⟨inv, w, M, fun _ => none⟩ : Ctx).Le (ctx inv M [] (fun _ => 0) w) := ⟨rfl, Nat.le_refl _, fun _ _ _ => rfl, fun b _ h => by
    rcases h with h | ⟨l, o, e, _⟩
    · exact h
    · simp [sget] at e⟩
  have hS : (ctx inv M [] (fun _ => 0) w).S = fun _ => none := by funext l; simp [ctx, place, sget]
  refine (AC.body hF hl (h w M hM) g hg (fun _ => 0) w vs hm (relL_mono (N := 0) hle _ _ (.inr hS) ha)).mono ?_
  rintro e w' ⟨v, r, σ', β', rfl, hR, hm', _, hr⟩
  have hf := snapF_ok hm' hM (A' := M) (fun _ h => h) 4
  exact ⟨v, _, rfl, hR, hm'.below, snapV_bare hf r, snapV_rel hm' hM (fun _ h => h) hf r v hr⟩
end
end Go.Eng
