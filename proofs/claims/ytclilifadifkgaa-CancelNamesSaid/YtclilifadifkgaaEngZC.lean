/-
  THE ENGINE, PART ZC: an evaluator: code, calls; what is reckoned is so.
-/
import Derived.Test.YtclilifadifkgaaEngZB
namespace Go.Eng
open Go.RowKit

/-! ### what a call made itself -/
mutual
def AV.own : AV → Bool
  | .agg cs => AV.ownL cs
  | .tup cs => AV.ownL cs
  | .fn _ cs => AV.ownL cs
  | .i _ _ => true | .b _ => true | .v _ => true | .u => true | .s0 _ => true | .ptr _ _ _ => true | .sm _ _ _ _ _ => true | .mp _ => true | .top => true
  | .sl _ es => es.isEmpty
  | .ip _ _ _ _ => false
def AV.ownL : List AV → Bool
  | [] => true
  | x :: xs => x.own && AV.ownL xs
end
def snapOF : Nat → AS → Nat → Option (List AV)
  | 0, _, _ => none
  | k + 1, σ, l => match sget σ l with
    | some (.cells cs _) => if AV.ownL cs = true then some (snapL (snapOF k σ) cs) else none
    | _ => none
section
variable {P : Program} {inv : Nat → Option Nat} {w0 : World} {M : Nat → Prop} {n N : Nat} {φ : AF} {σ : AS} {β : Nat → Nat} {a : Act} {w : World}
mutual
theorem snapV_own (hm : Mem inv w0 M σ β w) {f : Nat → Option (List AV)} (hf : Snaps ⟨inv, w, fun b => b < w0.heap.size, fun _ => none⟩ σ β f) : ∀ (x : AV) (y : Value), x.own = true → rel (ctx inv M σ β w) x y → rel ⟨inv, w, fun b => b < w0.heap.size, fun _ => none⟩ (snapV f x) y
  | .agg cs, y, ho0, r => by
    simp only [snapV, rel] at r ⊢
    obtain ⟨xs, e, r⟩ := r
    exact ⟨xs, e, snapCs_own hm hf cs _ (by simpa only [AV.own] using ho0) r⟩
  | .tup cs, y, ho0, r => by
    simp only [snapV, rel] at r ⊢
    obtain ⟨xs, e, r⟩ := r
    exact ⟨xs, e, snapL_own hm hf cs _ (by simpa only [AV.own] using ho0) r⟩
  | .fn j cs, y, ho0, r => by
    simp only [snapV, rel] at r ⊢
    obtain ⟨g, xs, e, hi, r⟩ := r
    exact ⟨g, xs, e, hi, snapL_own hm hf cs _ (by simpa only [AV.own] using ho0) r⟩
  | .s0 sz, y, ho0, r => by
    simp only [snapV, rel] at r ⊢
    obtain ⟨ad, e⟩ := r
    exact ⟨ad, 0, e, Nat.le_refl _, fun h => absurd rfl h⟩
  | .ptr l ver off, y, ho0, r => by
    simp only [snapV]
    split
    · rename_i cs' e
      split
      · rename_i hl
        obtain ⟨cs, rl, hg, h1, h2, h3⟩ := hf l cs' e
        have hlive : live σ l ver := by unfold live; rw [hg]; show cs.length = ver; omega
        obtain ⟨p, hp, _, rfl⟩ := ptr_live hlive r
        have hrl : rl = true := by
          cases rl with
          | true => rfl
          | false => have := hm.ghost l cs hg; subst this; simp only [List.length_nil] at h1; omega
        subst hrl
        obtain ⟨ys, h4, h5⟩ := h3 rfl
        have hpb : p.block = β l := by unfold place at hp; rw [hg] at hp; cases hp; rfl
        have hown := hm.own l _ hg rfl
        simp only [rel]
        refine ⟨⟨β l, 0, none⟩, by simp [addr_add, hpb], fun ha => by have := hown.1; simp only at ha; omega, hown.2, ?_⟩
        simp only [relRows, and_true]
        refine ⟨hl.1, relRow_of h2 h4 fun j u hu => ?_⟩
        rw [addr_add]
        have := h5 j u hu
        simpa using this
      · simp only [rel]
    · simp only [rel]
  | .sm l ver off m sz, y, ho0, r => by
    simp only [snapV]
    split
    · rename_i cs' e
      split
      · rename_i hl
        obtain ⟨cs, rl, hg, h1, h2, h3⟩ := hf l cs' e
        have hlive : live σ l ver := by unfold live; rw [hg]; show cs.length = ver; omega
        obtain ⟨p, ad, cap, hp, hv, hb, rfl, hcap, hr⟩ := sm_live hlive r
        simp only [rel]
        refine ⟨ad, cap, by rw [chunks_length], by rw [chunks_length]; exact hcap, fun hne => ?_⟩
        have hm0 : 0 < m := by
          rcases Nat.eq_zero_or_pos m with e0 | e0
          · subst e0; exact absurd rfl hne
          · exact e0
        have hrl : rl = true := by
          cases rl with
          | true => rfl
          | false => unfold place at hp; rw [hg] at hp; cases hp; simp at hr; omega
        subst hrl
        have hpe : p = ⟨β l, cs.length, blockSize w (β l), true⟩ := by unfold place at hp; rw [hg] at hp; cases hp; rfl
        subst hpe
        simp only [if_true] at hr
        obtain ⟨ys, h4, h5⟩ := h3 rfl
        have hown := hm.own l _ hg rfl
        refine ⟨_, hr.1.resolve_left (by omega), fun ha => by have := hown.1; simp only at ha; omega, hown.2, ?_⟩
        refine relRows_chunks m (by rw [List.length_drop]; omega) (bareL_drop _ _ h2) (relCs_drop off h4) fun j u hu => ?_
        rw [addr_add, Nat.zero_add]
        rw [List.getElem?_drop] at hu
        exact h5 _ u hu
      · simp only [rel]
    · simp only [rel]
  | .mp _, _, _, _ => by simp only [snapV, rel]
  | .i _ _, _, _, r => by simpa only [snapV, rel] using r
  | .b _, _, _, r => by simpa only [snapV, rel] using r
  | .v _, _, _, r => by simpa only [snapV, rel] using r
  | .u, _, _, r => by simpa only [snapV, rel] using r
  | .sl sz es, y, ho0, r => by
    simp only [AV.own, List.isEmpty_iff] at ho0
    subst ho0
    simp only [snapV, rel] at r ⊢
    obtain ⟨ad, cap, e, h, _⟩ := r
    exact ⟨ad, cap, e, h, fun h => absurd rfl h⟩
  | .ip sz es i k, y, ho0, r => by simp [AV.own] at ho0
  | .top, _, _, _ => by simp only [snapV, rel]
theorem snapL_own (hm : Mem inv w0 M σ β w) {f : Nat → Option (List AV)} (hf : Snaps ⟨inv, w, fun b => b < w0.heap.size, fun _ => none⟩ σ β f) : ∀ (xs : List AV) (ys : List Value), AV.ownL xs = true → relL (ctx inv M σ β w) xs ys → relL ⟨inv, w, fun b => b < w0.heap.size, fun _ => none⟩ (snapL f xs) ys
  | [], _, _, r => by simpa only [snapL, relL] using r
  | x :: xs, ys, ho0, r => by
    simp only [AV.ownL, Bool.and_eq_true] at ho0
    simp only [snapL, relL] at r ⊢
    obtain ⟨y, ys', e, r1, r2⟩ := r
    exact ⟨y, ys', e, snapV_own hm hf x y ho0.1 r1, snapL_own hm hf xs ys' ho0.2 r2⟩
theorem snapCs_own (hm : Mem inv w0 M σ β w) {f : Nat → Option (List AV)} (hf : Snaps ⟨inv, w, fun b => b < w0.heap.size, fun _ => none⟩ σ β f) : ∀ (xs : List AV) (ys : List Value), AV.ownL xs = true → relCs (ctx inv M σ β w) xs ys → relCs ⟨inv, w, fun b => b < w0.heap.size, fun _ => none⟩ (snapL f xs) ys
  | [], _, _, r => by simpa only [snapL, relCs] using r
  | x :: xs, ys, ho0, r => by
    simp only [AV.ownL, Bool.and_eq_true] at ho0
    simp only [snapL, relCs] at r ⊢
    obtain ⟨y, ys', e, ho, r1, r2⟩ := r
    exact ⟨y, ys', e, ho, snapV_own hm hf x y ho0.1 r1, snapCs_own hm hf xs ys' ho0.2 r2⟩
end

theorem snapOF_ok (hm : Mem inv w0 M σ β w) : ∀ (k : Nat), Snaps ⟨inv, w, fun b => b < w0.heap.size, fun _ => none⟩ σ β (snapOF k σ)
  | 0 => fun l cs' h => by simp [snapOF] at h
  | k + 1 => fun l cs' h => by
    have ih := snapOF_ok hm k
    simp only [snapOF] at h
    split at h
    · rename_i cs r e
      split at h
      · rename_i hown
        simp only [Option.some.injEq] at h
        subst h
        refine ⟨cs, r, e, snapL_length _ _, snapL_bare ih cs, fun hr => ?_⟩
        subst hr
        obtain ⟨ys, _, h2, h3⟩ := hm.cell e
        exact ⟨ys, snapCs_own hm ih cs ys hown h2, h3⟩
      · cases h
    · cases h
/-- The function j, called with args whatever memory is: it makes new blocks alone; what it hands back is r, and lies in those. -/
def PF (P : Program) (inv : Nat → Option Nat) (j : Nat) (args : List AV) (r : AV) : Prop :=
  ∀ g, inv g = some j → ∀ (w : World) (vs : Array Value), relL ⟨inv, w, fun _ => False, fun _ => none⟩ args vs.toList →
    Calls P g vs w fun e w' => ∃ v, e = .returned v ∧ Below w.heap.size w w' ∧ r.bare = true ∧ rel ⟨inv, w', fun b => b < w.heap.size, fun _ => none⟩ r v
theorem PF.intro {j : Nat} {F : AFn} (hF : Has P inv j F) {args : List AV} {r : AV} (hl : args.length ≤ F.ntmps)
    (h : ∀ (w0 : World), AWp P inv w0 (fun _ => False) 0 F.ntmps F.body (FnPost F.res fun r0 σ => r0.own = true ∧ snapV (snapOF 4 σ) r0 = r) (argF 0 args) []) : PF P inv j args r := by
  intro g hg w vs ha
  have hm : Mem inv w (fun _ => False) [] (fun _ => 0) w := ⟨.refl _ _, by intro l l' o o' e; simp [sget] at e, by intro l o e; simp [sget] at e, by intro l cs e; simp [sget] at e, by intro l cs e; simp [sget] at e, by intro l kvs e; simp [sget] at e⟩
  have hle : (⟨inv, w, fun _ => False, fun _ => none⟩ : Ctx).Le (ctx inv (fun _ => False) [] (fun _ => 0) w) := ⟨rfl, Nat.le_refl _, fun _ _ _ => rfl, fun b _ h => by
    rcases h with h | ⟨l, o, e, _⟩
    · exact h
    · simp [sget] at e⟩
  have hS : (ctx inv (fun _ => False) [] (fun _ => 0) w).S = fun _ => none := by funext l; simp [ctx, place, sget]
  refine (AC.body hF hl (h w) g hg (fun _ => 0) w vs hm (relL_mono (N := 0) hle _ _ (.inr hS) ha)).mono ?_
  rintro e w' ⟨v, r0, σ', β', rfl, ⟨h1, h2⟩, hm', _, hr⟩
  have hf := snapOF_ok hm' 4
  subst h2
  exact ⟨v, rfl, hm'.below, snapV_bare hf r0, snapV_own hm' hf r0 v h1 hr⟩
theorem PF.of_pc {j : Nat} {args : List AV} {r : AV} (hs : r.scalar = true) (h : PC P inv j args (· = r)) : PF P inv j args r := by
  intro g hg w vs ha
  refine (h g hg (fun _ => False) w vs (fun _ h => h.elim) ha).mono ?_
  rintro e w' ⟨v, r', rfl, rfl, hb, hbare, hrel⟩
  exact ⟨v, rfl, hb, hbare, scalar_rel _ v hs hrel⟩
theorem PF.AC (hM : ∀ b, M b → b < w0.heap.size) (k : Nat) {σ0 : AS} (h0 : ∀ l o, sget σ0 l = some o → sget σ l = some o) {j : Nat} {args : List AV} {r : AV} (h : PF P inv j (snaps k σ0 args) r) : Go.Eng.AC P inv w0 M N j args σ (fun r' σ' => r' = r ∧ σ' = σ) := by
  intro g hg β w vs hm ha
  have hd := hm.drop h0 (AV.boundL args)
  have hf := snapF_ok hd.1 hM (A' := fun _ => False) (fun _ h => h.elim) k
  have ha' := hd.2.relL (underL_of_bound args (Nat.le_refl _)) ha
  refine (h g hg w vs (snapL_rel hd.1 hM (fun _ h => h.elim) hf _ _ ha')).mono ?_
  rintro e w' ⟨v, rfl, hb, hbare, hrel⟩
  have hc := hm.call hb N
  refine ⟨v, r, σ, β, rfl, ⟨rfl, rfl⟩, hc.1, hc.2, ?_⟩
  have hle : (⟨inv, w', fun b => b < w.heap.size, fun _ => none⟩ : Ctx).Le { ctx inv M σ β w' with S := fun _ => none } := ⟨rfl, Nat.le_refl _, fun _ _ _ => rfl, fun b _ h => by
    rcases h with h | ⟨l, o, e, hr, rfl⟩
    · exact Nat.lt_of_lt_of_le (hM b h) hm.below.size
    · exact (hm.own l o e hr).2⟩
  exact rel_bare (S := place β w' σ) r v hbare (rel_mono (N := 0) hle r v (.inr rfl) hrel)
end

section
variable {P : Program} {inv : Nat → Option Nat} {w0 : World} {M : Nat → Prop} {N n : Nat} {φ : AF} {σ : AS}

/-! ### calls -/
theorem AC.mono {j : Nat} {args : List AV} {R R' : AV → AS → Prop} (h : AC P inv w0 M N j args σ R) (hr : ∀ r σ', R r σ' → R' r σ') : AC P inv w0 M N j args σ R' := by
  intro g hg β w vs hm hv
  refine (h g hg β w vs hm hv).mono ?_
  rintro e w' ⟨v, r, σ', β', k1, k2, k3⟩
  exact ⟨v, r, σ', β', k1, hr _ _ k2, k3⟩
/-- What is left behind may be forgotten. -/
theorem AC.drop {j : Nat} {args : List AV} {R R' : AV → AS → Prop} (h : AC P inv w0 M N j args σ R) (hr : ∀ r σ', R r σ' → ∃ σ'', R' r σ'' ∧ ∀ l o, sget σ'' l = some o → sget σ' l = some o) : AC P inv w0 M N j args σ R' := by
  intro g hg β w vs hm hv
  refine (h g hg β w vs hm hv).mono ?_
  rintro e w' ⟨v, r, σ', β', k1, k2, k3, k4, k5⟩
  obtain ⟨σ'', h1, h2⟩ := hr r σ' k2
  exact ⟨v, r, σ'', β', k1, h1, (k3.drop h2 N).1, k4.trans (k3.drop h2 N).2, (k3.drop h2 r.bound).2.rel (under_of_bound r (Nat.le_refl _)) k5⟩
/-- A row is held by its first cells alone, under another name. -/
theorem Mem.trunc {β : Nat → Nat} {w : World} {l l' k : Nat} {cs : List AV} (h : Mem inv w0 M σ β w) (hg : sget σ l = some (.cells cs true)) (hl : sbound σ ≤ l') (hk : k ≤ cs.length) {N1 : Nat} (hN : N1 ≤ l') :
    Mem inv w0 M (sput (sdel σ l) l' (.cells (cs.take k) true)) (upd β l' (β l)) w ∧ Ext N1 (ctx inv M σ β w) (ctx inv M (sput (sdel σ l) l' (.cells (cs.take k) true)) (upd β l' (β l)) w) ∧
      place (upd β l' (β l)) w (sput (sdel σ l) l' (.cells (cs.take k) true)) l' = some ⟨β l, k, blockSize w (β l), true⟩ := by
  have hno : ∀ l2 o, sget σ l2 = some o → l2 ≠ l' := fun l2 o e e' => by have := (sbound_get σ l2 o e).1; omega
  have hget : ∀ l2 o, l2 ≠ l' → sget (sput (sdel σ l) l' (.cells (cs.take k) true)) l2 = some o → l2 ≠ l ∧ sget σ l2 = some o := by
    intro l2 o hne e
    rw [sget_sput, if_neg hne, sget_sdel] at e
    split at e
    · cases e
    · exact ⟨by assumption, e⟩
  have hself : sget (sput (sdel σ l) l' (.cells (cs.take k) true)) l' = some (.cells (cs.take k) true) := by rw [sget_sput, if_pos rfl]
  have hpl : place (upd β l' (β l)) w (sput (sdel σ l) l' (.cells (cs.take k) true)) l' = some ⟨β l, k, blockSize w (β l), true⟩ := by
    unfold place
    rw [hself]
    simp [upd_same, Nat.min_eq_left hk]
  have hx : ∀ N1, N1 ≤ l' → Ext N1 (ctx inv M σ β w) (ctx inv M (sput (sdel σ l) l' (.cells (cs.take k) true)) (upd β l' (β l)) w) := by
    intro N1 hN
    refine ⟨⟨rfl, Nat.le_refl _, fun _ _ _ => rfl, fun b _ hA => ?_⟩, fun l2 hl2 p' hp' => ?_⟩
    · rcases hA with hm | ⟨l2, o, e, hr, hb⟩
      · exact .inl hm
      · by_cases hne : l2 = l'
        · subst hne
          rw [upd_same] at hb
          exact .inr ⟨l, _, hg, rfl, hb⟩
        · rw [upd_other β _ hne] at hb
          exact .inr ⟨l2, o, (hget l2 o hne e).2, hr, hb⟩
    · have hne : l2 ≠ l' := by omega
      refine ⟨p', ?_, Nat.le_refl _, fun _ => rfl⟩
      have hp2 : place (upd β l' (β l)) w (sput (sdel σ l) l' (.cells (cs.take k) true)) l2 = some p' := hp'
      show place β w σ l2 = some p'
      unfold place at hp2 ⊢
      cases e : sget (sput (sdel σ l) l' (.cells (cs.take k) true)) l2 with
      | none => rw [e] at hp2; cases hp2
      | some o => rw [e] at hp2; rw [(hget l2 o hne e).2]; simpa only [upd_other β _ hne] using hp2
  refine ⟨⟨h.below, fun l1 l2 o1 o2 e1 e2 r1 r2 he => ?_, fun l1 o1 e1 r1 => ?_, fun l1 cs1 e1 => ?_, fun l1 cs1 e1 => ?_, fun l1 kvs e1 => ?_⟩, hx N1 hN, hpl⟩
  · by_cases h1 : l1 = l' <;> by_cases h2 : l2 = l'
    · rw [h1, h2]
    · rw [h1, upd_same, upd_other β _ h2] at he
      obtain ⟨q1, q2⟩ := hget l2 o2 h2 e2
      exact absurd (h.inj l l2 _ o2 hg q2 rfl r2 he).symm q1
    · rw [h2, upd_same, upd_other β _ h1] at he
      obtain ⟨q1, q2⟩ := hget l1 o1 h1 e1
      exact absurd (h.inj l1 l o1 _ q2 hg r1 rfl he) q1
    · rw [upd_other β _ h1, upd_other β _ h2] at he
      exact h.inj l1 l2 o1 o2 (hget l1 o1 h1 e1).2 (hget l2 o2 h2 e2).2 r1 r2 he
  · by_cases h1 : l1 = l'
    · rw [h1, upd_same]; exact h.own l _ hg rfl
    · rw [upd_other β _ h1]; exact h.own l1 o1 (hget l1 o1 h1 e1).2 r1
  · by_cases h1 : l1 = l'
    · rw [h1, hself] at e1
      simp only [Option.some.injEq, AO.cells.injEq, and_true] at e1
      subst e1
      rw [h1, upd_same]
      obtain ⟨xs, ty, q1, q2, q3⟩ := h.cells l cs hg
      refine ⟨xs, ty, q1, by rw [List.length_take]; omega, ?_⟩
      have hb : AV.boundL (cs.take k) ≤ l' := boundL_of fun x hx => Nat.le_trans (boundL_sub (sbound_get σ l _ hg).2 x (List.mem_of_mem_take hx)) hl
      refine (hx l' (Nat.le_refl _)).relCs (underL_of_bound _ hb) ?_
      have := relCs_take k q3
      rw [List.take_take, Nat.min_eq_left hk] at this
      rw [List.length_take, Nat.min_eq_left hk]
      exact this
    · rw [upd_other β _ h1]
      obtain ⟨q1, q2⟩ := hget l1 _ h1 e1
      obtain ⟨xs, ty, q3, q4, q5⟩ := h.cells l1 cs1 q2
      exact ⟨xs, ty, q3, q4, (hx l' (Nat.le_refl _)).relCs (underL_of_bound _ (Nat.le_trans (sbound_get σ l1 _ q2).2 hl)) q5⟩
  · by_cases h1 : l1 = l'
    · rw [h1, hself] at e1; simp at e1
    · exact h.ghost l1 cs1 (hget l1 _ h1 e1).2
  · by_cases h1 : l1 = l'
    · rw [h1, hself] at e1; simp at e1
    · rw [upd_other β _ h1]; exact h.maps l1 kvs (hget l1 _ h1 e1).2
def truncE (N : Nat) (r : AV) (σ : List (Nat × AO)) : AV × List (Nat × AO) :=
  match r with
  | .sm l ver off n sz => match sget σ l with
    | some (.cells cs true) => if Nat.blt l N = false ∧ off = 0 ∧ n * sz < ver ∧ cs.length = ver then (.sm (mx N (sbound σ)) (n * sz) 0 n sz, sput (sdel σ l) (mx N (sbound σ)) (.cells (cs.take (n * sz)) true)) else (r, σ)
    | _ => (r, σ)
  | _ => (r, σ)
theorem AC.trunc {j : Nat} {args : List AV} {R R' : AV → AS → Prop} (h : AC P inv w0 M N j args σ R) (hr : ∀ r σ', R r σ' → R' (truncE N r σ').1 (truncE N r σ').2) : AC P inv w0 M N j args σ R' := by
  intro g hg β w vs hm hv
  refine (h g hg β w vs hm hv).mono ?_
  rintro e w' ⟨v, r, σ', β', k1, k2, k3, k4, k5⟩
  have h1 := hr r σ' k2
  unfold truncE at h1
  split at h1
  · rename_i l ver off n sz
    split at h1
    · rename_i cs hgl
      split at h1
      · rename_i hc
        obtain ⟨_, rfl, c1, c2⟩ := hc
        have ht := k3.trunc (l := l) (l' := mx N (sbound σ')) (k := n * sz) hgl (le_mx_right _ _) (by omega) (N1 := N) (le_mx_left _ _)
        refine ⟨v, _, _, _, k1, h1, ht.1, k4.trans ht.2.1, ?_⟩
        have hlive : live σ' l ver := by unfold live; rw [hgl]; exact c2
        obtain ⟨p, ad, cap, hp, hv', hb, rfl, hcap, hreal⟩ := sm_live hlive k5
        have hpe : p = ⟨β' l, cs.length, blockSize w' (β' l), true⟩ := by unfold place at hp; rw [hgl] at hp; cases hp; rfl
        subst hpe
        simp only [if_true] at hreal
        simp only [rel]
        refine ⟨rfl, fun p' hp' => ?_⟩
        have : p' = ⟨β' l, n * sz, blockSize w' (β' l), true⟩ := by have := (show place _ _ _ _ = some p' from hp').symm.trans ht.2.2; simpa using this
        subst this
        exact ⟨Nat.le_refl _, fun _ => ⟨by omega, ad, cap, rfl, hcap, by simpa using hreal⟩⟩
      · exact ⟨v, _, σ', β', k1, h1, k3, k4, k5⟩
    · exact ⟨v, _, σ', β', k1, h1, k3, k4, k5⟩
  · exact ⟨v, _, σ', β', k1, h1, k3, k4, k5⟩

/-- A call by contract, of what lies in some of the named rows as it is now. -/
theorem PC.snapAC (hM : ∀ b, M b → b < w0.heap.size) (k : Nat) {σ0 : AS} (h0 : ∀ l o, sget σ0 l = some o → sget σ l = some o) {j : Nat} {args : List AV} {R : AV → Prop} (h : PC P inv j (snaps k σ0 args) R) {K : AV → AS → Prop} (hk : ∀ r, R r → r.scalar = true ∧ K r σ) : AC P inv w0 M N j args σ K := by
  intro g hg β w vs hm ha
  have hd := hm.drop h0 (AV.boundL args)
  have hf := snapF_ok hd.1 hM (A' := fun _ => False) (fun _ h => h.elim) k
  have ha' := hd.2.relL (underL_of_bound args (Nat.le_refl _)) ha
  refine (h g hg (fun _ => False) w vs (fun _ h => h.elim) (snapL_rel hd.1 hM (fun _ h => h.elim) hf _ _ ha')).mono ?_
  rintro e w' ⟨v, r, rfl, hr, hb, hbare, hrel⟩
  have hc := hm.call hb N
  exact ⟨v, r, σ, β, rfl, (hk r hr).2, hc.1, hc.2, scalar_rel r v (hk r hr).1 hrel⟩

theorem PC.bareAC (hM : ∀ b, M b → b < w0.heap.size) {j : Nat} {args : List AV} {R : AV → Prop} (h : PC P inv j args R) {K : AV → AS → Prop} (hk : ∀ r, R r → K r σ) : AC P inv w0 M N j args σ K := by
  intro g hg β w vs hm ha
  have hle : (ctx inv M σ β w).Le ⟨inv, w, avoid M σ β, fun _ => none⟩ := ⟨rfl, Nat.le_refl _, fun _ _ _ => rfl, fun _ _ h => h⟩
  refine (h g hg (avoid M σ β) w vs (avoid_lt hm hM) (relL_mono (N := 0) hle _ _ (.inr rfl) ha)).mono ?_
  rintro e w' ⟨v, r, rfl, hr, hb, hbare, hrel⟩
  have hc := hm.call hb N
  exact ⟨v, r, σ, β, rfl, hk r hr, hc.1, hc.2, rel_bare (S := place β w' σ) r v hbare hrel⟩

/-! ### operations are so -/
def SndC (P : Program) (inv : Nat → Option Nat) (C : Nat → Nat → List AV → AS → Option (List (AV × AS))) : Prop :=
  ∀ (w0 : World) (M : Nat → Prop), (∀ b, M b → b < w0.heap.size) → ∀ N j args σ L, C N j args σ = some L → AC P inv w0 M N j args σ fun r σ' => (r, σ') ∈ L
def SndP (P : Program) (inv : Nat → Option Nat) (Cp : Nat → List AV → Option AV) : Prop := ∀ j args r, Cp j args = some r → PC P inv j args (· = r)
def SndF (P : Program) (inv : Nat → Option Nat) (Cf : Nat → List AV → Option AV) : Prop := ∀ j args r, Cf j args = some r → PF P inv j args r
variable {C : Nat → Nat → List AV → AS → Option (List (AV × AS))} {Cp Cf : Nat → List AV → Option AV}

theorem useP_ok (hCp : SndP P inv Cp) (hCf : SndF P inv Cf) (hM : ∀ b, M b → b < w0.heap.size) {j : Nat} {as : List AV} {r : AV} {σ0 : AS} (h : useP Cp Cf j as σ0 = some r) (hs : ∀ l o, sget (noRsv σ0) l = some o → sget σ l = some o) :
    AC P inv w0 M N j as σ (fun r' σ' => r' = r ∧ σ' = σ) := by
  unfold useP at h
  split at h
  · exact PC.bareAC hM (hCp _ _ _ h) fun r' e => ⟨e, rfl⟩
  · exact PF.AC hM 4 (σ0 := noRsv σ0) hs (hCf _ _ _ h)
theorem putP_std (φ : AF) (d : Option Nat) (x : AV) : putP Prim.std φ d x = putO φ d x := by cases d <;> rfl
theorem putL_ok {d : Option Nat} {x : Option (List (AV × AS))} {L : List (AF × AS)} (h : putL Prim.std φ d x = some L) : ∃ L', x = some L' ∧ ∀ r σ', (r, σ') ∈ L' → (putO φ d r, σ') ∈ L := by
  unfold putL at h
  simp only [putP_std] at h
  split at h
  · simp only [Option.some.injEq] at h
    subst h
    refine ⟨_, rfl, fun r σ' hm => ?_⟩
    rw [List.mem_singleton] at hm ⊢
    rw [← hm]
  · simp only [Option.some.injEq] at h
    subst h
    exact ⟨_, rfl, fun r σ' hm => List.mem_map.2 ⟨(r, σ'), hm, rfl⟩⟩
  · cases h
theorem opE_ok (hC : SndC P inv C) (hCp : SndP P inv Cp) (hCf : SndF P inv Cf) (hM : ∀ b, M b → b < w0.heap.size) {o : AOp} {L : List (AF × AS)} {K : AF → AS → Prop} (h : opE Prim.std C Cp Cf N o φ σ = some L) (hk : ∀ p ∈ L, K p.1 p.2) : aop P inv w0 M N o φ σ K := by
  cases o <;> simp only [opE, setE, newE, allocE, boxE, isnilE, mkslB, mkslE, storeC, storeE, storeAE, awayE, appE, makeE, calvE, calveE, galE, mkmapE, mapsetE, appzE, evP_std, freshP_std, std_fp, std_sg, std_sp, std_fb] at h <;> simp only [aop]
  case set d e =>
    split at h
    · rename_i x e'
      simp only [Option.some.injEq] at h
      subst h
      exact avalE_ok e' (hk (fput φ d x, σ) (by simp))
    · cases h
  case alloc d z => simp only [Option.some.injEq] at h; subst h; exact hk _ (List.mem_singleton_self _)
  case box d n x =>
    obtain ⟨h1, h2⟩ := gd_some h
    simp only [Bool.and_eq_true, Nat.beq_eq] at h1
    simp only [Option.some.injEq] at h2
    subst h2
    exact ⟨h1.1, h1.2, hk _ (List.mem_singleton_self _)⟩
  case isnil d neg x =>
    split at h
    · rename_i e; rw [e]; simp only [Option.some.injEq] at h; subst h; exact nilL_ok hk
    · rename_i e; rw [e]; simp only [Option.some.injEq] at h; subst h; exact nilL_ok hk
    · rename_i e; rw [e]; obtain ⟨h1, h2⟩ := gd_some h; simp only [Option.some.injEq] at h2; subst h2; exact ⟨liveE_ok h1, nilL_ok hk⟩
    · cases h
  case mks0 d sz => simp only [Option.some.injEq] at h; subst h; exact hk _ (List.mem_singleton_self _)
  case mksl d sz len z ps =>
    split at h
    · rename_i cs e
      rw [fillP_std e]
      simp only [obind_some]
      split at h
      · rename_i eb; rw [eb]; simp only [Option.some.injEq] at h; subst h; exact hk _ (List.mem_singleton_self _)
      · rename_i eb; rw [eb]; simp only [Option.some.injEq] at h; subst h; exact hk _ (List.mem_singleton_self _)
    · cases h
  case store n a x =>
    split at h
    · rename_i e
      rw [e]
      simp only
      split at h
      · rename_i e2
        rw [e2]
        obtain ⟨h1, h2⟩ := gd_some h
        simp only [Bool.and_eq_true, Nat.beq_eq, Nat.blt_eq, Nat.ble_eq] at h1
        simp only [Option.some.injEq] at h2
        subst h2
        exact ⟨h1.1.1.1.1, h1.1.1.1.2, h1.1.1.2, ⟨h1.1.2, h1.2⟩, hk _ (List.mem_singleton_self _)⟩
      · cases h
    · cases h
  case app d s x sz =>
    split at h
    · rename_i p e
      obtain ⟨v, h1, rfl⟩ := one_some h
      exact asrcE_ok e (aappE_ok h1 (hk _ (List.mem_singleton_self _)))
    · cases h
  case make d a c z sz =>
    split at h
    · rename_i e1 e2
      rw [e1, e2]
      obtain ⟨h1, h2⟩ := gd_some h
      simp only [Option.some.injEq] at h2
      subst h2
      exact ⟨of_decide_eq_true h1, hk _ (List.mem_singleton_self _)⟩
    · cases h
  case call d j args =>
    obtain ⟨L', e, h2⟩ := putL_ok h
    exact ⟨_, le_mx_left _ _, le_mx_right _ _, (hC w0 M hM _ j _ σ L' e).mono fun r σ' hm => hk _ (h2 r σ' hm)⟩
  case calv d f args =>
    split at h
    · rename_i e
      rw [e]
      obtain ⟨L', e, h2⟩ := putL_ok h
      exact ⟨_, le_mx_left _ _, le_mx_right _ _, (hC w0 M hM _ _ _ σ L' e).mono fun r σ' hm => hk _ (h2 r σ' hm)⟩
    · cases h
  case callp d j args =>
    split at h
    · rename_i r e
      simp only [Option.some.injEq] at h
      subst h
      exact ⟨r, fun N' φ' σ' hs => ⟨_, le_mx_left _ _, le_mx_right _ _, useP_ok hCp hCf hM e fun l o ho => by
        obtain ⟨h3, h4⟩ := noRsv_get ho
        exact hs l o h4 h3⟩, hk _ (List.mem_singleton_self _)⟩
    · cases h
  case gal d back z =>
    split at h
    · rename_i e
      rw [e]
      obtain ⟨h1, h2⟩ := gd_some h
      simp only [Option.some.injEq] at h2
      subst h2
      exact ⟨by simpa using h1, hk _ (List.mem_singleton_self _)⟩
    · cases h
  case storeA n a x pts =>
    split at h
    · rename_i e
      rw [e]
      simp only
      obtain ⟨h0, h⟩ := gd_some h
      refine ⟨h0, ?_⟩
      split at h
      · rename_i e2
        rw [e2]
        obtain ⟨h1, h2⟩ := gd_some h
        simp only [Bool.and_eq_true, Nat.beq_eq, Nat.blt_eq, Nat.ble_eq] at h1
        simp only [Option.some.injEq] at h2
        subst h2
        exact ⟨h1.1.1.1.1, h1.1.1.1.2, h1.1.1.2, ⟨h1.1.2, h1.2⟩, hk _ (List.mem_singleton_self _)⟩
      · cases h
    · cases h
  case bad d => cases h
  case appe d s x sz =>
    split at h
    · rename_i p e
      obtain ⟨v, h1, rfl⟩ := one_some h
      exact asrcE_ok e (aappE_ok h1 (hk _ (List.mem_singleton.2 rfl)))
    · cases h
  case calle d j args =>
    obtain ⟨L', e, h2⟩ := putL_ok h
    exact ⟨_, le_mx_left _ _, le_mx_right _ _, (hC w0 M hM _ j _ σ L' e).mono fun r σ' hm => hk _ (h2 r σ' hm)⟩
  case calve d f args =>
    split at h
    · rename_i e
      rw [e]
      obtain ⟨L', e, h2⟩ := putL_ok h
      exact ⟨_, le_mx_left _ _, le_mx_right _ _, (hC w0 M hM _ _ _ σ L' e).mono fun r σ' hm => hk _ (h2 r σ' hm)⟩
    · cases h
  case mkmap d => simp only [Option.some.injEq] at h; subst h; exact hk _ (List.mem_singleton_self _)
  case mapset m k v =>
    split at h
    · rename_i e1 e2 e3
      rw [e1, e2, e3]
      simp only
      split at h
      · rename_i e4
        rw [e4]
        simp only [Option.some.injEq] at h
        subst h
        exact hk _ (List.mem_singleton_self _)
      · cases h
    · cases h
  case appz d s n z sz =>
    split at h
    · rename_i e1 e2
      rw [e1, e2]
      obtain ⟨h1, h2⟩ := gd_some h
      simp only [Option.some.injEq] at h2
      subst h2
      exact ⟨of_decide_eq_true h1, hk _ (List.mem_singleton_self _)⟩
    · cases h

/-! ### lists of operations -/
def bindL {α β : Type} (f : α → Option (List β)) : List α → Option (List β)
  | [] => some []
  | [x] => f x
  | x :: r => match f x, bindL f r with | some a, some b => some (a ++ b) | _, _ => none
def bindO {α β : Type} (x : Option (List α)) (f : α → Option (List β)) : Option (List β) := match x with | some l => bindL f l | none => none
theorem bindL_ok {α β : Type} {f : α → Option (List β)} : ∀ {l : List α} {L : List β}, bindL f l = some L → ∀ p ∈ l, ∃ L', f p = some L' ∧ ∀ q ∈ L', q ∈ L
  | [], L, h, p, hp => by cases hp
  | [x], L, h, p, hp => by
    simp only [bindL] at h
    simp only [List.mem_singleton] at hp
    subst hp
    exact ⟨L, h, fun q hq => hq⟩
  | x :: y :: r, L, h, p, hp => by
    simp only [bindL] at h
    split at h
    · rename_i a b e1 e2
      simp only [Option.some.injEq] at h
      subst h
      rcases List.mem_cons.1 hp with rfl | hp
      · exact ⟨a, e1, fun q hq => List.mem_append.2 (.inl hq)⟩
      · obtain ⟨L', k1, k2⟩ := bindL_ok (l := y :: r) e2 p hp
        exact ⟨L', k1, fun q hq => List.mem_append.2 (.inr (k2 q hq))⟩
    · cases h
theorem bindO_ok {α β : Type} {x : Option (List α)} {f : α → Option (List β)} {L : List β} (h : bindO x f = some L) : ∃ l, x = some l ∧ ∀ p ∈ l, ∃ L', f p = some L' ∧ ∀ q ∈ L', q ∈ L := by
  unfold bindO at h
  split at h
  · exact ⟨_, rfl, bindL_ok h⟩
  · cases h

section
variable (R : Prim) (C : Nat → Nat → List AV → AS → Option (List (AV × AS))) (Cp Cf : Nat → List AV → Option AV) (N : Nat)
def sleE (σ : List (Nat × AO)) (x : Option (List (AF × AS))) : Option (List (AF × AS)) := match x with | some L => gd (L.all fun p => sleB R σ p.2) (some L) | none => none
def opDE (o : AOp) (φ : List (Nat × AV)) (σ : List (Nat × AO)) : Option (List (AF × AS)) :=
  match o with
  | .call d j args => sleE R σ (opE R C Cp Cf N (.call d j args) φ σ)
  | .calv d f args => sleE R σ (opE R C Cp Cf N (.calv d f args) φ σ)
  | .app d s x sz => sleE R σ (opE R C Cp Cf N (.app d s x sz) φ σ)
  | o => opE R C Cp Cf N o φ σ
/-- What a guard says: 0: do it; 1: pass over it; 2: it is not known. -/
def gWant (g : AV) (want : Bool) : Nat := match g with
  | .b true => bif want then 0 else 1
  | .b false => bif want then 1 else 0
  | .u => 1
  | _ => 2
def gStep (k : Nat) (x y : Option (List (AF × AS))) : Option (List (AF × AS)) := match k with | 0 => x | 1 => y | _ => none
/-- One behind the other; a guard says which way. -/
def opsG (op1 : AOp → AF → AS → Option (List (AF × AS))) : List GOp → List (Nat × AV) → List (Nat × AO) → Option (List (AF × AS))
  | [], φ, σ => some [(φ, σ)]
  | (none, o) :: r, φ, σ => bindO (op1 o φ σ) fun p => opsG op1 r p.1 p.2
  | (some sw, o) :: r, φ, σ => gStep (gWant (R.fg φ sw.1) sw.2) (bindO (op1 o φ σ) fun p => opsG op1 r p.1 p.2) (opsG op1 r (putP R φ o.dst .u) σ)
end
theorem gStep_ok {want : Bool} {g : AV} {x y : Option (List (AF × AS))} {L : List (AF × AS)} (h : gStep (gWant g want) x y = some L) : (∃ t, g = .b t ∧ ((t = want ∧ x = some L) ∨ (t ≠ want ∧ y = some L))) ∨ (g = .u ∧ y = some L) := by
  unfold gWant gStep at h
  split at h
  · rename_i hg
    split at hg
    · cases want <;> simp_all
    · cases want <;> simp_all
    · cases hg
    · cases hg
  · rename_i hg
    split at hg
    · cases want <;> simp_all
    · cases want <;> simp_all
    · exact .inr ⟨rfl, h⟩
    · cases hg
  · cases h
theorem opDE_ok (hC : SndC P inv C) (hCp : SndP P inv Cp) (hCf : SndF P inv Cf) (hM : ∀ b, M b → b < w0.heap.size) {o : AOp} {L : List (AF × AS)} {K : AF → AS → Prop} (h : opDE Prim.std C Cp Cf N o φ σ = some L) (hk : ∀ p ∈ L, K p.1 p.2) : aopD P inv w0 M N o φ σ K := by
  have key : ∀ {o' : AOp}, sleE Prim.std σ (opE Prim.std C Cp Cf N o' φ σ) = some L → aop P inv w0 M N o' φ σ fun φ' σ' => ob (SLe σ σ') (K φ' σ') := by
    intro o' h'
    unfold sleE at h'
    split at h'
    · rename_i L' e
      obtain ⟨h1, h2⟩ := gd_some h'
      simp only [Option.some.injEq] at h2
      subst h2
      exact opE_ok hC hCp hCf hM e fun p hp => ⟨sleB_ok (List.all_eq_true.1 h1 p hp), hk p hp⟩
    · cases h'
  cases o <;> simp only [opDE] at h <;> first | (exact key h) | (exact opE_ok hC hCp hCf hM h hk)
theorem opsG_ok (hC : SndC P inv C) (hCp : SndP P inv Cp) (hCf : SndF P inv Cf) (hM : ∀ b, M b → b < w0.heap.size) : ∀ {l : List GOp} {φ : AF} {σ : AS} {L : List (AF × AS)} {K : AF → AS → Prop}, opsG Prim.std (opE Prim.std C Cp Cf N) l φ σ = some L → (∀ p ∈ L, K p.1 p.2) → awpOps P inv w0 M N l K φ σ
  | [], φ, σ, L, K, h, hk => by simp only [opsG, Option.some.injEq] at h; subst h; exact hk _ (List.mem_singleton_self _)
  | (none, o) :: r, φ, σ, L, K, h, hk => by
    simp only [opsG] at h
    simp only [awpOps]
    obtain ⟨l, h1, h2⟩ := bindO_ok h
    refine opE_ok hC hCp hCf hM h1 fun p hp => ?_
    obtain ⟨L', k1, k2⟩ := h2 p hp
    exact opsG_ok hC hCp hCf hM k1 fun q hq => hk q (k2 q hq)
  | (some (s, true), o) :: r, φ, σ, L, K, h, hk => by
    simp only [opsG, putP_std, std_fg] at h
    simp only [awpOps]
    rcases gStep_ok h with ⟨t, e, ⟨et, h⟩ | ⟨et, h⟩⟩ | ⟨e, h⟩
    · rw [e, et]
      refine ⟨fun _ => ?_, fun h => by cases h⟩
      rw [fref_id (by rw [e, et])]
      obtain ⟨l, h1, h2⟩ := bindO_ok h
      refine opE_ok hC hCp hCf hM h1 fun p hp => ?_
      obtain ⟨L', k1, k2⟩ := h2 p hp
      exact opsG_ok hC hCp hCf hM k1 fun q hq => hk q (k2 q hq)
    · have et' : t = false := by cases t <;> simp_all
      rw [e, et']
      refine ⟨fun h => (by cases h), fun _ => ?_⟩
      rw [fref_id (by rw [e, et'])]
      exact opsG_ok hC hCp hCf hM h hk
    · rw [e]
      exact opsG_ok hC hCp hCf hM h hk
  | (some (s, false), o) :: r, φ, σ, L, K, h, hk => by
    simp only [opsG, putP_std, std_fg] at h
    simp only [awpOps]
    rcases gStep_ok h with ⟨t, e, ⟨et, h⟩ | ⟨et, h⟩⟩ | ⟨e, h⟩
    · rw [e, et]
      refine ⟨fun h => (by cases h), fun _ => ?_⟩
      rw [fref_id (by rw [e, et])]
      obtain ⟨l, h1, h2⟩ := bindO_ok h
      refine opE_ok hC hCp hCf hM h1 fun p hp => ?_
      obtain ⟨L', k1, k2⟩ := h2 p hp
      exact opsG_ok hC hCp hCf hM k1 fun q hq => hk q (k2 q hq)
    · have et' : t = true := by cases t <;> simp_all
      rw [e, et']
      refine ⟨fun _ => ?_, fun h => by cases h⟩
      rw [fref_id (by rw [e, et'])]
      exact opsG_ok hC hCp hCf hM h hk
    · rw [e]
      exact opsG_ok hC hCp hCf hM h hk
theorem opsGD_ok (hC : SndC P inv C) (hCp : SndP P inv Cp) (hCf : SndF P inv Cf) (hM : ∀ b, M b → b < w0.heap.size) : ∀ {l : List GOp} {φ : AF} {σ : AS} {L : List (AF × AS)} {K : AF → AS → Prop}, opsG Prim.std (opDE Prim.std C Cp Cf N) l φ σ = some L → (∀ p ∈ L, K p.1 p.2) → awpOpsD P inv w0 M N l K φ σ
  | [], φ, σ, L, K, h, hk => by simp only [opsG, Option.some.injEq] at h; subst h; exact hk _ (List.mem_singleton_self _)
  | (none, o) :: r, φ, σ, L, K, h, hk => by
    simp only [opsG] at h
    simp only [awpOpsD]
    obtain ⟨l, h1, h2⟩ := bindO_ok h
    refine opDE_ok hC hCp hCf hM h1 fun p hp => ?_
    obtain ⟨L', k1, k2⟩ := h2 p hp
    exact opsGD_ok hC hCp hCf hM k1 fun q hq => hk q (k2 q hq)
  | (some (s, true), o) :: r, φ, σ, L, K, h, hk => by
    simp only [opsG, putP_std, std_fg] at h
    simp only [awpOpsD]
    rcases gStep_ok h with ⟨t, e, ⟨et, h⟩ | ⟨et, h⟩⟩ | ⟨e, h⟩
    · rw [e, et]
      refine ⟨fun _ => ?_, fun h => by cases h⟩
      rw [fref_id (by rw [e, et])]
      obtain ⟨l, h1, h2⟩ := bindO_ok h
      refine opDE_ok hC hCp hCf hM h1 fun p hp => ?_
      obtain ⟨L', k1, k2⟩ := h2 p hp
      exact opsGD_ok hC hCp hCf hM k1 fun q hq => hk q (k2 q hq)
    · have et' : t = false := by cases t <;> simp_all
      rw [e, et']
      refine ⟨fun h => (by cases h), fun _ => ?_⟩
      rw [fref_id (by rw [e, et'])]
      exact opsGD_ok hC hCp hCf hM h hk
    · rw [e]
      exact opsGD_ok hC hCp hCf hM h hk
  | (some (s, false), o) :: r, φ, σ, L, K, h, hk => by
    simp only [opsG, putP_std, std_fg] at h
    simp only [awpOpsD]
    rcases gStep_ok h with ⟨t, e, ⟨et, h⟩ | ⟨et, h⟩⟩ | ⟨e, h⟩
    · rw [e, et]
      refine ⟨fun h => (by cases h), fun _ => ?_⟩
      rw [fref_id (by rw [e, et])]
      obtain ⟨l, h1, h2⟩ := bindO_ok h
      refine opDE_ok hC hCp hCf hM h1 fun p hp => ?_
      obtain ⟨L', k1, k2⟩ := h2 p hp
      exact opsGD_ok hC hCp hCf hM k1 fun q hq => hk q (k2 q hq)
    · have et' : t = true := by cases t <;> simp_all
      rw [e, et']
      refine ⟨fun _ => ?_, fun h => by cases h⟩
      rw [fref_id (by rw [e, et'])]
      exact opsGD_ok hC hCp hCf hM h hk
    · rw [e]
      exact opsGD_ok hC hCp hCf hM h hk
end
end Go.Eng
