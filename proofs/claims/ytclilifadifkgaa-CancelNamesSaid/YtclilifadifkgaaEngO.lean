/-
  THE ENGINE, PART O: regions whose order is drawn: what an operation reads, when two of them may change places.
-/
import Derived.Test.YtclilifadifkgaaEngN
import Derived.Orders
namespace Go.Eng
open Go.RowKit

theorem SLe.refl (σ : AS) : SLe σ σ := fun _ _ h _ => h
theorem SLe_refl (σ : AS) : SLe σ σ = True := eq_true (.refl σ)
theorem SLe_fresh {σ : AS} {l : Nat} (o : AO) (h : sget σ l = none ∨ sget σ l = some .rsv) : SLe σ (sput σ l o) := by
  intro l' o' h' hne
  rw [sget_sput]
  split
  · rename_i e
    subst e
    rcases h with h | h
    · rw [h] at h'; cases h'
    · rw [h] at h'; simp only [Option.some.injEq] at h'; exact absurd h'.symm hne
  · exact h'
theorem sget_above {σ : AS} {l : Nat} (h : sbound σ ≤ l) : sget σ l = none := by
  cases e : sget σ l with
  | none => rfl
  | some o => have := (sbound_get σ l o e).1; omega
theorem sget_fresh (N : Nat) (φ : AF) (σ : AS) : sget σ (fresh N φ σ) = none := sget_above (fresh_le N φ σ).2.2

theorem memN_iff : ∀ {l : List Nat} {i : Nat}, memN l i = true ↔ i ∈ l
  | [], i => by simp [memN]
  | x :: r, i => by
    simp only [memN, Bool.or_eq_true, memN_iff (l := r), Nat.beq_eq, List.mem_cons]
    constructor
    · rintro (h | h)
      · exact .inl h.symm
      · exact .inr h
    · rintro (h | h)
      · exact .inl h.symm
      · exact .inr h
theorem dstIn_false {l : List Nat} {d : Nat} (h : dstIn l (some d) = false) : ∀ t ∈ l, t ≠ d := by
  intro t ht e
  subst e
  simp only [dstIn] at h
  rw [memN_iff.2 ht] at h
  cases h

/-! ### what is read -/
section
variable {φ φ' : AF} {σ : AS}
theorem ev_eq {x : Opd} (h : ∀ t ∈ x.rd, fget φ' t = fget φ t) : ev φ' x = ev φ x := by
  cases x with
  | t i => exact h i (by simp [Opd.rd])
  | c x => rfl
theorem optRd_eq {x : Option Opd} (h : ∀ t ∈ optRd x, fget φ' t = fget φ t) : x.map (ev φ') = x.map (ev φ) := by
  cases x with
  | none => rfl
  | some x => simp only [Option.map_some]; rw [ev_eq h]
theorem opdsRd_eq : ∀ {l : List Opd}, (∀ t ∈ opdsRd l, fget φ' t = fget φ t) → l.map (ev φ') = l.map (ev φ)
  | [], _ => rfl
  | x :: l, h => by
    simp only [opdsRd, List.mem_append] at h
    simp only [List.map_cons]
    rw [ev_eq fun t ht => h t (.inl ht), opdsRd_eq fun t ht => h t (.inr ht)]
theorem partsRd_eq : ∀ {l : List (Nat × Nat × Opd)} (cs : List AV), (∀ t ∈ partsRd l, fget φ' t = fget φ t) → fillA φ' cs l = fillA φ cs l
  | [], _, _ => rfl
  | (o, n, x) :: l, cs, h => by
    simp only [partsRd, List.mem_append] at h
    simp only [fillA]
    rw [ev_eq fun t ht => h t (.inl ht)]
    split
    · exact partsRd_eq _ fun t ht => h t (.inr ht)
    · rfl
theorem aval_eq {e : AVal} (h : ∀ t ∈ e.rd, fget φ' t = fget φ t) : aval φ' σ e = aval φ σ e := by
  funext K
  cases e <;> simp only [AVal.rd, List.mem_append] at h <;> simp only [aval]
  case mov x => rw [ev_eq h]
  case pick c a b => rw [ev_eq fun t ht => h t (.inl ht), ev_eq fun t ht => h t (.inr (.inl ht)), ev_eq fun t ht => h t (.inr (.inr ht))]
  case bin op ty x y => rw [ev_eq fun t ht => h t (.inl ht), ev_eq fun t ht => h t (.inr ht)]
  case not x => rw [ev_eq h]
  case conv k x => rw [ev_eq h]
  case load n a => rw [ev_eq h]
  case fadr a off => rw [ev_eq h]
  case iadr x i sz arr => rw [ev_eq fun t ht => h t (.inl ht), ev_eq fun t ht => h t (.inr ht)]
  case fld x off n => rw [ev_eq h]
  case idx x i len sz ag => rw [ev_eq fun t ht => h t (.inl ht), ev_eq fun t ht => h t (.inr ht)]
  case len x => rw [ev_eq h]
  case ext x i => rw [ev_eq h]
  case mkfn j l => rw [opdsRd_eq h]
  case build z ps => rw [partsRd_eq _ h]
  case slc x lo hi m sz => rw [ev_eq fun t ht => h t (.inl ht), optRd_eq fun t ht => h t (.inr (.inl ht)), optRd_eq fun t ht => h t (.inr (.inr (.inl ht))), optRd_eq fun t ht => h t (.inr (.inr (.inr ht)))]
  case slca x lo hi m k sz => rw [ev_eq fun t ht => h t (.inl ht), optRd_eq fun t ht => h t (.inr (.inl ht)), optRd_eq fun t ht => h t (.inr (.inr (.inl ht))), optRd_eq fun t ht => h t (.inr (.inr (.inr ht)))]
  case nilck x => rw [ev_eq h]
  case mnx mn x y => rw [ev_eq fun t ht => h t (.inl ht), ev_eq fun t ht => h t (.inr ht)]
  case cap x => rw [ev_eq h]
  case look m k => rw [ev_eq fun t ht => h t (.inl ht), ev_eq fun t ht => h t (.inr ht)]
end

/-! ### a value is one, and stays it where memory only grows -/
/-- What is there is as long as it was; where ld: it holds what it held. -/
def SLx (ld : Bool) (σ σ' : AS) : Prop := (∀ l ver, live σ l ver → live σ' l ver) ∧ (ld = true → SLe σ σ')
theorem live_mono {σ σ' : AS} {l ver : Nat} (hs : SLe σ σ') (h : live σ l ver) : live σ' l ver := by
  unfold live at h ⊢
  split at h
  · rename_i cs r e; rw [hs _ _ e (by simp)]; exact h
  · exact h.elim
theorem SLe.x {σ σ' : AS} (h : SLe σ σ') (ld : Bool) : SLx ld σ σ' := ⟨fun _ _ hl => live_mono h hl, fun _ => h⟩
theorem SLx.refl (ld : Bool) (σ : AS) : SLx ld σ σ := (SLe.refl σ).x ld
def Det (ld : Bool) (σ : AS) (F : AS → (AV → Prop) → Prop) : Prop := ∀ K : AV → Prop, F σ K → ∃ x, K x ∧ ∀ σ', SLx ld σ σ' → ∀ K' : AV → Prop, K' x → F σ' K'
section
variable {φ φ' : AF} {σ σ' : AS} {ld : Bool}
theorem det_const (x : AV) : Det ld σ (fun _ K => K x) := fun _ h => ⟨x, h, fun _ _ _ h' => h'⟩
theorem det_false : Det ld σ (fun _ _ => False) := fun _ h => h.elim
theorem det_ob {p : AS → Prop} {F : AS → (AV → Prop) → Prop} (hp : ∀ σ', SLx ld σ σ' → p σ → p σ') (h : Det ld σ F) : Det ld σ (fun σ K => ob (p σ) (F σ K)) := by
  rintro K ⟨h1, h2⟩
  obtain ⟨x, k, h3⟩ := h K h2
  exact ⟨x, k, fun σ' hs K' k' => ⟨hp σ' hs h1, h3 σ' hs K' k'⟩⟩
theorem det_obc {p : Prop} {F : AS → (AV → Prop) → Prop} (h : Det ld σ F) : Det ld σ (fun σ K => ob p (F σ K)) := det_ob (p := fun _ => p) (fun _ _ h => h) h
theorem det_live {l ver : Nat} {F : AS → (AV → Prop) → Prop} (h : Det ld σ F) : Det ld σ (fun σ K => ob (live σ l ver) (F σ K)) := det_ob (fun _ hs hl => hs.1 _ _ hl) h
theorem det_obind {α : Type} {o : AS → Option α} {F : α → AS → (AV → Prop) → Prop} (ho : ∀ σ' v, SLx ld σ σ' → o σ = some v → o σ' = some v) (h : ∀ v, Det ld σ (F v)) : Det ld σ (fun σ K => obind (o σ) fun v => F v σ K) := by
  intro K hk
  obtain ⟨v, e, h2⟩ := obind_elim hk
  obtain ⟨x, k, h3⟩ := h v K h2
  refine ⟨x, k, fun σ' hs K' k' => ?_⟩
  have e' := ho σ' v hs e
  show obind (o σ') _
  rw [e']
  exact h3 σ' hs K' k'
theorem alook_mono {x y v : AV} (hs : SLe σ σ') (h : alook σ x y = some v) : alook σ' x y = some v := by
  unfold alook at h ⊢
  split at h
  · split at h
    · rename_i e
      rw [hs _ _ e (by simp)]
      exact h
    · cases h
  · cases h
theorem det_obindc {α : Type} {o : Option α} {F : α → AS → (AV → Prop) → Prop} (h : ∀ v, Det ld σ (F v)) : Det ld σ (fun σ K => obind o fun v => F v σ K) := det_obind (o := fun _ => o) (fun _ _ _ h => h) h
theorem aload_mono {n : Option Nat} {x y : AV} (hs : SLe σ σ') (h : aload σ n x = some y) : aload σ' n x = some y := by
  cases x <;> simp only [aload] at h ⊢ <;> try exact h
  case ptr l ver off =>
    split at h
    · rename_i cs r e
      rw [hs _ _ e (by simp)]
      exact h
    · cases h
theorem det_arith (op : BinOp) (k : IntKind) (a b : Int) : Det ld σ (fun _ K => arith op k a b K) := by
  cases op <;> simp only [arith] <;> first | exact det_const _ | exact det_false | exact det_obc (det_const _)
theorem det_eq3 (op : BinOp) (x y : AV) : Det ld σ (fun _ K => match op with | .eql => K x | .neq => K y | _ => False) := by
  cases op <;> first | exact det_const _ | exact det_false
theorem det_abin (op : BinOp) (ty : ETy) (x y : AV) : Det ld σ (fun σ K => abin σ op ty x y K) := by
  unfold abin
  split
  · split
    · exact det_obc (det_const _)
    · exact det_false
    · exact det_obc (det_arith _ _ _ _)
  · exact det_obc (det_eq3 _ _ _)
  · split
    · exact det_obindc fun t => det_eq3 _ _ _
    · exact det_obindc fun t => det_eq3 _ _ _
    · exact det_false
  · exact det_obc (det_live (det_eq3 _ _ _))
  · exact det_obindc fun t => det_eq3 _ _ _
theorem det_aslc (x : AV) (lo hi mx : Option AV) (sz : Nat) : Det ld σ (fun σ K => aslc σ x lo hi mx sz K) := by
  unfold aslc
  split
  · refine det_obc (det_obc (det_obc ?_))
    split
    · exact det_const _
    · exact det_const _
    · exact det_live (det_const _)
    · exact det_false
  · exact det_false
  · split
    · refine det_obc ?_
      split <;> first | exact det_const _ | exact det_obc (det_const _) | exact det_false
    · refine det_obc (det_live ?_)
      split <;> first | exact det_const _ | exact det_obc (det_const _) | exact det_false
    · split <;> first | exact det_const _ | exact det_obc (det_const _) | exact det_false
    · exact det_false
theorem det_aval (e : AVal) : Det (isLd e) σ (fun σ K => aval φ σ e K) := by
  cases e <;> simp only [aval, isLd]
  case mov x => exact det_const _
  case pick c a b =>
    split
    · rename_i t _
      cases t
      · simp only [pickB_false]; exact det_const _
      · simp only [pickB_true]; exact det_const _
    · exact det_false
  case bin op ty x y => exact det_abin _ _ _ _
  case not x => split <;> first | exact det_const _ | exact det_false
  case conv k x => split <;> first | exact det_const _ | exact det_false
  case load n a => exact det_obind (F := fun v _ K => K v) (fun σ' v hs e => aload_mono (hs.2 rfl) e) fun v => det_const v
  case fadr a off => split <;> first | exact det_const _ | exact det_live (det_const _) | exact det_false
  case iadr x i sz arr =>
    split
    · split
      · exact det_obc (det_obc (det_const _))
      · exact det_obc (det_live (det_obc (det_const _)))
      · exact det_live (det_obc (det_const _))
      · exact det_obc (det_const _)
      · exact det_false
    · exact det_false
  case fld x off n =>
    split
    · split
      · exact det_obindc (F := fun v _ K => K v) fun v => det_const v
      · exact det_const _
    · exact det_false
  case idx x i len sz ag =>
    split
    · refine det_obc ?_
      split
      · exact det_const _
      · exact det_obindc (F := fun v _ K => K v) fun v => det_const v
    · exact det_false
  case len x => split <;> first | exact det_const _ | exact det_live (det_const _) | exact det_false
  case ext x i =>
    split
    · exact det_obindc (F := fun v _ K => K v) fun v => det_const v
    · exact det_false
  case mkfn j l => exact det_const _
  case build z ps => exact det_obindc fun cs => det_const _
  case slc x lo hi m sz => exact det_aslc _ _ _ _ _
  case slca x lo hi m k sz =>
    split
    · exact det_live (det_obc (det_aslc _ _ _ _ _))
    · exact det_false
  case nilck x => split <;> first | exact det_const _ | exact det_live (det_const _) | exact det_false
  case mnx mn x y => split <;> first | exact det_obc (det_const _) | exact det_false
  case cap x => split <;> first | exact det_const _ | exact det_false
  case look m k => exact det_obind (F := fun v _ K => K v) (fun σ' v hs e => alook_mono (hs.2 rfl) e) fun v => det_const v
end
end Go.Eng
