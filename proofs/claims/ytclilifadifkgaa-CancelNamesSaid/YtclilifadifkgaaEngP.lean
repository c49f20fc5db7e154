/-
  THE ENGINE, PART P: regions whose order is drawn: an operation that may come first, comes first.
-/
import Derived.Test.YtclilifadifkgaaEngO
namespace Go.Eng
open Go.RowKit

section
variable {P : Program} {inv : Nat → Option Nat} {w0 : World} {M : Nat → Prop} {N : Nat} {φ φ1 : AF} {σ : AS}

theorem CallK.mono {j : Nat} {args : List AV} {R R' : AV → AS → Prop} (h : CallK P inv w0 M N φ σ j args R) (hr : ∀ r σ', R r σ' → R' r σ') : CallK P inv w0 M N φ σ j args R' := by
  obtain ⟨N', h1, h2, h3⟩ := h
  refine ⟨N', h1, h2, fun g hg β w vs hm hv => Calls.mono (h3 g hg β w vs hm hv) ?_⟩
  rintro e w' ⟨v, r, σ', β', k1, k2, k3⟩
  exact ⟨v, r, σ', β', k1, hr _ _ k2, k3⟩
theorem CallK.frame {j : Nat} {args : List AV} {R : AV → AS → Prop} (h : CallK P inv w0 M N φ1 σ j args R) (hb : fbound φ ≤ mx N (fbound φ1)) : CallK P inv w0 M N φ σ j args R := by
  obtain ⟨N', h1, h2, h3⟩ := h
  refine ⟨N', h1, Nat.le_trans hb ?_, h3⟩
  unfold mx
  split <;> omega
theorem putO_some (φ : AF) (d : Nat) (x : AV) : putO φ (some d) x = fput φ d x := rfl
theorem mx_le {a b c : Nat} (h1 : a ≤ c) (h2 : b ≤ c) : mx a b ≤ c := by unfold mx; split <;> assumption
theorem fresh_of_le {N : Nat} {φ : AF} {σ : AS} (h1 : fbound φ ≤ N) (h2 : sbound σ ≤ N) : fresh N φ σ = N := by
  unfold fresh mx
  split <;> split <;> omega
theorem SLe_alloc (N : Nat) (φ : AF) (σ : AS) (o : AO) : SLe σ (sput σ (fresh N φ σ) o) := SLe_fresh o (.inl (sget_fresh N φ σ))

/-- What an operation gives, told of another frame in which what it reads is the same. -/
theorem asrc_mono {sz : Nat} {x : AV} {K K' : Nat → List AV → Prop} (hk : ∀ m l, K m l → K' m l) (h : asrc σ sz x K) : asrc σ sz x K' := by
  unfold asrc at h ⊢
  split at h
  · exact hk _ _ h
  · exact ⟨h.1, hk _ _ h.2⟩
  · refine ⟨h.1, ?_⟩
    have h2 := h.2
    split at h2
    · exact ⟨h2.1, hk _ _ h2.2⟩
    · exact h2.elim
  · exact h.elim
theorem aapp_mono {l d sz m : Nat} {dest : AV} {new : List AV} {K K' : AF → AS → Prop} (hk : ∀ r σ', K (fput φ1 d r) σ' → K' (fput φ d r) σ') (h : aapp φ1 σ l d sz dest m new K) : aapp φ σ l d sz dest m new K' := by
  unfold aapp at h ⊢
  split at h
  · exact ⟨h.1, hk _ _ h.2⟩
  · refine ⟨h.1, h.2.1, h.2.2.1, h.2.2.2.1, ?_⟩
    have h2 := h.2.2.2.2
    split at h2
    · exact ⟨h2.1, hk _ _ h2.2⟩
    · exact h2.elim
  · exact h.elim
theorem aopD_mono {o : AOp} {K1 K2 : AF → AS → Prop} (hk : ∀ φ σ, K1 φ σ → K2 φ σ) (h : aopD P inv w0 M N o φ σ K1) : aopD P inv w0 M N o φ σ K2 := by
  cases o with
  | set d e =>
    simp only [aopD, aop] at h ⊢
    obtain ⟨x, k1, k2⟩ := det_aval e _ h
    exact k2 σ (.refl _ σ) _ (hk _ _ k1)
  | alloc d z => simp only [aopD, aop] at h ⊢; exact hk _ _ h
  | box d n x => simp only [aopD, aop] at h ⊢; exact ⟨h.1, h.2.1, hk _ _ h.2.2⟩
  | isnil d neg x =>
    simp only [aopD, aop] at h ⊢
    split at h
    · exact ⟨fun e => hk _ _ (h.1 e), hk _ _ h.2⟩
    · exact ⟨fun e => hk _ _ (h.1 e), hk _ _ h.2⟩
    · exact ⟨h.1, fun e => hk _ _ (h.2.1 e), hk _ _ h.2.2⟩
    · exact h.elim
  | mks0 d sz => simp only [aopD, aop] at h ⊢; exact hk _ _ h
  | mksl d sz len z ps =>
    simp only [aopD, aop] at h ⊢
    obtain ⟨cs, e, h⟩ := obind_elim h
    rw [e]
    simp only [obind_some]
    cases eb : AV.bareL cs <;> rw [eb] at h <;> exact hk _ _ h
  | store n a x =>
    simp only [aopD, aop] at h ⊢
    split at h
    · split at h
      · exact ⟨h.1, h.2.1, h.2.2.1, h.2.2.2.1, hk _ _ h.2.2.2.2⟩
      · exact h.elim
    · exact h.elim
  | app d s x sz => simp only [aopD, aop] at h ⊢; exact asrc_mono (fun m l h => aapp_mono (fun r σ' h' => ⟨h'.1, hk _ _ h'.2⟩) h) h
  | make d a c z sz =>
    simp only [aopD, aop] at h ⊢
    split at h
    · exact ⟨h.1, hk _ _ h.2⟩
    · exact h.elim
  | call d j args => simp only [aopD] at h ⊢; exact h.mono fun r σ' h' => ⟨h'.1, hk _ _ h'.2⟩
  | calv d f args =>
    simp only [aopD] at h ⊢
    split at h
    · exact h.mono fun r σ' h' => ⟨h'.1, hk _ _ h'.2⟩
    · exact h.elim
  | callp d j args =>
    simp only [aopD, aop] at h ⊢
    obtain ⟨r, h1, h2⟩ := h
    exact ⟨r, h1, hk _ _ h2⟩
  | gal d back z =>
    simp only [aopD, aop] at h ⊢
    split at h
    · exact ⟨h.1, hk _ _ h.2⟩
    · exact h.elim
  | storeA n a x pts =>
    simp only [aopD, aop] at h ⊢
    split at h
    · refine ⟨h.1, ?_⟩
      have h := h.2
      split at h
      · exact ⟨h.1, h.2.1, h.2.2.1, h.2.2.2.1, hk _ _ h.2.2.2.2⟩
      · exact h.elim
    · exact h.elim
  | bad d => exact h.elim
  | mkmap d => simp only [aopD, aop] at h ⊢; exact hk _ _ h
  | appe d s x sz => simp only [aopD, aop] at h ⊢; exact asrc_mono (fun m l h => aapp_mono (fun r σ' h' => hk _ _ h') h) h
  | calle d j args => simp only [aopD, aop] at h ⊢; exact h.mono fun r σ' h' => hk _ _ h'
  | calve d f args =>
    simp only [aopD, aop] at h ⊢
    split at h
    · exact h.mono fun r σ' h' => hk _ _ h'
    · exact h.elim
  | mapset m k v =>
    simp only [aopD, aop] at h ⊢
    split at h
    · split at h
      · exact hk _ _ h
      · exact h.elim
    · exact h.elim
  | appz d s n z sz =>
    simp only [aopD, aop] at h ⊢
    split at h
    · exact ⟨h.1, hk _ _ h.2⟩
    · exact h.elim
def Sw (o : AOp) (φ φ1 : AF) (σ : AS) (K : AF → AS → Prop) : AF → AS → Prop := fun φ' σ' => SLx (!isStore o) σ σ' ∧ ∃ r, φ' = putO φ o.dst r ∧ K (putO φ1 o.dst r) σ'
theorem live_store {l l' ver : Nat} {cs xs : List AV} {r : Bool} {off : Nat} (hg : sget σ l = some (.cells cs r)) (h : live σ l' ver) : live (sput σ l (.cells (ovl cs off xs) r)) l' ver := by
  unfold live at h ⊢
  rw [sget_sput]
  by_cases e : l' = l
  · subst e
    rw [hg] at h
    simp only [if_true, ovl_length]
    exact h
  · rw [if_neg e]
    exact h
theorem aopD_sw {o : AOp} {K : AF → AS → Prop} (hp : plain o = o) (he : isEff o = false) (h : aopD P inv w0 M N o φ1 σ K) (hr : ∀ t ∈ o.rd, fget φ t = fget φ1 t) (hb : fbound φ ≤ mx N (fbound φ1)) :
    ∃ N2, N ≤ N2 ∧ aopD P inv w0 M N2 o φ σ (Sw o φ φ1 σ K) := by
  have hfr : fbound φ ≤ fresh N φ1 σ := Nat.le_trans hb (by have := fresh_le N φ1 σ; exact mx_le this.1 this.2.1)
  have hN : N ≤ fresh N φ1 σ := (fresh_le N φ1 σ).1
  have hfe : fresh (fresh N φ1 σ) φ σ = fresh N φ1 σ := fresh_of_le hfr (fresh_le N φ1 σ).2.2
  have hsl : ∀ o, SLe σ (sput σ (fresh N φ1 σ) o) := SLe_alloc N φ1 σ
  cases o with
  | set d e =>
    refine ⟨N, Nat.le_refl _, ?_⟩
    simp only [aopD, aop, AOp.rd] at h hr ⊢
    rw [aval_eq hr]
    obtain ⟨x, hk, hd⟩ := det_aval e _ h
    exact hd σ (.refl _ σ) _ ⟨.refl _ σ, x, rfl, hk⟩
  | alloc d z =>
    refine ⟨_, hN, ?_⟩
    simp only [aopD, aop] at h ⊢
    rw [hfe]
    exact ⟨(hsl _).x _, _, rfl, h⟩
  | box d n x =>
    refine ⟨_, hN, ?_⟩
    simp only [aopD, aop, AOp.rd] at h hr ⊢
    rw [hfe, ev_eq hr]
    exact ⟨h.1, h.2.1, (hsl _).x _, _, rfl, h.2.2⟩
  | isnil d neg x =>
    refine ⟨N, Nat.le_refl _, ?_⟩
    simp only [aopD, aop, AOp.rd] at h hr ⊢
    rw [ev_eq hr]
    split at h
    · exact ⟨fun e => ⟨SLx.refl _ σ, _, rfl, h.1 e⟩, SLx.refl _ σ, _, rfl, h.2⟩
    · exact ⟨fun e => ⟨SLx.refl _ σ, _, rfl, h.1 e⟩, SLx.refl _ σ, _, rfl, h.2⟩
    · exact ⟨h.1, fun e => ⟨SLx.refl _ σ, _, rfl, h.2.1 e⟩, SLx.refl _ σ, _, rfl, h.2.2⟩
    · exact h.elim
  | mks0 d sz =>
    refine ⟨N, Nat.le_refl _, ?_⟩
    simp only [aopD, aop] at h ⊢
    exact ⟨SLx.refl _ σ, _, rfl, h⟩
  | mksl d sz len z ps =>
    refine ⟨_, hN, ?_⟩
    simp only [aopD, aop, AOp.rd] at h hr ⊢
    rw [hfe, partsRd_eq _ hr]
    obtain ⟨cs, e, h⟩ := obind_elim h
    rw [e]
    simp only [obind_some]
    cases eb : AV.bareL cs <;> rw [eb] at h
    · exact ⟨(hsl _).x _, _, rfl, h⟩
    · exact ⟨SLx.refl _ σ, _, rfl, h⟩
  | store n a x =>
    refine ⟨N, Nat.le_refl _, ?_⟩
    simp only [aopD, aop, AOp.rd, List.mem_append] at h hr ⊢
    rw [ev_eq fun t ht => hr t (.inl ht), ev_eq fun t ht => hr t (.inr ht)]
    split at h
    · split at h
      · rename_i hg
        exact ⟨h.1, h.2.1, h.2.2.1, h.2.2.2.1, ⟨fun l' ver hl => live_store hg hl, fun e => by simp [isStore] at e⟩, .u, rfl, h.2.2.2.2⟩
      · exact h.elim
    · exact h.elim
  | app d s x sz =>
    refine ⟨_, hN, ?_⟩
    simp only [aopD, aop, AOp.rd, List.mem_append] at h hr ⊢
    rw [hfe, ev_eq fun t ht => hr t (.inl ht), ev_eq fun t ht => hr t (.inr ht)]
    refine asrc_mono (fun m l hk => aapp_mono (fun r σ' h' => ?_) hk) h
    exact ⟨h'.1, SLe.x h'.1 _, r, rfl, h'.2⟩
  | make d l c z sz =>
    refine ⟨_, hN, ?_⟩
    simp only [aopD, aop, AOp.rd, List.mem_append] at h hr ⊢
    rw [hfe, ev_eq fun t ht => hr t (.inl ht), ev_eq fun t ht => hr t (.inr ht)]
    split at h
    · exact ⟨h.1, (hsl _).x _, _, rfl, h.2⟩
    · exact h.elim
  | call d j args =>
    refine ⟨N, Nat.le_refl _, ?_⟩
    simp only [aopD, AOp.rd] at h hr ⊢
    rw [opdsRd_eq hr]
    exact (h.frame hb).mono fun r σ' h' => ⟨h'.1, SLe.x h'.1 _, r, rfl, h'.2⟩
  | calv d f args =>
    refine ⟨N, Nat.le_refl _, ?_⟩
    simp only [aopD, AOp.rd, List.mem_append] at h hr ⊢
    rw [ev_eq fun t ht => hr t (.inl ht), opdsRd_eq fun t ht => hr t (.inr ht)]
    split at h
    · exact (h.frame hb).mono fun r σ' h' => ⟨h'.1, SLe.x h'.1 _, r, rfl, h'.2⟩
    · exact h.elim
  | callp d j args =>
    refine ⟨N, Nat.le_refl _, ?_⟩
    simp only [aopD, aop, AOp.rd] at h hr ⊢
    rw [opdsRd_eq hr]
    obtain ⟨r, h1, h2⟩ := h
    exact ⟨r, h1, SLx.refl _ σ, r, rfl, h2⟩
  | gal d back z =>
    refine ⟨N, Nat.le_refl _, ?_⟩
    simp only [aopD, aop] at h ⊢
    split at h
    · rename_i hg
      exact ⟨h.1, (SLe_fresh _ (.inr hg)).x _, _, rfl, h.2⟩
    · exact h.elim
  | storeA n a x pts => simp [plain] at hp
  | bad d => exact h.elim
  | appe d s x sz => cases he
  | calle d j args => cases he
  | calve d f args => cases he
  | mkmap d =>
    refine ⟨_, hN, ?_⟩
    simp only [aopD, aop] at h ⊢
    rw [hfe]
    exact ⟨(hsl _).x _, _, rfl, h⟩
  | mapset m k v =>
    refine ⟨N, Nat.le_refl _, ?_⟩
    simp only [aopD, aop, AOp.rd, List.mem_append] at h hr ⊢
    rw [ev_eq fun t ht => hr t (.inl ht), ev_eq fun t ht => hr t (.inr (.inl ht)), ev_eq fun t ht => hr t (.inr (.inr ht))]
    split at h
    · rename_i l a b _ _ _
      split at h
      · rename_i kvs hg
        refine ⟨⟨fun l' ver hl => ?_, fun e => by simp [isStore] at e⟩, .u, rfl, h⟩
        unfold live at hl ⊢
        rw [sget_sput]
        by_cases e : l' = l
        · subst e; rw [hg] at hl; exact hl.elim
        · rw [if_neg e]; exact hl
      · exact h.elim
    · exact h.elim
  | appz d s n z sz =>
    refine ⟨_, hN, ?_⟩
    simp only [aopD, aop, AOp.rd, List.mem_append] at h hr ⊢
    rw [hfe, ev_eq fun t ht => hr t (.inl ht), ev_eq fun t ht => hr t (.inr ht)]
    split at h
    · exact ⟨h.1, (hsl _).x _, _, rfl, h.2⟩
    · exact h.elim

/-- The same with its guard, what is known of the guard not put better. -/
def gopD (P : Program) (inv : Nat → Option Nat) (w0 : World) (M : Nat → Prop) (N : Nat) (g : GOp) (φ : AF) (σ : AS) (K : AF → AS → Prop) : Prop :=
  match g with
  | (none, o) => aopD P inv w0 M N o φ σ K
  | (some (s, want), o) => (∃ t, fget φ s = .b t ∧ (t = want → aopD P inv w0 M N o φ σ K) ∧ (¬ t = want → K (putO φ o.dst .u) σ)) ∨ (fget φ s = .u ∧ K (putO φ o.dst .u) σ)
def awpL (P : Program) (inv : Nat → Option Nat) (w0 : World) (M : Nat → Prop) (N : Nat) : List GOp → (AF → AS → Prop) → AF → AS → Prop
  | [], K, φ, σ => K φ σ
  | g :: r, K, φ, σ => gopD P inv w0 M N g φ σ (awpL P inv w0 M N r K)
theorem awpL_of : ∀ {l : List GOp} {K : AF → AS → Prop} {φ : AF} {σ : AS}, awpOpsD P inv w0 M N l K φ σ → awpL P inv w0 M N l K φ σ := by
  intro l
  induction l with
  | nil => exact fun h => h
  | cons g l ih =>
    intro K φ σ h
    have mono : ∀ {o : AOp} {φ : AF} {σ : AS}, aopD P inv w0 M N o φ σ (awpOpsD P inv w0 M N l K) → aopD P inv w0 M N o φ σ (awpL P inv w0 M N l K) := by
      intro o φ σ h
      exact aopD_mono (fun _ _ h => ih h) h
    obtain ⟨g, o⟩ := g
    cases g with
    | none => exact mono h
    | some sw =>
      obtain ⟨s, want⟩ := sw
      cases want <;> simp only [awpOpsD] at h <;> split at h
      all_goals first | exact h.elim | skip
      · rename_i t et
        refine .inl ⟨t, et, fun e => ?_, fun e => ?_⟩
        · have := h.2 e; rw [fref_id (by rw [et, e])] at this; exact mono this
        · have e' : t = true := by simpa using e
          have := h.1 e'; rw [fref_id (by rw [et, e'])] at this; exact ih this
      · rename_i et; exact .inr ⟨et, ih h⟩
      · rename_i t et
        refine .inl ⟨t, et, fun e => ?_, fun e => ?_⟩
        · have := h.1 e; rw [fref_id (by rw [et, e])] at this; exact mono this
        · have e' : t = false := by simpa using e
          have := h.2 e'; rw [fref_id (by rw [et, e'])] at this; exact ih this
      · rename_i et; exact .inr ⟨et, ih h⟩
end
end Go.Eng
