/-
  THE ENGINE, PART Q: a region whose order is drawn comes to what the walked order comes to.
-/
import Derived.Test.YtclilifadifkgaaEngP
namespace Go.Eng
open Go.RowKit

theorem sput_comm {a b : Nat} (hne : a ≠ b) (x y : AO) : ∀ σ : AS, sput (sput σ a x) b y = sput (sput σ b y) a x
  | [] => by
    simp only [sput]
    rcases Nat.lt_or_gt_of_ne hne with h | h
    · rw [if_neg (Ne.symm hne), if_neg (by omega), if_neg hne, if_pos h]
    · rw [if_neg (Ne.symm hne), if_pos h, if_neg hne, if_neg (by omega)]
  | (j, z) :: r => by
    have ih := sput_comm hne x y r
    simp only [sput]
    rcases Nat.lt_trichotomy a j with ha | ha | ha <;> rcases Nat.lt_trichotomy b j with hb | hb | hb
    all_goals (try subst ha) <;> (try subst hb)
    all_goals first | (exact absurd rfl hne) | skip
    all_goals (repeat' split) <;> simp only [sput] <;> (repeat' split) <;> first | rfl | omega | (exfalso; contradiction) | (exact absurd trivial (by assumption)) | (simp only [ih]; done) | skip
theorem fbound_fput (d : Nat) (x : AV) : ∀ φ : AF, fbound φ ≤ mx (fget φ d).bound (fbound (fput φ d x))
  | [] => by simp [fbound]
  | (j, y) :: r => by
    simp only [fget, fput]
    by_cases h : d = j
    · rw [if_pos h, if_pos h]
      simp only [fbound]
      exact mx_le (le_mx_left _ _) (Nat.le_trans (le_mx_right x.bound (fbound r)) (le_mx_right _ _))
    · rw [if_neg h, if_neg h]
      split
      · simp only [fbound]
        exact Nat.le_trans (le_mx_right x.bound _) (le_mx_right _ _)
      · simp only [fbound]
        have ih := fbound_fput d x r
        refine mx_le (Nat.le_trans (le_mx_left _ _) (le_mx_right _ _)) (Nat.le_trans ih (mx_le (le_mx_left _ _) (Nat.le_trans (le_mx_right _ _) (le_mx_right _ _))))

section
variable {P : Program} {inv : Nat → Option Nat} {w0 : World} {M : Nat → Prop} {n N : Nat} {φ φ1 : AF} {σ : AS}

theorem gopD_mono {g : GOp} {K1 K2 : AF → AS → Prop} (hk : ∀ φ σ, K1 φ σ → K2 φ σ) (h : gopD P inv w0 M N g φ σ K1) : gopD P inv w0 M N g φ σ K2 := by
  obtain ⟨gd, o⟩ := g
  cases gd with
  | none => exact aopD_mono hk h
  | some sw =>
    rcases h with ⟨t, e, h1, h2⟩ | ⟨e, h⟩
    · exact .inl ⟨t, e, fun k => aopD_mono hk (h1 k), fun k => hk _ _ (h2 k)⟩
    · exact .inr ⟨e, hk _ _ h⟩
theorem gopD_val {g : GOp} {K : AF → AS → Prop} (hv : isVal g.2 = true) (h : gopD P inv w0 M N g φ σ K) :
    ∃ d x, g.2.dst = some d ∧ K (fput φ d x) σ ∧ ∀ (φ' : AF) (σ' : AS) (K' : AF → AS → Prop), (∀ t ∈ grd g, fget φ' t = fget φ t) → SLx (isLdO g.2) σ σ' → K' (fput φ' d x) σ' → gopD P inv w0 M N g φ' σ' K' := by
  obtain ⟨gd, o⟩ := g
  have key : aopD P inv w0 M N o φ σ K → ∃ d x, o.dst = some d ∧ K (fput φ d x) σ ∧ ∀ (φ' : AF) (σ' : AS) (K' : AF → AS → Prop), (∀ t ∈ o.rd, fget φ' t = fget φ t) → SLx (isLdO o) σ σ' → K' (fput φ' d x) σ' → aopD P inv w0 M N o φ' σ' K' := by
    clear h
    intro h
    cases o with
    | set d e =>
      simp only [aopD, aop] at h
      obtain ⟨x, k1, k2⟩ := det_aval e _ h
      refine ⟨d, x, rfl, k1, fun φ' σ' K' hr hs hk => ?_⟩
      simp only [aopD, aop]
      rw [aval_eq hr]
      exact k2 σ' hs _ hk
    | callp d j args =>
      simp only [aopD, aop] at h
      obtain ⟨x, k1, k2⟩ := h
      refine ⟨d, x, rfl, k2, fun φ' σ' K' hr hs hk => ?_⟩
      simp only [aopD, aop]
      simp only [AOp.rd] at hr
      rw [opdsRd_eq hr]
      refine ⟨x, fun N' φ2 σ2 h2 => k1 N' φ2 σ2 fun l o e hne => ?_, hk⟩
      exact h2 l o ((hs.2 rfl) l o e hne) hne
    | _ => simp [isVal] at hv
  have hdst : ∃ d, o.dst = some d := by cases o <;> simp only [isVal, Bool.false_eq_true] at hv <;> exact ⟨_, rfl⟩
  cases gd with
  | none => exact key h
  | some sw =>
    obtain ⟨s, want⟩ := sw
    obtain ⟨d, hd⟩ := hdst
    rcases h with ⟨t, et, h1, h2⟩ | ⟨et, h⟩
    · by_cases htw : t = want
      · obtain ⟨d', x, k0, k1, k2⟩ := key (h1 htw)
        refine ⟨d', x, k0, k1, fun φ' σ' K' hr hs hk => .inl ⟨t, ?_, fun _ => k2 φ' σ' K' (fun t ht => hr t ?_) hs hk, fun e => absurd htw e⟩⟩
        · rw [hr s (by simp [grd])]; exact et
        · simp only [grd, List.mem_cons]; exact .inr ht
      · have h3 := h2 htw
        rw [hd] at h3
        refine ⟨d, .u, hd, h3, fun φ' σ' K' hr hs hk => .inl ⟨t, ?_, fun e => absurd e htw, fun _ => by rw [hd]; exact hk⟩⟩
        rw [hr s (by simp [grd])]; exact et
    · rw [hd] at h
      refine ⟨d, .u, hd, h, fun φ' σ' K' hr hs hk => .inr ⟨?_, by rw [hd]; exact hk⟩⟩
      rw [hr s (by simp [grd])]; exact et
theorem gopD_sw {g : GOp} {K : AF → AS → Prop} (hp : plain g.2 = g.2) (he : isEff g.2 = false) (h : gopD P inv w0 M N g φ1 σ K) (hr : ∀ t ∈ grd g, fget φ t = fget φ1 t) (hb : fbound φ ≤ mx N (fbound φ1)) :
    ∃ N2, N ≤ N2 ∧ gopD P inv w0 M N2 g φ σ (Sw g.2 φ φ1 σ K) := by
  obtain ⟨gd, o⟩ := g
  cases gd with
  | none => exact aopD_sw hp he h hr hb
  | some sw =>
    obtain ⟨s, want⟩ := sw
    have hrs : fget φ s = fget φ1 s := hr s (by simp [grd])
    have hro : ∀ t ∈ o.rd, fget φ t = fget φ1 t := fun t ht => hr t (by simp only [grd, List.mem_cons]; exact .inr ht)
    rcases h with ⟨t, et, h1, h2⟩ | ⟨et, h⟩
    · by_cases htw : t = want
      · obtain ⟨N2, hN, h3⟩ := aopD_sw hp he (h1 htw) hro hb
        exact ⟨N2, hN, .inl ⟨t, hrs.trans et, fun _ => h3, fun e => absurd htw e⟩⟩
      · exact ⟨N, Nat.le_refl _, .inl ⟨t, hrs.trans et, fun e => absurd e htw, fun _ => ⟨.refl _ σ, .u, rfl, h2 htw⟩⟩⟩
    · exact ⟨N, Nat.le_refl _, .inr ⟨hrs.trans et, .refl _ σ, .u, rfl, h⟩⟩

/-- What is read where pts say is as it was. -/
def Far (pts : List Opd) (φ : AF) (σ σ' : AS) : Prop := ∀ p ∈ pts, ∀ m v, aload σ m (ev φ p) = some v → aload σ' m (ev φ p) = some v
theorem aload_far {l : Nat} {o : AO} {v y : AV} {m : Option Nat} (h : awayV l v = true) (hl : aload σ m v = some y) : aload (sput σ l o) m v = some y := by
  cases v <;> simp only [aload] at hl ⊢ <;> try exact hl
  have h' : ∀ {a : Nat}, a.beq l = false → a ≠ l := fun e e' => by subst e'; simp at e
  simp only [awayV, Bool.not_eq_true'] at h
  rw [sget_sput, if_neg (h' h)]
  exact hl
theorem gopD_base {i : GOp} {K : AF → AS → Prop} (h : gopD P inv w0 M N i φ σ K) :
    ∃ N2, N ≤ N2 ∧ gopD P inv w0 M N2 (plainG i) φ σ (fun φ' σ' => (∃ r, φ' = putO φ i.2.dst r ∧ K φ' σ') ∧ Far (ptsOf i.2) φ σ σ') := by
  obtain ⟨gd, o⟩ := i
  cases heff : isEff o with
  | true =>
    refine ⟨N, Nat.le_refl _, ?_⟩
    have he : plainG (gd, o) = (gd, o) := by cases o <;> first | rfl | cases heff
    rw [he]
    have key : aopD P inv w0 M N o φ σ K → aopD P inv w0 M N o φ σ (fun φ' σ' => (∃ r, φ' = putO φ o.dst r ∧ K φ' σ') ∧ Far (ptsOf o) φ σ σ') := by
      intro h
      cases o <;> first | (cases heff; done) | skip
      · simp only [aopD, aop] at h ⊢
        exact h.mono fun r σ' h' => ⟨⟨r, rfl, h'⟩, fun p hp => by cases hp⟩
      · simp only [aopD, aop] at h ⊢
        split at h
        · exact h.mono fun r σ' h' => ⟨⟨r, rfl, h'⟩, fun p hp => by cases hp⟩
        · exact h.elim
      · simp only [aopD, aop] at h ⊢
        exact asrc_mono (fun m l h => aapp_mono (fun r σ' h' => ⟨⟨r, rfl, h'⟩, fun p hp => by cases hp⟩) h) h
    have hpt : ptsOf o = [] := by cases o <;> first | rfl | cases heff
    cases gd with
    | none => exact key h
    | some sw =>
      obtain ⟨s, want⟩ := sw
      rcases h with ⟨t, et, h1, h2⟩ | ⟨et, h⟩
      · exact .inl ⟨t, et, fun e => key (h1 e), fun e => ⟨⟨.u, rfl, h2 e⟩, fun p hp => by simp only [hpt] at hp; cases hp⟩⟩
      · exact .inr ⟨et, ⟨.u, rfl, h⟩, fun p hp => by simp only [hpt] at hp; cases hp⟩
  | false =>
  by_cases hp : plain o = o
  · obtain ⟨N2, hN, h2⟩ := gopD_sw (g := (gd, o)) (φ := φ) hp heff h (fun _ _ => rfl) (le_mx_right _ _)
    refine ⟨N2, hN, ?_⟩
    have he : plainG (gd, o) = (gd, o) := by unfold plainG; simp only [hp]
    rw [he]
    refine gopD_mono (fun φ' σ' hk => ?_) h2
    obtain ⟨_, r, rfl, hk⟩ := hk
    refine ⟨⟨r, rfl, hk⟩, ?_⟩
    cases o <;> first | (intro p hp'; cases hp'; done) | (simp [plain] at hp)
  · cases o <;> first | (exact absurd rfl hp) | skip
    rename_i nn a x pts
    refine ⟨N, Nat.le_refl _, ?_⟩
    have key : aopD P inv w0 M N (.storeA nn a x pts) φ σ K → aopD P inv w0 M N (.store nn a x) φ σ (fun φ' σ' => (∃ r, φ' = putO φ (AOp.storeA nn a x pts).dst r ∧ K φ' σ') ∧ Far pts φ σ σ') := by
      intro h
      simp only [aopD, aop] at h ⊢
      split at h
      · rename_i l ver off e
        have hf := h.1
        have h := h.2
        split at h
        · exact ⟨h.1, h.2.1, h.2.2.1, h.2.2.2.1, ⟨.u, rfl, h.2.2.2.2⟩, fun p hp m v hv => aload_far (List.all_eq_true.1 hf p hp) hv⟩
        · exact h.elim
      · exact h.elim
    cases gd with
    | none => exact key h
    | some sw =>
      obtain ⟨s, want⟩ := sw
      rcases h with ⟨t, et, h1, h2⟩ | ⟨et, h⟩
      · exact .inl ⟨t, et, fun e => key (h1 e), fun e => ⟨⟨.u, rfl, h2 e⟩, fun _ _ _ _ h => h⟩⟩
      · exact .inr ⟨et, ⟨.u, rfl, h⟩, fun _ _ _ _ h => h⟩
theorem gopD_ld {g : GOp} {d : Nat} {m : Option Nat} {p : Opd} {K : AF → AS → Prop} (hg : g.2 = .set d (.load m p)) (h : gopD P inv w0 M N g φ σ K) :
    ∃ x, K (fput φ d x) σ ∧ ∀ (φ' : AF) (σ' : AS) (K' : AF → AS → Prop), (∀ t ∈ grd g, fget φ' t = fget φ t) → (∀ v, aload σ m (ev φ p) = some v → aload σ' m (ev φ p) = some v) → K' (fput φ' d x) σ' → gopD P inv w0 M N g φ' σ' K' := by
  obtain ⟨gd, o⟩ := g
  simp only at hg
  subst hg
  have key : aopD P inv w0 M N (.set d (.load m p)) φ σ K → ∃ x, K (fput φ d x) σ ∧ ∀ (φ' : AF) (σ' : AS) (K' : AF → AS → Prop), (∀ t ∈ p.rd, fget φ' t = fget φ t) → (∀ v, aload σ m (ev φ p) = some v → aload σ' m (ev φ p) = some v) → K' (fput φ' d x) σ' → aopD P inv w0 M N (.set d (.load m p)) φ' σ' K' := by
    clear h
    intro h
    simp only [aopD, aop, aval] at h
    obtain ⟨v, e, hk⟩ := obind_elim h
    refine ⟨v, hk, fun φ' σ' K' hr hs hk' => ?_⟩
    simp only [aopD, aop, aval]
    rw [ev_eq hr, hs v e]
    exact hk'
  cases gd with
  | none => exact key h
  | some sw =>
    obtain ⟨s, want⟩ := sw
    rcases h with ⟨t, et, h1, h2⟩ | ⟨et, h⟩
    · by_cases htw : t = want
      · obtain ⟨x, k1, k2⟩ := key (h1 htw)
        refine ⟨x, k1, fun φ' σ' K' hr hs hk => .inl ⟨t, ?_, fun _ => k2 φ' σ' K' (fun t ht => hr t ?_) hs hk, fun e => absurd htw e⟩⟩
        · rw [hr s (by simp [grd])]; exact et
        · simp only [grd, List.mem_cons]; exact .inr ht
      · refine ⟨.u, h2 htw, fun φ' σ' K' hr hs hk => .inl ⟨t, ?_, fun e => absurd e htw, fun _ => hk⟩⟩
        rw [hr s (by simp [grd])]; exact et
    · refine ⟨.u, h, fun φ' σ' K' hr hs hk => .inr ⟨?_, hk⟩⟩
      rw [hr s (by simp [grd])]; exact et

/-- Of j, which stands ahead of i, when i comes first: they do not meet. -/
def Apart (j i : GOp) : Prop := (isGal j = true ∧ isGal i = true ∧ dstNe j.2.dst i.2.dst = true) ∨ (isVal j.2 = true ∧ isEff i.2 = false ∧ (isStore i.2 && isLdO j.2) = false ∧ dstNe j.2.dst i.2.dst = true ∧ dstIn (grd i) j.2.dst = false ∧ dstIn (grd j) i.2.dst = false) ∨
  ldPt j.2 (ptsOf i.2) = true ∧ isEff i.2 = false ∧ dstNe j.2.dst i.2.dst = true ∧ dstIn (grd i) j.2.dst = false ∧ dstIn (grd j) i.2.dst = false ∧ dstIn (grd j) j.2.dst = false
theorem ldPt_spec {o : AOp} {pts : List Opd} (h : ldPt o pts = true) : ∃ d m s, o = .set d (.load m (.t s)) ∧ (.t s : Opd) ∈ pts := by
  unfold ldPt at h
  split at h
  · obtain ⟨q, hq, h⟩ := List.any_eq_true.1 h
    split at h
    · simp only [Nat.beq_eq] at h; subst h; exact ⟨_, _, _, rfl, hq⟩
    · cases h
  · cases h
theorem plain_plain (o : AOp) : plain (plain o) = plain o := by cases o <;> rfl
theorem isStore_plain (o : AOp) : isStore (plain o) = isStore o := by cases o <;> rfl
theorem dst_plain (o : AOp) : (plain o).dst = o.dst := by cases o <;> rfl
theorem rd_plain (o : AOp) : (plain o).rd = o.rd := by cases o <;> rfl
theorem grd_plain (g : GOp) : grd (plainG g) = grd g := by obtain ⟨gd, o⟩ := g; cases gd <;> simp only [grd, plainG, rd_plain]
theorem dstNe_ne {a b : Nat} (h : dstNe (some a) (some b) = true) : a ≠ b := by
  intro e
  subst e
  simp [dstNe] at h
theorem putO_get {d : Option Nat} {l : List Nat} (h : dstIn l d = false) (φ : AF) (r : AV) : ∀ t ∈ l, fget (putO φ d r) t = fget φ t := by
  intro t ht
  cases d with
  | none => rfl
  | some d =>
    simp only [putO]
    rw [fget_fput, if_neg (dstIn_false h t ht)]
theorem putO_comm {d : Nat} {d' : Option Nat} (h : dstNe (some d) d' = true) (φ : AF) (x r : AV) : putO (fput φ d x) d' r = fput (putO φ d' r) d x := by
  cases d' with
  | none => rfl
  | some d' => simp only [putO]; exact fput_comm (dstNe_ne h) x r φ
def FarL (l : List GOp) (pts : List Opd) (φ : AF) (σ σ' : AS) : Prop := ∀ p ∈ pts, (∀ k ∈ l, dstIn p.rd k.2.dst = false) → ∀ m v, aload σ m (ev φ p) = some v → aload σ' m (ev φ p) = some v
theorem swapL {i : GOp} {l2 : List GOp} {K : AF → AS → Prop} : ∀ {l1 : List GOp} {φ : AF} {σ : AS}, awpL P inv w0 M N (l1 ++ i :: l2) K φ σ → (∀ j ∈ l1, Apart j i) → l1.Pairwise (fun j k => dstNe j.2.dst k.2.dst = true ∧ (isLdS j.2 = true → dstIn (grd j) k.2.dst = false)) →
    (∀ j ∈ l1, ∀ d, j.2.dst = some d → (fget φ d).bound ≤ N) → ∃ N2, N ≤ N2 ∧ gopD P inv w0 M N2 (plainG i) φ σ (fun φ' σ' => (∃ r, φ' = putO φ i.2.dst r ∧ awpL P inv w0 M N (l1 ++ l2) K φ' σ') ∧ FarL l1 (ptsOf i.2) φ σ σ')
  | [], φ, σ, h, _, _, _ => by
    obtain ⟨N2, hN, h2⟩ := gopD_base (φ := φ) h
    exact ⟨N2, hN, gopD_mono (fun φ' σ' hk => ⟨hk.1, fun p hp _ => hk.2 p hp⟩) h2⟩
  | j :: l1, φ, σ, h, ha, hp, hb => by
    rw [List.pairwise_cons] at hp
    have tail : isEff i.2 = false → ∀ d x, j.2.dst = some d → dstNe j.2.dst i.2.dst = true → dstIn (grd i) j.2.dst = false → dstIn (grd j) i.2.dst = false → awpL P inv w0 M N (l1 ++ i :: l2) K (fput φ d x) σ →
        (∀ (φ' : AF) (σ' : AS) (K' : AF → AS → Prop), (∀ t ∈ grd j, fget φ' t = fget φ t) → SLx (!isStore i.2) σ σ' → FarL l1 (ptsOf i.2) (fput φ d x) σ σ' → K' (fput φ' d x) σ' → gopD P inv w0 M N j φ' σ' K') →
        ∃ N2, N ≤ N2 ∧ gopD P inv w0 M N2 (plainG i) φ σ (fun φ' σ' => (∃ r, φ' = putO φ i.2.dst r ∧ awpL P inv w0 M N (j :: l1 ++ l2) K φ' σ') ∧ FarL (j :: l1) (ptsOf i.2) φ σ σ') := by
      intro heff d x hd a3 a4 a5 hk hback
      rw [hd] at a3 a4
      obtain ⟨N2, hN, h2⟩ := swapL (φ := fput φ d x) hk (fun j hj => ha j (by simp [hj])) hp.2 (fun j' hj d' hd' => by
        rw [fget_fput, if_neg]
        · exact hb j' (by simp [hj]) d' hd'
        · have := (hp.1 j' hj).1
          rw [hd, hd'] at this
          exact Ne.symm (dstNe_ne this))
      have hbd : fbound φ ≤ mx N2 (fbound (fput φ d x)) := by
        refine Nat.le_trans (fbound_fput d x φ) (mx_le ?_ (le_mx_right _ _))
        exact Nat.le_trans (hb j (by simp) d hd) (Nat.le_trans hN (le_mx_left _ _))
      obtain ⟨N3, hN3, h3⟩ := gopD_sw (g := plainG i) (φ := φ) (plain_plain _) (by rw [← heff]; unfold plainG; cases i.2 <;> rfl) h2 (fun t ht => by rw [grd_plain] at ht; rw [fget_fput, if_neg (dstIn_false a4 t ht)]) hbd
      refine ⟨N3, Nat.le_trans hN hN3, gopD_mono (fun φ' σ' hk => ?_) h3⟩
      obtain ⟨hle, r, rfl, ⟨r', _, hk⟩, hfar⟩ := hk
      simp only [plainG, isStore_plain, dst_plain] at hle hk ⊢
      refine ⟨⟨r, rfl, ?_⟩, fun p hp' hk' m v hv => ?_⟩
      · show gopD P inv w0 M N j _ σ' (awpL P inv w0 M N (l1 ++ l2) K)
        refine hback _ _ _ (putO_get a5 φ r) hle hfar ?_
        rw [← putO_comm a3]
        exact hk
      · have hev : ev (fput φ d x) p = ev φ p := ev_eq fun t ht => by
          have := hk' j (by simp)
          rw [hd] at this
          rw [fget_fput, if_neg (dstIn_false this t ht)]
        have := hfar p hp' (fun k hk2 => hk' k (by simp [hk2])) m v
        rw [hev] at this
        exact this hv
    rcases ha j (by simp) with ⟨g1, g2, g3⟩ | ⟨a1, a0, a2, a3, a4, a5⟩ | ⟨a1, a0, a3, a4, a5, a6⟩
    · obtain ⟨jg, jo⟩ := j
      obtain ⟨ig, io⟩ := i
      cases jg <;> cases jo <;> simp only [isGal, Bool.false_eq_true] at g1
      cases ig <;> cases io <;> simp only [isGal, Bool.false_eq_true] at g2
      rename_i d back z di backi zi
      clear tail
      simp only [AOp.dst] at g3
      simp only [List.cons_append, awpL, gopD, aopD, aop] at h
      split at h
      · rename_i hg
        obtain ⟨N2, hN, h2⟩ := swapL h.2 (fun j hj => ha j (by simp [hj])) hp.2 (fun j' hj d' hd' => by
          rw [fget_fput, if_neg]
          · exact hb j' (by simp [hj]) d' hd'
          · have := (hp.1 j' hj).1
            rw [hd'] at this
            exact Ne.symm (dstNe_ne this))
        refine ⟨N2, hN, ?_⟩
        simp only [plainG, plain, gopD, aopD, aop] at h2 ⊢
        rw [sget_sput] at h2
        split at h2
        · rename_i hg2
          split at hg2
          · cases hg2
          · rename_i hne
            rw [hg2]
            refine ⟨h2.1, ⟨_, rfl, ?_⟩, fun p hp => by cases hp⟩
            obtain ⟨⟨r, hr, hk⟩, _⟩ := h2.2
            simp only [List.cons_append, awpL, gopD, aopD, aop]
            rw [sget_sput, if_neg (Ne.symm hne), hg]
            refine ⟨h.1, ?_⟩
            rw [← sput_comm (Ne.symm hne), ← fput_comm (dstNe_ne g3)]
            exact hk
        · exact h2.elim
      · exact h.elim
    · obtain ⟨d, x, hd, hk, hback⟩ := gopD_val a1 h
      exact tail a0 d x hd a3 a4 a5 hk fun φ' σ' K' hr hle _ hk' => hback φ' σ' K' hr ⟨hle.1, fun e => hle.2 (by rw [e] at a2; simpa using a2)⟩ hk'
    · obtain ⟨d, m, s, hj, hmem⟩ := ldPt_spec a1
      obtain ⟨x, hk, hback⟩ := gopD_ld hj h
      have hd : j.2.dst = some d := by rw [hj]; rfl
      have hsub : ∀ t ∈ (Opd.t s).rd, t ∈ grd j := by
        intro t ht
        obtain ⟨gd, o⟩ := j
        simp only at hj
        subst hj
        cases gd <;> simp_all [grd, AOp.rd, AVal.rd]
      have hno : ∀ k : Option Nat, dstIn (grd j) k = false → dstIn (Opd.t s).rd k = false := by
        intro k hk
        cases k with
        | none => rfl
        | some k =>
          cases e : dstIn (Opd.t s).rd (some k) with
          | false => rfl
          | true =>
            simp only [dstIn] at e hk
            rw [memN_iff.2 (hsub k (memN_iff.1 e))] at hk
            cases hk
      refine tail a0 d x hd a3 a4 a5 hk fun φ' σ' K' hr hle hfar hk' => hback φ' σ' K' hr (fun v hv => ?_) hk'
      have hev : ev (fput φ d x) (.t s) = ev φ (.t s) := ev_eq fun t ht => by
        have := hno _ a6
        rw [hd] at this
        rw [fget_fput, if_neg (dstIn_false this t ht)]
      have := hfar (.t s) hmem (fun k hk2 => hno _ ((hp.1 k hk2).2 (by rw [hj]; rfl))) m v
      rw [hev] at this
      exact this hv

theorem aop_of_aopD {o : AOp} {K : AF → AS → Prop} (h : aopD P inv w0 M N o φ σ K) : aop P inv w0 M N o φ σ K := by
  cases o with
  | app d s x sz =>
    simp only [aopD, aop] at h ⊢
    exact asrc_mono (fun m l h => aapp_mono (fun r σ' h' => h'.2) h) h
  | call d j args => simp only [aopD] at h; simp only [aop]; exact h.mono fun r σ' h' => h'.2
  | calv d f args =>
    simp only [aopD] at h
    simp only [aop]
    split at h
    · exact h.mono fun r σ' h' => h'.2
    · exact h.elim
  | _ => exact h
end

/-- The same, what a call leaves not looked at. -/
def gopW (P : Program) (inv : Nat → Option Nat) (w0 : World) (M : Nat → Prop) (N : Nat) (g : GOp) (φ : AF) (σ : AS) (K : AF → AS → Prop) : Prop :=
  match g with
  | (none, o) => aop P inv w0 M N o φ σ K
  | (some (s, want), o) => (∃ t, fget φ s = .b t ∧ (t = want → aop P inv w0 M N o φ σ K) ∧ (¬ t = want → K (putO φ o.dst .u) σ)) ∨ (fget φ s = .u ∧ K (putO φ o.dst .u) σ)
theorem gopW_of {P : Program} {inv : Nat → Option Nat} {w0 : World} {M : Nat → Prop} {N : Nat} {g : GOp} {φ : AF} {σ : AS} {K : AF → AS → Prop} (h : gopD P inv w0 M N g φ σ K) : gopW P inv w0 M N g φ σ K := by
  obtain ⟨gd, o⟩ := g
  cases gd with
  | none => exact aop_of_aopD h
  | some sw =>
    obtain ⟨s, want⟩ := sw
    rcases h with ⟨t, et, h1, h2⟩ | h
    · exact .inl ⟨t, et, fun e => aop_of_aopD (h1 e), h2⟩
    · exact .inr h
section
variable {P : Program} {inv : Nat → Option Nat} {w0 : World} {M : Nat → Prop} {n N : Nat} {φ : AF} {σ : AS} {β : Nat → Nat} {a : Act} {w : World}
theorem gop_sound (hE : Callable P inv) (hM : ∀ b, M b → b < w0.heap.size) {ops : Array Oper} {Q : Exit → Act → World → Prop} {K : AF → AS → Prop} {i : Nat} {o : Oper} {g : GOp} (ho : ops[i]? = some o)
    (hg : cguard n ops o.guard = some g.1) (hop : compileOp P inv n o = some g.2) (h : gopW P inv w0 M N g φ σ K) (hs : St inv w0 M n φ σ β a w) {next : Act → World → Prop}
    (hn : ∀ φ' σ' β' a' w', K φ' σ' → St inv w0 M n φ' σ' β' a' w' → Ext N (ctx inv M σ β w) (ctx inv M σ' β' w') → next a' w') : wpOp P ops Q i next a w := by
  obtain ⟨hd1, hd2⟩ := compileOp_dst hop
  obtain ⟨g, op⟩ := g
  have go : Region.wanted o (yielded ops a.tmps) = true → aop P inv w0 M N op φ σ K → wpOp P ops Q i next a w := by
    intro hw h
    unfold wpOp
    simp only [ho, hw, if_true]
    exact .inl (op_sound hE hM hs hop h hn)
  have skip : Region.wanted o (yielded ops a.tmps) = false → K (putO φ op.dst .u) σ → wpOp P ops Q i next a w := by
    intro hw h
    unfold wpOp
    simp only [ho, hw, Bool.false_eq_true, if_false]
    simp only at hd1
    rw [hd1] at h
    exact hn _ _ _ _ _ h (hs.skip hd2) (.refl _ _)
  cases hgd : o.guard with
  | none =>
    rw [hgd] at hg
    simp only [cguard, Option.some.injEq] at hg
    subst hg
    exact go (by simp [Region.wanted, hgd]) h
  | some jw =>
    obtain ⟨j, want⟩ := jw
    rw [hgd] at hg
    simp only [cguard] at hg
    split at hg
    · rename_i s hj
      split at hg
      · rename_i hlt
        simp only [Option.some.injEq] at hg
        subst hg
        have hy := yielded_of (a := a) hj (by rw [hs.size]; exact hlt)
        have hsl := hs.slots s
        rcases h with ⟨t, et, h1, h2⟩ | ⟨et, h⟩
        · rw [et] at hsl
          simp only [rel] at hsl
          have hw : Region.wanted o (yielded ops a.tmps) = decide (t = want) := by
            simp only [Region.wanted, hgd, hy, hsl]
            cases t <;> cases want <;> rfl
          by_cases htw : t = want
          · exact go (by rw [hw]; simpa using htw) (h1 htw)
          · exact skip (by rw [hw]; simpa using htw) (h2 htw)
        · rw [et] at hsl
          simp only [rel] at hsl
          refine skip ?_ h
          simp only [Region.wanted, hgd, hy, hsl]
          rfl
      · cases hg
    · cases hg

theorem St.gal (hs : St inv w0 M n φ σ β a w) {d l : Nat} (hd : d < n) (hg : sget σ l = some .rsv) {cs : List AV} {xs : Array Value} {ty : TypeId} (hpos : 0 < cs.length) (hcb : AV.boundL cs = 0) (hlen : cs.length = xs.size) (hrel : relCs (ctx inv M σ β w) cs xs.toList) :
    St inv w0 M n (fput φ d (.ptr l cs.length 0)) (sput σ l (.cells cs true)) (upd β l w.heap.size) (a.put (some d) (.pointer (some ⟨w.heap.size, 0, none⟩))) (w.alloc (.cells xs ty)) ∧
    Ext N (ctx inv M σ β w) (ctx inv M (sput σ l (.cells cs true)) (upd β l w.heap.size) (w.alloc (.cells xs ty))) := by
  have hnew : (w.alloc (.cells xs ty)).heap[w.heap.size]? = some (.cells xs ty (0, 0)) := heap_alloc_new w _
  have h := hs.mem.put (l := l) (b' := w.heap.size) (cs' := cs) (xs' := xs) (ty := ty) (w' := w.alloc (.cells xs ty)) (N := fresh N φ σ) (hs.mem.below.alloc hs.mem.below.size _) (by simp)
    (fun b hb _ => Below.heap_alloc _ _ _ hb) hnew (by omega) hs.mem.below.size (fun l' o' _ e hr => by have := (hs.mem.own l' o' e hr).2; omega) (.inl (Nat.le_refl _))
    (fun l' o' e _ => Nat.le_trans (sbound_get σ l' o' e).2 (fresh_le N φ σ).2.2) (by omega)
    (fun _ p' hp' => by
      simp only [Option.some.injEq] at hp'
      subst hp'
      refine ⟨⟨0, 0, 0, false⟩, by unfold place; rw [hg], Nat.zero_le _, fun e => ?_⟩
      simp only at e
      omega) (by rw [hlen, ← Array.length_toList, List.take_length]; exact hrel)
  refine ⟨hs.put h.1 h.2 (fresh_le N φ σ).2.1 hd ?_, h.2.mono (fresh_le N φ σ).1⟩
  refine rel_ptr_mk (p := ⟨w.heap.size, cs.length, xs.size, true⟩) ?_ rfl
  unfold place
  rw [sget_sput, if_pos rfl]
  simp only [upd_same, blockSize, hnew]

/-- What is walked for what is made. -/
def Tr (g0 g : GOp) : Prop := g = g0 ∨ (∃ gd d j l, g0 = (gd, .call (some d) j l) ∧ g = (gd, .callp d j l)) ∨ (∃ d z back, g0 = (none, .alloc d z) ∧ g = (none, .gal d back z)) ∨ (∃ gd d j l, g0 = (gd, .call d j l) ∧ g = (gd, .calle d j l)) ∨ (∃ gd d f l, g0 = (gd, .calv d f l) ∧ g = (gd, .calve d f l)) ∨ (∃ gd d u x sz, g0 = (gd, .app d u x sz) ∧ g = (gd, .appe d u x sz))
theorem inv_alloc {o : Oper} {d : Nat} {z : List (Nat × AV)} (h : compileOp P inv n o = some (.alloc d z)) : ∃ t, o.op = .alloc t ∧ zeroOf P t = some z ∧ o.dst = some d ∧ d < n := by
  have hd := compileOp_dst h
  unfold compileOp at h
  split at h
  · split at h
    · split at h <;> simp at h
    · cases h
  · split at h
    · rename_i op hop
      split at h
      · simp only [Option.some.injEq] at h
        subst h
        have hds : o.dst = some d := hd.1.symm
        refine (?_ : ∃ t, o.op = .alloc t ∧ zeroOf P t = some z).elim fun t ht => ⟨t, ht.1, ht.2, hds, dst_lt hd.2 d hds⟩
        unfold compileEff at hop
        split at hop
        · rename_i t ho
          obtain ⟨z', h1, h2⟩ := Option.map_eq_some_iff.1 hop
          simp only [AOp.alloc.injEq] at h2
          exact ⟨t, ho, by rw [h1, h2.2]⟩
        all_goals (exfalso; revert hop; try unfold ccall)
        all_goals (repeat' split)
        all_goals first | (intro hop; cases hop; done) | (intro hop; simp at hop; done) | (intro hop; obtain ⟨_, _, e⟩ := Option.map_eq_some_iff.1 hop; cases e)
      · cases h
    · split at h
      · simp at h
      · cases h
theorem compileOp_plain {o : Oper} {op : AOp} (h : compileOp P inv n o = some op) : plain op = op := by
  cases op with
  | storeA nn a x pts =>
    exfalso
    unfold compileOp at h
    split at h
    · split at h
      · split at h <;> simp at h
      · cases h
    · split at h
      · rename_i op hop
        split at h
        · simp only [Option.some.injEq] at h
          subst h
          unfold compileEff at hop
          revert hop
          try unfold ccall
          repeat' split
          all_goals first | (intro hop; cases hop; done) | (intro hop; simp at hop; done) | (intro hop; obtain ⟨_, _, e⟩ := Option.map_eq_some_iff.1 hop; cases e)
        · cases h
      · split at h
        · simp at h
        · cases h
  | _ => rfl
theorem Tr.plain {g0 g : GOp} (h : Tr g0 g) (hp : Go.Eng.plain g0.2 = g0.2) : plainG g = g := by
  rcases h with rfl | ⟨gd, d, j, l, rfl, rfl⟩ | ⟨d, z, back, rfl, rfl⟩ | ⟨gd, d, j, l, rfl, rfl⟩ | ⟨gd, d, f, l, rfl, rfl⟩ | ⟨gd, d, u, x, sz, rfl, rfl⟩
  · obtain ⟨gd, o⟩ := g; simp only at hp; simp only [plainG, hp]
  · rfl
  · rfl
  · rfl
  · rfl
  · rfl
theorem gop_sound2 (hE : Callable P inv) (hM : ∀ b, M b → b < w0.heap.size) {ops : Array Oper} {Q : Exit → Act → World → Prop} {K : AF → AS → Prop} {i : Nat} {o : Oper} {g0 g : GOp} (ho : ops[i]? = some o)
    (hg : cguard n ops o.guard = some g0.1) (hop : compileOp P inv n o = some g0.2) (htr : Tr g0 g) (h : gopD P inv w0 M N g φ σ K) (hs : St inv w0 M n φ σ β a w) {next : Act → World → Prop}
    (hn : ∀ φ' σ' β' a' w', K φ' σ' → St inv w0 M n φ' σ' β' a' w' → Ext N (ctx inv M σ β w) (ctx inv M σ' β' w') → next a' w') : wpOp P ops Q i next a w := by
  rcases htr with rfl | ⟨gd, d, j, l, rfl, rfl⟩ | ⟨d, z, back, rfl, rfl⟩ | ⟨gd, d, j, l, rfl, rfl⟩ | ⟨gd, d, f, l, rfl, rfl⟩ | ⟨gd, d, u, x, sz, rfl, rfl⟩
  · exact gop_sound hE hM ho hg hop (gopW_of h) hs hn
  · refine gop_sound (K := K) hE hM ho hg hop (gopW_of ?_) hs hn
    have key : aopD P inv w0 M N (.callp d j l) φ σ K → aopD P inv w0 M N (.call (some d) j l) φ σ K := by
      intro h
      simp only [aopD, aop] at h ⊢
      obtain ⟨r, h1, h2⟩ := h
      refine (h1 N φ σ (.refl σ)).mono fun r' σ'' ⟨e1, e2⟩ => ?_
      subst e1 e2
      exact ⟨.refl _, h2⟩
    cases gd with
    | none => exact key h
    | some sw =>
      obtain ⟨s, want⟩ := sw
      rcases h with ⟨t, et, h1, h2⟩ | h
      · exact .inl ⟨t, et, fun e => key (h1 e), h2⟩
      · exact .inr h
  · obtain ⟨t, h1, h2, h3, h4⟩ := inv_alloc hop
    have hgd : o.guard = none := by
      cases e : o.guard with
      | none => rfl
      | some jw =>
        rw [e] at hg
        simp only [cguard] at hg
        split at hg
        · split at hg <;> simp at hg
        · cases hg
    simp only [gopD, aopD, aop] at h
    split at h
    · rename_i hsg
      obtain ⟨it, zv, hi, hz, hzr⟩ := zeroOf_rel (c := ctx inv M σ β w) h2
      have hlen := relCs_length hzr
      have hgal := hs.gal (N := N) (ty := t) h4 hsg h.1 (zeroOf_bound h2) (by simpa using hlen) hzr
      have hx : (execOp a.eval o).run P w = .ok (.value (.pointer (some ⟨w.heap.size, 0, none⟩))) (w.alloc (.cells zv.cells t)) := by
        simp only [execOp, h1, Sem.run_bind, run_alloc_zero hi hz, Result.andThen_ok, Sem.run_pure]
      unfold wpOp
      simp only [ho, Region.wanted, hgd, if_true]
      refine .inl ?_
      unfold Oper.wp
      rw [hx]
      show next (a.put o.dst _) _
      rw [h3]
      exact hn _ _ _ _ _ h.2 hgal.1 hgal.2
    · exact h.elim
  · refine gop_sound (K := K) hE hM ho hg hop ?_ hs hn
    cases gd with
    | none => exact h
    | some sw =>
      obtain ⟨s, want⟩ := sw
      rcases h with ⟨t, et, h1, h2⟩ | h
      · exact .inl ⟨t, et, h1, h2⟩
      · exact .inr h
  · refine gop_sound (K := K) hE hM ho hg hop ?_ hs hn
    cases gd with
    | none => exact h
    | some sw =>
      obtain ⟨s, want⟩ := sw
      rcases h with ⟨t, et, h1, h2⟩ | h
      · exact .inl ⟨t, et, h1, h2⟩
      · exact .inr h
  · refine gop_sound (K := K) hE hM ho hg hop ?_ hs hn
    cases gd with
    | none => exact h
    | some sw =>
      obtain ⟨s, want⟩ := sw
      rcases h with ⟨t, et, h1, h2⟩ | h
      · exact .inl ⟨t, et, h1, h2⟩
      · exact .inr h

theorem compileOps_get {ops : Array Oper} : ∀ {l : List Oper} {gs : List GOp}, compileOps P inv n ops l = some gs → gs.length = l.length ∧ ∀ i o, l[i]? = some o → cguard n ops o.guard = some (gAt gs i).1 ∧ compileOp P inv n o = some (gAt gs i).2
  | [], gs, h => by
    simp only [compileOps, Option.some.injEq] at h
    subst h
    exact ⟨rfl, fun i o h => by simp at h⟩
  | o :: l, gs, h => by
    simp only [compileOps] at h
    split at h
    · rename_i g op al hg hop hal
      simp only [Option.some.injEq] at h
      subst h
      obtain ⟨h1, h2⟩ := compileOps_get hal
      refine ⟨by simp [h1], fun i o' ho => ?_⟩
      cases i with
      | zero => simp only [List.getElem?_cons_zero, Option.some.injEq] at ho; subst ho; exact ⟨hg, hop⟩
      | succ i => exact h2 i o' (by simpa using ho)
    · cases h

theorem pairsOk_spec {gs : List GOp} {anc : List Nat} : ∀ {l : List Nat}, pairsOk gs anc l = true → l.Pairwise (fun j i => pairOk gs anc j i = true)
  | [], _ => .nil
  | j :: r, h => by
    simp only [pairsOk, Bool.and_eq_true, List.all_eq_true] at h
    exact .cons h.1 (pairsOk_spec h.2)
theorem predsOk_spec {prs : List (List Nat)} : ∀ {l pre x : List Nat} {i : Nat} {y : List Nat}, predsOk prs pre l = true → l = x ++ i :: y → ∀ p ∈ prs[i]?.getD [], p ∈ pre ∨ p ∈ x
  | l, pre, [], i, y, h, e, p, hp => by
    subst e
    simp only [List.nil_append, predsOk, Bool.and_eq_true, List.all_eq_true] at h
    exact .inl (memN_iff.1 (h.1 p hp))
  | l, pre, k :: x, i, y, h, e, p, hp => by
    subst e
    simp only [List.cons_append, predsOk, Bool.and_eq_true] at h
    rcases predsOk_spec h.2 rfl p hp with h' | h'
    · rcases List.mem_cons.1 h' with e | h''
      · exact .inr (by simp [e])
      · exact .inl h''
    · exact .inr (by simp [h'])

theorem getD_tf {l : Array Bool} {i : Nat} (h : i < l.size) : l.getD i true = l.getD i false := by simp [h]
theorem draw_sound (hE : Callable P inv) (hM : ∀ b, M b → b < w0.heap.size) {ops : Array Oper} {gs : List GOp} {prs : List (List Nat)} {anc ord : List Nat} {gs0 : List GOp} (hc : compileOps P inv n ops ops.toList = some gs0) (hlen1 : gs.length = gs0.length) (htr : ∀ i, i < gs.length → Tr (gAt gs0 i) (plainG (gAt gs i))) (hprs : prs = ops.toList.map preds)
    (hok : drawOk gs prs anc ord gs.length = true) {Q : Exit → Act → World → Prop} {K : AF → AS → Prop} :
    ∀ (fuel : Nat) (listed : Array Bool) (φ : AF) (σ : AS) (β : Nat → Nat) (a : Act) (w : World), listed.size = ops.size →
      (∀ k x, listed.getD k false = true → isAnc anc k x = true → x < ops.size → listed.getD x false = true) →
      (ord.filter fun i => !listed.getD i false).length ≤ fuel → (∀ j ∈ ord.filter fun i => !listed.getD i false, ∀ d, (gAt gs j).2.dst = some d → (fget φ d).bound ≤ N) →
      awpL P inv w0 M N ((ord.filter fun i => !listed.getD i false).map (gAt gs)) K φ σ → St inv w0 M n φ σ β a w →
      (∀ φ' σ' β' a' w', K φ' σ' → St inv w0 M n φ' σ' β' a' w' → Ext N (ctx inv M σ β w) (ctx inv M σ' β' w') → Q .normal a' w') → wpAny P .any ops Q fuel listed a w := by
  obtain ⟨hlen0, hget⟩ := compileOps_get hc
  have hlen : gs.length = ops.size := by rw [hlen1]; simpa using hlen0
  have hget' : ∀ (i : Nat) (o : Oper), ops[i]? = some o → cguard n ops o.guard = some (gAt gs0 i).1 ∧ compileOp P inv n o = some (gAt gs0 i).2 := fun i o h => hget i o (by rw [Array.getElem?_toList]; exact h)
  unfold drawOk at hok
  simp only [Bool.and_eq_true] at hok
  obtain ⟨⟨⟨⟨k1, k2⟩, k3⟩, k4⟩, k5⟩ := hok
  have hpw := pairsOk_spec k1
  have hin : ∀ i ∈ ord, i < ops.size := by
    intro i hi
    unfold insideOk at k5
    have := List.all_eq_true.1 k5 i hi
    rw [Nat.blt_eq, hlen] at this
    exact this
  have hcov : ∀ i, i < ops.size → i ∈ ord := by
    intro i hi
    unfold coverOk at k3
    exact memN_iff.1 (List.all_eq_true.1 k3 i (by rw [List.mem_range, hlen]; exact hi))
  have hprs' : ∀ (i : Nat) (o : Oper), ops[i]? = some o → prs[i]?.getD [] = preds o := by
    intro i o ho
    rw [hprs, List.getElem?_map, Array.getElem?_toList, ho]
    rfl
  have hpreds : ∀ (o : Oper) (l : Array Bool), (∀ e ∈ o.after, Region.binds .any e = true → l.getD e.on false = true) ↔ ∀ p ∈ preds o, l.getD p false = true := by
    intro o l
    unfold preds
    constructor
    · intro h p hp
      obtain ⟨e, he, rfl⟩ := List.mem_map.1 hp
      obtain ⟨h1, h2⟩ := List.mem_filter.1 he
      exact h e (by simpa using h1) h2
    · intro h e he hb
      exact h e.on (List.mem_map.2 ⟨e, List.mem_filter.2 ⟨by simpa using he, hb⟩, rfl⟩)
  have hanc : ∀ (i : Nat) (o : Oper) (x : Nat), ops[i]? = some o → x < ops.size → isAnc anc i x = true → ∃ p ∈ preds o, p = x ∨ isAnc anc p x = true := by
    intro i o x ho hx ha
    have hi : i < ops.size := (Array.getElem?_eq_some_iff.1 ho).1
    unfold ancOk at k4
    have h1 := List.all_eq_true.1 (List.all_eq_true.1 k4 i (by rw [List.mem_range, hlen]; exact hi)) x (by rw [List.mem_range, hlen]; exact hx)
    rw [ha, hprs' i o ho] at h1
    simp only [Bool.not_true, Bool.false_or, List.any_eq_true, Bool.or_eq_true, Nat.beq_eq] at h1
    exact h1
  -- the first that is not yet listed may be listed
  have hhead : ∀ (listed : Array Bool) (i : Nat) (r : List Nat), listed.size = ops.size → (ord.filter fun i => !listed.getD i false) = i :: r → i ∈ Region.ready .any ops listed := by
    intro listed i r hsz e
    obtain ⟨x, y, e1, e2, e3, _⟩ := List.filter_eq_cons_iff.1 e
    have hi : i < ops.size := hin i (by rw [e1]; simp)
    have e3' : listed.getD i false = false := by simpa using e3
    rw [mem_ready]
    refine ⟨by rw [getD_tf (by omega)]; exact e3', ops[i], by simp [hi], ?_⟩
    rw [hpreds]
    intro p hp
    rw [← hprs' i ops[i] (by simp [hi])] at hp
    rcases predsOk_spec k2 e1 p hp with h | h
    · cases h
    · have := e2 p h
      simpa using this
  intro fuel
  induction fuel with
  | zero =>
    intro listed φ σ β a w hsz hcl hrem hb h hs hn
    have hnil : (ord.filter fun i => !listed.getD i false) = [] := List.eq_nil_of_length_eq_zero (by omega)
    rw [hnil] at h
    refine ⟨?_, hn _ _ _ _ _ h hs (.refl _ _)⟩
    refine List.eq_nil_iff_forall_not_mem.2 fun i hi => ?_
    obtain ⟨h0, o, ho, _⟩ := mem_ready.1 hi
    have hlt : i < ops.size := (Array.getElem?_eq_some_iff.1 ho).1
    have : i ∈ ord.filter fun i => !listed.getD i false := List.mem_filter.2 ⟨hcov i hlt, by rw [← getD_tf (by omega), h0]; rfl⟩
    rw [hnil] at this
    cases this
  | succ fuel ih =>
    intro listed φ σ β a w hsz hcl hrem hb h hs hn
    refine ⟨fun hr => ?_, fun i hi => ?_⟩
    · cases e : ord.filter fun i => !listed.getD i false with
      | nil => rw [e] at h; exact hn _ _ _ _ _ h hs (.refl _ _)
      | cons i r =>
        have := hhead listed i r hsz e
        rw [hr] at this
        cases this
    · obtain ⟨h0, o, ho, hpre⟩ := mem_ready.1 hi
      have hlt : i < ops.size := (Array.getElem?_eq_some_iff.1 ho).1
      have hmem : i ∈ ord.filter fun i => !listed.getD i false := List.mem_filter.2 ⟨hcov i hlt, by rw [← getD_tf (by omega), h0]; rfl⟩
      obtain ⟨l1, l2, e⟩ := List.append_of_mem hmem
      have hpw2 : (l1 ++ i :: l2).Pairwise (fun j i => pairOk gs anc j i = true) := by rw [← e]; exact hpw.filter _
      rw [List.pairwise_append] at hpw2
      obtain ⟨hp1, hp2, hp3⟩ := hpw2
      rw [List.pairwise_cons] at hp2
      have hpl : ∀ p ∈ preds o, listed.getD p false = true := (hpreds o listed).1 hpre
      have hanc' : ∀ x, x < ops.size → isAnc anc i x = true → listed.getD x false = true := by
        intro x hx ha
        obtain ⟨p, hp, h' | h'⟩ := hanc i o x ho hx ha
        · rw [← h']; exact hpl p hp
        · exact hcl p x (hpl p hp) h' hx
      have hpk : ∀ {j k : Nat}, pairOk gs anc j k = true → j ≠ k ∧ dstNe (gAt gs j).2.dst (gAt gs k).2.dst = true ∧ (isLdS (gAt gs j).2 = true → dstIn (grd (gAt gs j)) (gAt gs k).2.dst = false) ∧ (isAnc anc k j = true ∨ Apart (gAt gs j) (gAt gs k)) := by
        intro j k hp
        unfold pairOk at hp
        simp only [Bool.and_eq_true, Bool.or_eq_true, Bool.not_eq_true'] at hp
        refine ⟨fun e => by rw [e] at hp; simp at hp, hp.1.1.2, fun e => by rcases hp.1.2 with h' | h' <;> first | (rw [e] at h'; cases h'; done) | exact h', ?_⟩
        rcases hp.2 with ((h' | h') | h') | h'
        · exact .inr (.inr (.inr ⟨h'.1.1.1.1, h'.1.1.1.2, hp.1.1.2, h'.1.1.2, h'.1.2, h'.2⟩))
        · exact .inl h'
        · exact .inr (.inl ⟨h'.1, h'.2, hp.1.1.2⟩)
        · exact .inr (.inr (.inl ⟨h'.1.1.1.1, h'.1.1.1.2, h'.1.1.2, hp.1.1.2, h'.1.2, h'.2⟩))
      have hun : ∀ j ∈ l1 ++ i :: l2, j < ops.size ∧ listed.getD j false = false := by
        intro j hj
        rw [← e] at hj
        obtain ⟨hj1, hj2⟩ := List.mem_filter.1 hj
        exact ⟨hin j hj1, by simpa using hj2⟩
      have hap : ∀ j ∈ l1, Apart (gAt gs j) (gAt gs i) := by
        intro j hj
        obtain ⟨_, _, _, h' | h'⟩ := hpk (hp3 j hj i (by simp))
        · obtain ⟨h5, h6⟩ := hun j (by simp [hj])
          rw [hanc' j h5 h'] at h6
          cases h6
        · exact h'
      rw [e, List.map_append, List.map_cons] at h
      obtain ⟨N2, hN, hg⟩ := swapL h (fun j hj => by obtain ⟨j', hj', rfl⟩ := List.mem_map.1 hj; exact hap j' hj')
        (List.pairwise_map.2 (hp1.imp fun hp => ⟨(hpk hp).2.1, (hpk hp).2.2.1⟩)) (fun j hj d hd => by obtain ⟨j', hj', rfl⟩ := List.mem_map.1 hj; exact hb j' (by rw [e]; simp [hj']) d hd)
      refine gop_sound2 hE hM ho (hget' i o ho).1 (hget' i o ho).2 (htr i (by omega)) hg hs fun φ' σ' β' a' w' hk hst hext => ?_
      obtain ⟨⟨r, rfl, hk⟩, _⟩ := hk
      have hnew : (ord.filter fun k => !(listed.setIfInBounds i true).getD k false) = l1 ++ l2 := by
        have hfi : ∀ l : List Nat, (∀ k ∈ l, k ≠ i) → l.filter (fun k => decide (k ≠ i)) = l := fun l hl => List.filter_eq_self.2 fun k hk => by simpa using hl k hk
        have h1 : (ord.filter fun k => !(listed.setIfInBounds i true).getD k false) = (ord.filter fun k => !listed.getD k false).filter (fun k => decide (k ≠ i)) := by
          rw [List.filter_filter]
          refine List.filter_congr fun k hk => ?_
          by_cases hki : k = i
          · subst hki
            have : k < (listed.setIfInBounds k true).size := by simp; omega
            simp [show k < listed.size by omega]
          · rw [getD_set_ne false (Ne.symm hki)]
            simp [hki]
        rw [h1, e, List.filter_append, List.filter_cons, hfi l1 (fun k hk => (hpk (hp3 k hk i (by simp))).1), hfi l2 (fun k hk => Ne.symm (hpk (hp2.1 k hk)).1)]
        simp
      refine ih (listed.setIfInBounds i true) _ σ' β' a' w' (by simp [hsz]) ?_ ?_ ?_ ?_ hst fun φ2 σ2 β2 a2 w2 q s2 e2 => hn _ _ _ _ _ q s2 ((hext.mono hN).trans e2)
      · intro k x hk' ha hx
        by_cases hki : k = i
        · subst hki
          exact getD_set_true (hanc' x hx ha)
        · rw [getD_set_ne false (Ne.symm hki)] at hk'
          exact getD_set_true (hcl k x hk' ha hx)
      · rw [hnew]
        rw [e] at hrem
        simp only [List.length_append, List.length_cons] at hrem ⊢
        omega
      · rw [hnew]
        intro j hj d hd
        have hne : dstNe (some d) (gAt gs i).2.dst = true ∨ dstNe (gAt gs i).2.dst (some d) = true := by
          rcases List.mem_append.1 hj with hj | hj
          · have := (hpk (hp3 j hj i (by simp))).2.1; rw [hd] at this; exact .inl this
          · have := (hpk (hp2.1 j hj)).2.1; rw [hd] at this; exact .inr this
        have hbj := hb j (by rw [e]; rcases List.mem_append.1 hj with hj | hj <;> simp [hj]) d hd
        cases hdi : (gAt gs i).2.dst with
        | none => exact hbj
        | some di =>
          rw [hdi] at hne
          have hdd : d ≠ di := by
            rcases hne with h' | h'
            · exact dstNe_ne h'
            · exact Ne.symm (dstNe_ne h')
          simp only [putO]
          rw [fget_fput, if_neg hdd]
          exact hbj
      · rw [hnew, List.map_append]
        exact hk

theorem inv_regd {c₀ : Code} {k : Nat} {l : List GOp} (h : compileC P inv n c₀ = some (.regd k l)) : ∃ id ops, c₀ = .region id ops true ∧ compileD P inv n ops = some (.regd k l) := by
  unfold compileC at h
  split at h <;> first | (cases h; done) | exact ⟨_, _, rfl, h⟩ | (obtain ⟨_, _, e⟩ := Option.map_eq_some_iff.1 h; cases e; done) | (split at h <;> simp at h)
theorem gAt_pure (k : Nat) : ∀ (gs : List GOp) (c i : Nat), (pureL k c gs).length = gs.length ∧ (i < gs.length → Tr (gAt gs i) (gAt (pureL k c gs) i))
  | [], _, _ => ⟨rfl, fun h => absurd h (Nat.not_lt_zero _)⟩
  | (gd, o) :: r, c, i => by
    have ih := fun c i => gAt_pure k r c i
    have hd : ∃ c' g, pureL k c ((gd, o) :: r) = g :: pureL k c' r ∧ Tr (gd, o) g := by
      cases gd with
      | none =>
        cases o with
        | alloc d z => exact ⟨_, _, rfl, .inr (.inr (.inl ⟨d, z, _, rfl, rfl⟩))⟩
        | call d j l => cases d with
          | some d => exact ⟨_, _, rfl, .inr (.inl ⟨_, d, j, l, rfl, rfl⟩)⟩
          | none => exact ⟨_, _, rfl, .inl rfl⟩
        | _ => exact ⟨_, _, rfl, .inl rfl⟩
      | some sw =>
        cases o with
        | call d j l => cases d with
          | some d => exact ⟨_, _, rfl, .inr (.inl ⟨_, d, j, l, rfl, rfl⟩)⟩
          | none => exact ⟨_, _, rfl, .inl rfl⟩
        | _ => exact ⟨_, _, rfl, .inl rfl⟩
    obtain ⟨c', g, e, ht⟩ := hd
    rw [e]
    refine ⟨by simp [(ih c' 0).1], fun hi => ?_⟩
    cases i with
    | zero => exact ht
    | succ i => exact (ih c' i).2 (by simpa using hi)
theorem reserve_sound (N : Nat) {b : Nat} (hs : St inv w0 M n φ σ β a w) (_h1 : N ≤ b) (h2 : fbound φ ≤ b) (h3 : sbound σ ≤ b) : ∀ k, St inv w0 M n φ (reserve b k σ) β a w ∧ Ext b (ctx inv M σ β w) (ctx inv M (reserve b k σ) β w) := by
  intro k
  have hget : ∀ k l, sget (reserve b k σ) l = sget σ l ∨ (b ≤ l ∧ sget (reserve b k σ) l = some .rsv) := by
    intro k
    induction k with
    | zero => intro l; exact .inl rfl
    | succ k ih =>
      intro l
      simp only [reserve]
      rw [sget_sput]
      split
      · rename_i e; exact .inr ⟨by omega, rfl⟩
      · exact ih l
  have hlow : ∀ l, l < b → sget (reserve b k σ) l = sget σ l := fun l hl => by
    rcases hget k l with h | h
    · exact h
    · omega
  have hreal : ∀ l o, sget (reserve b k σ) l = some o → o ≠ .rsv → sget σ l = some o := by
    intro l o h hne
    rcases hget k l with h' | ⟨_, h'⟩
    · rw [← h']; exact h
    · rw [h'] at h; simp only [Option.some.injEq] at h; exact absurd h.symm hne
  have hback : ∀ l o, sget σ l = some o → sget (reserve b k σ) l = some o := fun l o h => by rw [hlow l (by have := (sbound_get σ l o h).1; omega)]; exact h
  have hav : ∀ x, avoid M (reserve b k σ) β x ↔ avoid M σ β x := by
    intro x
    constructor
    · rintro (h | ⟨l, o, e, hr, hb⟩)
      · exact .inl h
      · exact .inr ⟨l, o, hreal l o e (by rintro rfl; simp [AO.real] at hr), hr, hb⟩
    · rintro (h | ⟨l, o, e, hr, hb⟩)
      · exact .inl h
      · exact .inr ⟨l, o, hback l o e, hr, hb⟩
  have hext : Ext b (ctx inv M σ β w) (ctx inv M (reserve b k σ) β w) := by
    refine ⟨⟨rfl, Nat.le_refl _, fun _ _ _ => rfl, fun x _ h => (hav x).1 h⟩, fun l hl p' hp' => ⟨p', ?_, Nat.le_refl _, fun _ => rfl⟩⟩
    show place β w σ l = some p'
    have hp'' : place β w (reserve b k σ) l = some p' := hp'
    unfold place at hp'' ⊢
    rw [hlow l hl] at hp''
    exact hp''
  refine ⟨⟨⟨fun i => hext.rel (under_of_bound _ (Nat.le_trans (fbound_get φ i) h2)) (hs.slots i), ?_⟩, hs.size, hs.defers⟩, hext⟩
  have hm := hs.mem
  refine ⟨hm.below, fun l l' o o' e e' hr hr' => hm.inj l l' o o' (hreal _ _ e (by rintro rfl; simp [AO.real] at hr)) (hreal _ _ e' (by rintro rfl; simp [AO.real] at hr')) hr hr', fun l o e hr => hm.own l o (hreal _ _ e (by rintro rfl; simp [AO.real] at hr)) hr, fun l cs e => ?_,
    fun l cs e => hm.ghost l cs (hreal _ _ e (by simp)), fun l kvs e => hm.maps l kvs (hreal _ _ e (by simp))⟩
  obtain ⟨xs, ty, q1, q2, q3⟩ := hm.cells l cs (hreal _ _ e (by simp))
  exact ⟨xs, ty, q1, q2, hext.relCs (underL_of_bound cs (Nat.le_trans (sbound_get σ l _ (hreal _ _ e (by simp))).2 h3)) q3⟩

theorem AWp.regd (hE : Callable P inv) (hM : ∀ b, M b → b < w0.heap.size) {k : Nat} {l : List GOp} {Q : Exit → AF → AS → Prop} (h : awpOpsD P inv w0 M (fresh N φ σ + k) l (Q .normal) φ (reserve (fresh N φ σ) k σ)) : AWp P inv w0 M N n (.regd k l) Q φ σ := by
  intro c₀ hc β a w hs
  obtain ⟨id, ops, rfl, hl⟩ := inv_regd hc
  have main : ∀ (gs0 gs : List GOp), compileOps P inv n ops ops.toList = some gs0 → gs.length = gs0.length → (∀ i, i < gs.length → Tr (gAt gs0 i) (gAt gs i)) → drawn (ops.toList.map preds) gs k = some (.regd k l) →
      (Code.region id ops true).wp P (fun e a' w' => ∃ φ' σ' β', Q e φ' σ' ∧ St inv w0 M n φ' σ' β' a' w' ∧ Ext N (ctx inv M σ β w) (ctx inv M σ' β' w')) a w := by
    intro gs0 gs hgs hl1 htr hdr
    have hplain : ∀ i, i < gs.length → plainG (gAt gs i) = gAt gs i := fun i hi => by
      obtain ⟨q1, q2⟩ := compileOps_get hgs
      have hi' : i < ops.toList.length := by omega
      exact (htr i hi).plain (compileOp_plain (q2 i ops.toList[i] (by simp [hi'])).2)
    have hlen : gs.length = ops.size := by rw [hl1]; simpa using (compileOps_get hgs).1
    have main2 : ∀ (gs' : List GOp), gs'.length = gs.length → (∀ i, i < gs'.length → Tr (gAt gs0 i) (plainG (gAt gs' i))) → drawOk gs' (ops.toList.map preds) (ancGo [] (ops.toList.map preds)) (canonGo gs (ops.toList.map preds) (List.range gs.length) gs.length 0) gs'.length = true →
        l = (canonGo gs (ops.toList.map preds) (List.range gs.length) gs.length 0).map (gAt gs') → (Code.region id ops true).wp P (fun e a' w' => ∃ φ' σ' β', Q e φ' σ' ∧ St inv w0 M n φ' σ' β' a' w' ∧ Ext N (ctx inv M σ β w) (ctx inv M σ' β' w')) a w := by
      intro gs' hlen' htr' hok el
      subst el
      obtain ⟨f1, f2, f3⟩ := fresh_le N φ σ
      have hdw := fun N => hs.mem.call (w' := { w with drawn := w.drawn + 1 }) ⟨rfl, rfl, rfl, Nat.le_refl _, fun _ _ => rfl⟩ N
      have hs1 : St inv w0 M n φ σ β a { w with drawn := w.drawn + 1 } := hs.keep (hdw (fbound φ)).1 (hdw (fbound φ)).2 (Nat.le_refl _)
      obtain ⟨hs', hr'⟩ := reserve_sound N hs1 f1 f2 f3 k
      have hext := (hdw N).2.trans (hr'.mono f1)
      have hfalse : ∀ i, (Array.replicate ops.size false).getD i false = false := by
        intro i
        simp only [Array.getD_eq_getD_getElem?, Array.getElem?_replicate]
        split <;> rfl
      have hall : ∀ l : List Nat, (l.filter fun i => !(Array.replicate ops.size false).getD i false) = l := fun l => List.filter_eq_self.2 fun i _ => by rw [hfalse]; rfl
      refine wp_region_any hE.1 ?_
      refine draw_sound hE hM hgs (hlen'.trans hl1) htr' rfl hok (N := fresh N φ σ + k) (K := Q .normal) ops.size (Array.replicate ops.size false) φ _ β a _ (by simp) ?_ ?_ ?_ ?_ hs' ?_
      · intro k x hk
        rw [hfalse] at hk
        cases hk
      · rw [hall]
        have hnd : ∀ (f : Nat) (bits : Nat), (canonGo gs (ops.toList.map preds) (List.range gs.length) f bits).length ≤ f := by
          intro f
          induction f with
          | zero => intro bits; simp [canonGo]
          | succ f ih =>
            intro bits
            simp only [canonGo]
            split
            · simp only [List.length_cons]; have := ih (bits ||| 2 ^ ‹Nat›); omega
            · split
              · simp only [List.length_cons]; have := ih (bits ||| 2 ^ ‹Nat›); omega
              · simp
        exact Nat.le_trans (hnd _ _) (by omega)
      · intro j _ d _
        have := fbound_get φ d
        omega
      · rw [hall]
        exact awpL_of h
      · intro φ' σ' β' a' w' hk hst he
        exact ⟨φ', σ', β', hk, hst, hext.trans (he.mono (by omega))⟩
    have hget : ∀ (f : Nat → GOp) (i : Nat), i < gs.length → gAt ((List.range gs.length).map f) i = f i := by
      intro f i hi
      show ((List.map f (List.range gs.length))[i]?).getD _ = _
      rw [List.getElem?_map, List.getElem?_range hi]
      rfl
    have hel : ∀ anc ord, (effs gs anc ord).length = gs.length := fun anc ord => by simp [effs]
    have hpl : ∀ anc ord, (addPts (effs gs anc ord) anc ord).length = gs.length := fun anc ord => by simp [addPts, hel]
    have heff : ∀ anc ord i, i < gs.length → Tr (gAt gs0 i) (gAt (effs gs anc ord) i) ∧ plainG (gAt (effs gs anc ord) i) = gAt (effs gs anc ord) i := by
      intro anc ord i hi
      have h1 := htr i hi
      have h2 := hplain i hi
      unfold effs
      rw [hget _ i hi]
      unfold effOp
      split
      · rename_i gd d j l _ e
        rw [e] at h1
        refine ⟨?_, rfl⟩
        rcases h1 with h1 | ⟨_, _, _, _, _, h1⟩ | ⟨_, _, _, _, h1⟩ | ⟨_, _, _, _, _, h1⟩ | ⟨_, _, _, _, _, h1⟩ | ⟨_, _, _, _, _, _, h1⟩
        · exact .inr (.inr (.inr (.inl ⟨gd, d, j, l, h1.symm, rfl⟩)))
        all_goals simp at h1
      · rename_i gd d f l _ e
        rw [e] at h1
        refine ⟨?_, rfl⟩
        rcases h1 with h1 | ⟨_, _, _, _, _, h1⟩ | ⟨_, _, _, _, h1⟩ | ⟨_, _, _, _, _, h1⟩ | ⟨_, _, _, _, _, h1⟩ | ⟨_, _, _, _, _, _, h1⟩
        · exact .inr (.inr (.inr (.inr (.inl ⟨gd, d, f, l, h1.symm, rfl⟩))))
        all_goals simp at h1
      · rename_i gd d u x sz _ e
        rw [e] at h1
        refine ⟨?_, rfl⟩
        rcases h1 with h1 | ⟨_, _, _, _, _, h1⟩ | ⟨_, _, _, _, h1⟩ | ⟨_, _, _, _, _, h1⟩ | ⟨_, _, _, _, _, h1⟩ | ⟨_, _, _, _, _, _, h1⟩
        · exact .inr (.inr (.inr (.inr (.inr ⟨gd, d, u, x, sz, h1.symm, rfl⟩))))
        all_goals simp at h1
      · exact ⟨h1, h2⟩
    unfold drawn at hdr
    simp only at hdr
    split at hdr
    · rename_i hok
      simp only [Option.some.injEq, ACode.regd.injEq, true_and] at hdr
      refine main2 _ (hel _ _) (fun i hi => ?_) (by rw [hel]; exact hok) hdr.symm
      rw [hel] at hi
      rw [(heff _ _ i hi).2]
      exact (heff _ _ i hi).1
    · split at hdr
      · rename_i hok
        simp only [Option.some.injEq, ACode.regd.injEq, true_and] at hdr
        refine main2 _ (hpl _ _) (fun i hi => ?_) (by rw [hpl]; exact hok) hdr.symm
        rw [hpl] at hi
        have he : ∀ anc ord, plainG (gAt (addPts (effs gs anc ord) anc ord) i) = gAt (effs gs anc ord) i := by
          intro anc ord
          have e1 : gAt (addPts (effs gs anc ord) anc ord) i = addPt (effs gs anc ord) anc ord i := by
            simp only [addPts, hel]
            exact hget _ i hi
          rw [e1]
          unfold addPt
          have e2 := (heff anc ord i hi).2
          split
          · rename_i e; rw [e]; rfl
          · exact e2
        rw [he]
        exact (heff _ _ i hi).1
      · cases hdr
  unfold compileD at hl
  split at hl
  · rename_i gs hgs
    split at hl
    · rename_i c e
      simp only [Option.some.injEq] at hl
      subst hl
      obtain ⟨_, e'⟩ := drawn_shape e
      simp only [ACode.regd.injEq] at e'
      obtain ⟨rfl, _⟩ := e'
      exact main gs gs hgs rfl (fun _ _ => .inl rfl) e
    · obtain ⟨_, e'⟩ := drawn_shape hl
      simp only [ACode.regd.injEq] at e'
      have hk := e'.1
      exact main gs (pureL (nAlloc gs) 0 gs) hgs (gAt_pure _ gs 0 0).1 (fun i hi => (gAt_pure (nAlloc gs) gs 0 i).2 (by rw [(gAt_pure (nAlloc gs) gs 0 0).1] at hi; exact hi)) (by rw [hk]; rw [hk] at hl; exact hl)
  · cases hl
end
end Go.Eng
