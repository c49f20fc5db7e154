/-
  THE ENGINE, PART W3: an empty row for a slice without room; rows under other names at a loop's head; answers in new rows.
-/
import Derived.Test.YtkpklcnecnijoaaEngW2
namespace Go.Eng
set_option linter.unusedSimpArgs false
set_option linter.unusedVariables false
set_option linter.unusedSectionVars false
open Go.RowKit

section
variable {P : Program} {inv : Nat → Option Nat} {w0 : World} {M : Nat → Prop} {n N : Nat} {φ : AF} {σ : AS} {β : Nat → Nat} {a : Act} {w : World}
/-! ### an empty row -/
theorem Mem.empty (hm : Mem inv w0 M σ β w) {l : Nat} (hl : sbound σ ≤ l) : Mem inv w0 M (sput σ l (.cells [] false)) β w ∧ ∀ K, K ≤ l → Ext K (ctx inv M σ β w) (ctx inv M (sput σ l (.cells [] false)) β w) := by
  have hg : ∀ k, k ≠ l → sget (sput σ l (.cells [] false)) k = sget σ k := fun k hk => by rw [sget_sput, if_neg hk]
  have hgl : sget (sput σ l (.cells [] false)) l = some (.cells [] false) := by rw [sget_sput, if_pos rfl]
  have hreal : ∀ k o, sget (sput σ l (.cells [] false)) k = some o → o.real = true → sget σ k = some o := by
    intro k o e hr
    by_cases hk : k = l
    · subst hk; rw [hgl] at e; cases e; cases hr
    · rw [hg k hk] at e; exact e
  have hav : ∀ b, avoid M (sput σ l (.cells [] false)) β b → avoid M σ β b := by
    rintro b (h | ⟨k, o, e, hr, hb⟩)
    · exact .inl h
    · exact .inr ⟨k, o, hreal k o e hr, hr, hb⟩
  have hx : ∀ K, K ≤ l → Ext K (ctx inv M σ β w) (ctx inv M (sput σ l (.cells [] false)) β w) := fun K hK =>
    ⟨⟨rfl, Nat.le_refl _, fun _ _ _ => rfl, fun b _ h => hav b h⟩, fun k hk p' hp' => ⟨p', by
      have hp' : place β w (sput σ l (.cells [] false)) k = some p' := hp'
      show place β w σ k = some p'
      unfold place at hp' ⊢
      rw [hg k (by omega)] at hp'
      exact hp', Nat.le_refl _, fun _ => rfl⟩⟩
  refine ⟨⟨hm.below, fun k k' o o' e e' hr hr' hb => hm.inj k k' o o' (hreal k o e hr) (hreal k' o' e' hr') hr hr' hb, fun k o e hr => hm.own k o (hreal k o e hr) hr, fun k cs e => ?_, fun k cs e => ?_, fun k kvs e => ?_⟩, hx⟩
  · obtain ⟨xs, ty, e1, e2, e3⟩ := hm.cells k cs (hreal k _ e rfl)
    have hb := (sbound_get σ k _ (hreal k _ e rfl)).2
    exact ⟨xs, ty, e1, e2, (hx l (Nat.le_refl _)).relCs (underL_of_bound cs (Nat.le_trans hb hl)) e3⟩
  · by_cases hk : k = l
    · subst hk; rw [hgl] at e; cases e; rfl
    · rw [hg k hk] at e; exact hm.ghost k cs e
  · exact hm.maps k kvs (hreal k _ e rfl)
theorem rel_empty {l sz : Nat} {x : Value} (h : rel (ctx inv M σ β w) (.s0 sz) x) : rel (ctx inv M (sput σ l (.cells [] false)) β w) (.sm l 0 0 0 sz) x := by
  simp only [rel] at h ⊢
  obtain ⟨ad, rfl⟩ := h
  refine ⟨rfl, fun p hp => ?_⟩
  have hp : place β w (sput σ l (.cells [] false)) l = some p := hp
  unfold place at hp
  rw [sget_sput, if_pos rfl] at hp
  simp only [Option.some.injEq] at hp
  subst hp
  exact ⟨Nat.le_refl _, fun _ => ⟨by simp, ad, 0, rfl, Nat.le_refl _, by simp⟩⟩
theorem AWp.empty {c : ACode} {Q : Exit → AF → AS → Prop} (t l sz : Nat) (ht : fget φ t = .s0 sz) (h1 : N ≤ l) (h2 : fbound φ ≤ l) (h3 : sbound σ ≤ l)
    (h : AWp P inv w0 M N n c Q (fput φ t (.sm l 0 0 0 sz)) (sput σ l (.cells [] false))) : AWp P inv w0 M N n c Q φ σ := by
  intro c₀ hc β a w hs
  obtain ⟨hm, hx⟩ := hs.mem.empty h3
  refine Code.wp_mono ?_ (h c₀ hc β a w ⟨⟨fun i => ?_, hm⟩, hs.size, hs.defers⟩)
  · rintro e a' w' ⟨φ2, σ2, β2, q2, hst2, hext2⟩
    exact ⟨φ2, σ2, β2, q2, hst2, (hx N h1).trans hext2⟩
  · rw [fget_fput]
    split
    · rename_i e
      subst e
      have := hs.slots i
      rw [ht] at this
      exact rel_empty this
    · exact (hx l (Nat.le_refl _)).rel (under_of_bound _ (Nat.le_trans (fbound_get φ i) h2)) (hs.slots i)

/-! ### other names -/
mutual
def rnV (f : Nat → Nat) : AV → AV
  | .agg cs => .agg (rnL f cs)
  | .tup cs => .tup (rnL f cs)
  | .fn j cs => .fn j (rnL f cs)
  | .ptr l ver off => .ptr (f l) ver off
  | .sm l ver off n sz => .sm (f l) ver off n sz
  | .mp l => .mp (f l)
  | .i k n => .i k n
  | .b t => .b t
  | .v x => .v x
  | .u => .u
  | .s0 sz => .s0 sz
  | .sl sz es => .sl sz es
  | .ip sz es i k => .ip sz es i k
  | .top => .top
def rnL (f : Nat → Nat) : List AV → List AV
  | [] => []
  | x :: xs => rnV f x :: rnL f xs
end
def rnO (f : Nat → Nat) : AO → AO
  | .cells cs r => .cells (rnL f cs) r
  | .imap kvs => .imap kvs
  | .rsv => .rsv
def rnS (f : Nat → Nat) : List (Nat × AO) → List (Nat × AO)
  | [] => []
  | (l, o) :: r => (f l, rnO f o) :: rnS f r
def rnF (f : Nat → Nat) : List (Nat × AV) → List (Nat × AV)
  | [] => []
  | (i, x) :: r => (i, rnV f x) :: rnF f r
def swN (a b l : Nat) : Nat := if l = a then b else if l = b then a else l
theorem swN_swN (a b l : Nat) : swN a b (swN a b l) = l := by unfold swN; grind
theorem rnL_length (f : Nat → Nat) : ∀ xs : List AV, (rnL f xs).length = xs.length
  | [] => rfl
  | x :: xs => by simp [rnL, rnL_length f xs]
theorem rnO_real (f : Nat → Nat) (o : AO) : (rnO f o).real = o.real := by cases o <;> rfl
theorem fget_rnF (f : Nat → Nat) : ∀ (φ : AF) (i : Nat), fget (rnF f φ) i = rnV f (fget φ i)
  | [], i => rfl
  | (j, x) :: r, i => by
    simp only [rnF, fget]
    split
    · rfl
    · exact fget_rnF f r i
theorem sget_rnS {f : Nat → Nat} (hf : ∀ l, f (f l) = l) : ∀ (σ : AS) (l : Nat), sget (rnS f σ) (f l) = (sget σ l).map (rnO f)
  | [], l => rfl
  | (k, o) :: r, l => by
    simp only [rnS, sget, sget_rnS hf r l]
    by_cases h : l = k
    · subst h; simp
    · rw [if_neg (fun e => h (by rw [← hf l, e, hf])), if_neg h]
mutual
theorem rel_rn {c c' : Ctx} (hle : c.Le c') (f : Nat → Nat) (hS : ∀ l, c'.S (f l) = c.S l) : ∀ (x : AV) (y : Value), rel c x y → rel c' (rnV f x) y
  | .agg cs, y, r => by
    simp only [rel, rnV] at r ⊢
    obtain ⟨xs, e, r⟩ := r
    exact ⟨xs, e, relCs_rn hle f hS cs _ r⟩
  | .tup cs, y, r => by
    simp only [rel, rnV] at r ⊢
    obtain ⟨xs, e, r⟩ := r
    exact ⟨xs, e, relL_rn hle f hS cs _ r⟩
  | .fn j cs, y, r => by
    simp only [rel, rnV] at r ⊢
    obtain ⟨g, xs, e, hi, r⟩ := r
    exact ⟨g, xs, e, by rw [hle.inv]; exact hi, relL_rn hle f hS cs _ r⟩
  | .ptr l ver off, y, r => by
    simp only [rel, rnV] at r ⊢
    rw [hS]; exact r
  | .sm l ver off n sz, y, r => by
    simp only [rel, rnV] at r ⊢
    rw [hS]; exact r
  | .mp l, y, r => by
    simp only [rel, rnV] at r ⊢
    rw [hS]; exact r
  | .i k n, y, r => by simp only [rnV]; exact rel_moved hle rfl r
  | .b t, y, r => by simp only [rnV]; exact rel_moved hle rfl r
  | .v x, y, r => by simp only [rnV]; exact rel_moved hle rfl r
  | .u, y, r => by simp only [rnV]; exact rel_moved hle rfl r
  | .s0 sz, y, r => by simp only [rnV]; exact rel_moved hle rfl r
  | .sl sz es, y, r => by simp only [rnV]; exact rel_moved hle rfl r
  | .ip sz es i k, y, r => by simp only [rnV]; exact rel_moved hle rfl r
  | .top, y, r => by simp only [rnV, rel]
theorem relL_rn {c c' : Ctx} (hle : c.Le c') (f : Nat → Nat) (hS : ∀ l, c'.S (f l) = c.S l) : ∀ (xs : List AV) (ys : List Value), relL c xs ys → relL c' (rnL f xs) ys
  | [], ys, r => by simpa only [rnL, relL] using r
  | x :: xs, ys, r => by
    simp only [rnL, relL] at r ⊢
    obtain ⟨y, ys', e, r1, r2⟩ := r
    exact ⟨y, ys', e, rel_rn hle f hS x y r1, relL_rn hle f hS xs ys' r2⟩
theorem relCs_rn {c c' : Ctx} (hle : c.Le c') (f : Nat → Nat) (hS : ∀ l, c'.S (f l) = c.S l) : ∀ (xs : List AV) (ys : List Value), relCs c xs ys → relCs c' (rnL f xs) ys
  | [], ys, r => by simpa only [rnL, relCs] using r
  | x :: xs, ys, r => by
    simp only [rnL, relCs] at r ⊢
    obtain ⟨y, ys', e, ho, r1, r2⟩ := r
    exact ⟨y, ys', e, ho, rel_rn hle f hS x y r1, relCs_rn hle f hS xs ys' r2⟩
end
theorem Mem.rename {f : Nat → Nat} (hf : ∀ l, f (f l) = l) (hm : Mem inv w0 M σ β w) : Mem inv w0 M (rnS f σ) (fun l => β (f l)) w ∧ (∀ K, (∀ l, l < K → f l = l) → Ext K (ctx inv M σ β w) (ctx inv M (rnS f σ) (fun l => β (f l)) w)) ∧
    ∀ x y, rel (ctx inv M σ β w) x y → rel (ctx inv M (rnS f σ) (fun l => β (f l)) w) (rnV f x) y := by
  have hg := sget_rnS hf σ
  have hg' : ∀ l, sget (rnS f σ) l = (sget σ (f l)).map (rnO f) := fun l => by rw [← hg (f l), hf]
  have hpl : ∀ l, place (fun l => β (f l)) w (rnS f σ) (f l) = place β w σ l := fun l => by
    unfold place
    rw [hg l]
    cases e : sget σ l with
    | none => rfl
    | some o =>
      cases o with
      | rsv => rfl
      | imap kvs => simp only [Option.map_some, rnO, hf]
      | cells cs r => cases r <;> simp only [Option.map_some, rnO, hf, rnL_length]
  have hback : ∀ l o, sget (rnS f σ) l = some o → ∃ o', sget σ (f l) = some o' ∧ o = rnO f o' := fun l o e => by
    rw [hg' l] at e
    obtain ⟨o', e', rfl⟩ := Option.map_eq_some_iff.1 e
    exact ⟨o', e', rfl⟩
  have hav : ∀ b, avoid M (rnS f σ) (fun l => β (f l)) b → avoid M σ β b := by
    rintro b (h | ⟨k, o, e, hr, hb⟩)
    · exact .inl h
    · obtain ⟨o', e', rfl⟩ := hback k o e
      exact .inr ⟨f k, o', e', by rw [rnO_real] at hr; exact hr, hb⟩
  have hle : (ctx inv M σ β w).Le (ctx inv M (rnS f σ) (fun l => β (f l)) w) := ⟨rfl, Nat.le_refl _, fun _ _ _ => rfl, fun b _ h => hav b h⟩
  refine ⟨⟨hm.below, fun k k' o o' e e' hr hr' hb => ?_, fun k o e hr => ?_, fun k cs e => ?_, fun k cs e => ?_, fun k kvs e => ?_⟩, fun K hK => ⟨hle, fun l hl p' hp' => ?_⟩, rel_rn hle f hpl⟩
  · obtain ⟨o1, e1, rfl⟩ := hback k o e
    obtain ⟨o2, e2, rfl⟩ := hback k' o' e'
    rw [rnO_real] at hr hr'
    have := hm.inj _ _ _ _ e1 e2 hr hr' hb
    rw [← hf k, this, hf]
  · obtain ⟨o1, e1, rfl⟩ := hback k o e
    rw [rnO_real] at hr
    exact hm.own _ _ e1 hr
  · obtain ⟨o1, e1, e2⟩ := hback k _ e
    cases o1 with
    | cells cs1 r1 =>
      simp only [rnO, AO.cells.injEq] at e2
      obtain ⟨rfl, rfl⟩ := e2
      obtain ⟨xs, ty, k1, k2, k3⟩ := hm.cells _ cs1 e1
      exact ⟨xs, ty, k1, by rw [rnL_length]; exact k2, by rw [rnL_length]; exact relCs_rn hle f hpl cs1 _ k3⟩
    | imap kvs => simp [rnO] at e2
    | rsv => simp [rnO] at e2
  · obtain ⟨o1, e1, e2⟩ := hback k _ e
    cases o1 with
    | cells cs1 r1 =>
      simp only [rnO, AO.cells.injEq] at e2
      obtain ⟨rfl, rfl⟩ := e2
      rw [hm.ghost _ cs1 e1]; rfl
    | imap kvs => simp [rnO] at e2
    | rsv => simp [rnO] at e2
  · obtain ⟨o1, e1, e2⟩ := hback k _ e
    cases o1 with
    | imap kvs1 =>
      simp only [rnO, AO.imap.injEq] at e2
      subst e2
      exact hm.maps _ kvs e1
    | cells cs1 r1 => simp [rnO] at e2
    | rsv => simp [rnO] at e2
  · have hp' : place (fun l => β (f l)) w (rnS f σ) l = some p' := hp'
    have : place (fun l => β (f l)) w (rnS f σ) l = place β w σ l := by rw [← hpl l, hK l hl]
    refine ⟨p', ?_, Nat.le_refl _, fun _ => rfl⟩
    show place β w σ l = some p'
    rw [← this]
    exact hp'
def swF : List (Nat × Nat) → List (Nat × AV) → List (Nat × AV)
  | [], φ => φ
  | (a, b) :: r, φ => swF r (rnF (swN a b) φ)
def swS : List (Nat × Nat) → List (Nat × AO) → List (Nat × AO)
  | [], σ => σ
  | (a, b) :: r, σ => swS r (rnS (swN a b) σ)
def swOk (N : Nat) : List (Nat × Nat) → Prop
  | [] => True
  | (a, b) :: r => (N ≤ a ∧ N ≤ b) ∧ swOk N r
theorem St.swap (N : Nat) : ∀ (sw : List (Nat × Nat)) {φ : AF} {σ : AS} {β : Nat → Nat}, swOk N sw → St inv w0 M n φ σ β a w → ∃ β', St inv w0 M n (swF sw φ) (swS sw σ) β' a w ∧ Ext N (ctx inv M σ β w) (ctx inv M (swS sw σ) β' w)
  | [], φ, σ, β, _, hs => ⟨β, hs, .refl _ _⟩
  | (x, y) :: r, φ, σ, β, hok, hs => by
    obtain ⟨h1, h2, h3⟩ := hs.mem.rename (swN_swN x y)
    have hst : St inv w0 M n (rnF (swN x y) φ) (rnS (swN x y) σ) (fun l => β (swN x y l)) a w := ⟨⟨fun i => by rw [fget_rnF]; exact h3 _ _ (hs.slots i), h1⟩, hs.size, hs.defers⟩
    obtain ⟨β', k1, k2⟩ := St.swap N r hok.2 hst
    exact ⟨β', k1, (h2 N fun l hl => by have := hok.1; unfold swN; rw [if_neg (by omega), if_neg (by omega)]).trans k2⟩
def ends (N : Nat) (F : List (Nat × AV)) (S : List (Nat × AO)) (sw : List (Nat × Nat)) (φ : List (Nat × AV)) (σ : List (Nat × AO)) : Prop := swOk N sw ∧ fsub F (swF sw φ) ∧ ssub S (swS sw σ)
def lendR {ι : Type} (N : Nat) (F : ι → List (Nat × AV)) (S : ι → List (Nat × AO)) (Inv : ι → Prop) (μ : ι → Nat) (s : ι) : List (Nat × AV) → List (Nat × AO) → Prop := fun φ' σ' => ∃ s' sw, (μ s' < μ s ∧ Inv s') ∧ ends N (F s') (S s') sw φ' σ'
theorem lendR_app {ι : Type} (N : Nat) (F : ι → List (Nat × AV)) (S : ι → List (Nat × AO)) (Inv : ι → Prop) (μ : ι → Nat) (s : ι) (φ' : List (Nat × AV)) (σ' : List (Nat × AO)) : lendR N F S Inv μ s φ' σ' = ∃ s' sw, (μ s' < μ s ∧ Inv s') ∧ ends N (F s') (S s') sw φ' σ' := rfl
attribute [go_sem] lendR_app
theorem AWp.loopR {ι : Type} {x : ACode} {Q : Exit → AF → AS → Prop} (F : ι → AF) (S : ι → AS) (Inv : ι → Prop) (μ : ι → Nat) (s0 : ι) (hi : Inv s0) (h1 : fsub (F s0) φ) (h2 : ssub (S s0) σ)
    (hr : ∀ s, Inv s → AWp P inv w0 M N n x (Then (lendR N F S Inv μ s) Q) (F s) (S s)) : AWp P inv w0 M N n (.loop x) Q φ σ := by
  intro c₀ hc β a w hs
  obtain ⟨x₀, rfl, hx⟩ := inv_loop hc
  obtain ⟨hs0, he0⟩ := hs.sub h1 h2 N
  refine Code.wp_mono (fun _ _ _ h => h) (wp_loop_ghost (fun m' a' w' => ∃ s β', m' = μ s ∧ Inv s ∧ St inv w0 M n (F s) (S s) β' a' w' ∧ Ext N (ctx inv M σ β w) (ctx inv M (S s) β' w')) (μ s0) ⟨s0, β, rfl, hi, hs0, he0⟩ ?_)
  rintro m1 a1 w1 ⟨s1, β1, rfl, hI1, hs1, he1⟩
  refine Code.wp_mono ?_ (hr s1 hI1 x₀ hx β1 a1 w1 hs1)
  rintro e a2 w2 ⟨φ2, σ2, β2, q, hst, hext⟩
  cases e with
  | normal =>
    obtain ⟨s', sw, ⟨hlt, hI'⟩, hok, hf, hss⟩ := q
    obtain ⟨β3, hst3, hext3⟩ := hst.swap N sw hok
    obtain ⟨hst4, hext4⟩ := hst3.sub hf hss N
    exact ⟨_, hlt, s', β3, rfl, hI', hst4, he1.trans (hext.trans (hext3.trans hext4))⟩
  | exit id => exact ⟨φ2, σ2, β2, q, hst, he1.trans hext⟩
  | goto l => exact ⟨φ2, σ2, β2, q, hst, he1.trans hext⟩
  | ret => exact ⟨φ2, σ2, β2, q, hst, he1.trans hext⟩
  | panic ch => exact ⟨φ2, σ2, β2, q, hst, he1.trans hext⟩
  | outgrown => exact ⟨φ2, σ2, β2, q, hst, he1.trans hext⟩
theorem SLe_of {σ σ' : AS} (h : ssub σ σ') : SLe σ σ' := fun l o e _ => ssub_get h l o e
theorem PO.introR {j : Nat} {F : AFn} (hF : Has P inv j F) {args : List AV} {r0 : AV} {σ0 : AS} (hl : args.length ≤ F.ntmps)
    (h : ∀ (w0 : World) (M : Nat → Prop) (Q : Exit → AF → AS → Prop), (∀ b, M b → b < w0.heap.size) → (∀ φ σ r, fnRes φ σ F.res = some r → (r = r0 ∧ ssub σ0 σ) ∨ (∃ sz, r = .s0 sz ∧ r0 = .sm 0 0 0 0 sz ∧ σ0 = [(0, .cells [] false)]) → Q .ret φ σ) → (∀ φ σ, Q .ret φ σ → Q .normal φ σ) → AWp P inv w0 M 0 F.ntmps F.body Q (argF 0 args) []) : PO P inv j args r0 σ0 := by
  intro w0 M hM g hg β w vs hm ha
  refine (AC.body hF hl (R := fun r σ => (r = r0 ∧ ssub σ0 σ) ∨ (∃ sz, r = .s0 sz ∧ r0 = .sm 0 0 0 0 sz ∧ σ0 = [(0, .cells [] false)])) (h w0 M _ hM (fun φ σ r h1 h2 => ⟨r, h1, h2⟩) fun _ _ h => h) g hg β w vs hm ha).mono ?_
  rintro e w' ⟨v, r, σ', β', rfl, hR, hm', hx, hr⟩
  rcases hR with ⟨rfl, hs⟩ | ⟨sz, rfl, rfl, rfl⟩
  · have hd := fun N => hm'.drop (ssub_get hs) N
    exact ⟨v, r, σ0, β', rfl, ⟨rfl, rfl⟩, (hd 0).1, hx.trans (hd 0).2, (hd r.bound).2.rel (under_of_bound _ (Nat.le_refl _)) hr⟩
  · have hd := fun N => hm'.drop (σ' := []) (fun l o e => by simp [sget] at e) N
    obtain ⟨g1, g2⟩ := (hd 0).1.empty (l := 0) (Nat.le_refl _)
    have hr0 := (hd 0).2.rel (under_of_bound (AV.s0 sz) (Nat.le_refl _)) hr
    exact ⟨v, _, [(0, .cells [] false)], β', rfl, ⟨rfl, rfl⟩, g1, hx.trans ((hd 0).2.trans (g2 0 (Nat.le_refl _))), rel_empty hr0⟩
end
mutual
theorem plain_sh (b : Nat) : ∀ x : AV, x.plain = true → shV b x = x
  | .agg cs, h => by simp only [AV.plain] at h; simp only [shV, plainL_sh b cs h]
  | .i _ _, _ => rfl | .b _, _ => rfl | .v _, _ => rfl | .sl _ _, _ => rfl | .ip _ _ _ _, _ => rfl
  | .tup _, h => by simp [AV.plain] at h
  | .u, h => by simp [AV.plain] at h
  | .s0 _, h => by simp [AV.plain] at h
  | .ptr _ _ _, h => by simp [AV.plain] at h
  | .sm _ _ _ _ _, h => by simp [AV.plain] at h
  | .fn _ _, h => by simp [AV.plain] at h
  | .mp _, h => by simp [AV.plain] at h
  | .top, h => by simp [AV.plain] at h
theorem plainL_sh (b : Nat) : ∀ xs : List AV, AV.plainL xs = true → shL b xs = xs
  | [], _ => rfl
  | x :: xs, h => by
    simp only [AV.plainL, Bool.and_eq_true] at h
    simp only [shL, plain_sh b x h.1, plainL_sh b xs h.2]
end
mutual
theorem plain_rn (f : Nat → Nat) : ∀ x : AV, x.plain = true → rnV f x = x
  | .agg cs, h => by simp only [AV.plain] at h; simp only [rnV, plainL_rn f cs h]
  | .i _ _, _ => rfl | .b _, _ => rfl | .v _, _ => rfl | .sl _ _, _ => rfl | .ip _ _ _ _, _ => rfl
  | .tup _, h => by simp [AV.plain] at h
  | .u, h => by simp [AV.plain] at h
  | .s0 _, h => by simp [AV.plain] at h
  | .ptr _ _ _, h => by simp [AV.plain] at h
  | .sm _ _ _ _ _, h => by simp [AV.plain] at h
  | .fn _ _, h => by simp [AV.plain] at h
  | .mp _, h => by simp [AV.plain] at h
  | .top, h => by simp [AV.plain] at h
theorem plainL_rn (f : Nat → Nat) : ∀ xs : List AV, AV.plainL xs = true → rnL f xs = xs
  | [], _ => rfl
  | x :: xs, h => by
    simp only [AV.plainL, Bool.and_eq_true] at h
    simp only [rnL, plain_rn f x h.1, plainL_rn f xs h.2]
end
section cells
variable {α : Type} {c : α → List AV} {sz : Nat} [h : Cells c sz]
include h
theorem flat_sh (b : Nat) (l : List α) : shL b (l.map c).flatten = (l.map c).flatten := plainL_sh b _ (flat_plain l)
theorem flat_rn (f : Nat → Nat) (l : List α) : rnL f (l.map c).flatten = (l.map c).flatten := plainL_rn f _ (flat_plain l)
theorem flat_get {l : List α} {k i : Nat} [Inhabited α] (hk : k < l.length) (hi : i < sz) : (l.map c).flatten[k * sz + i]? = (c (nth l k))[i]? := by
  have e : (l.map c).flatten[k * sz + i]? = ((l.map c).flatten.drop (k * sz))[i]? := by rw [List.getElem?_drop]
  rw [e, flat_drop l k (by omega), drop_at hk, List.map_cons, List.flatten_cons, List.getElem?_append_left (by rw [h.len]; exact hi)]
theorem flat_aload {l : List α} {k : Nat} [Inhabited α] (hk : k < l.length) (hs : 0 < sz) : aloadC (l.map c).flatten (k * sz) (some sz) = some (.agg (c (nth l k))) := by
  have hle : k * sz + sz ≤ (l.map c).flatten.length := by
    rw [flat_len]
    have : (k + 1) * sz ≤ l.length * sz := Nat.mul_le_mul_right _ hk
    rw [Nat.add_mul, Nat.one_mul] at this
    exact this
  show (if 0 < sz ∧ k * sz + sz ≤ (l.map c).flatten.length then some (AV.agg (seg (l.map c).flatten (k * sz) sz)) else none) = _
  rw [if_pos ⟨hs, hle⟩, flat_seg l k hk, nth_eq hk]
theorem flat_set {l : List α} {k i : Nat} [Inhabited α] (hk : k < l.length) (hi : i < sz) (x : AV) (a : α) (ha : c a = (c (nth l k)).set i x) : (l.map c).flatten.set (k * sz + i) x = ((l.set k a).map c).flatten := by
  induction l generalizing k with
  | nil => simp at hk
  | cons y l ih =>
    cases k with
    | zero =>
      simp only [Nat.zero_mul, Nat.zero_add, List.map_cons, List.flatten_cons, List.set_cons_zero]
      rw [List.set_append_left _ _ (by rw [h.len]; exact hi), ha]
      rfl
    | succ k =>
      simp only [List.map_cons, List.flatten_cons, List.set_cons_succ]
      rw [List.set_append_right _ _ (by rw [h.len, Nat.add_mul]; omega), h.len, show (k + 1) * sz + i - sz = k * sz + i by rw [Nat.add_mul]; omega]
      rw [ih (by simpa using hk) (by simpa [nth] using ha)]
end cells
attribute [go_sem] flat_sh flat_rn Nat.zero_le
attribute [go_sem high] flat_aload
attribute [go_sem] shV shL shO shS sapp rnV rnL rnO rnS rnF swN swF swS swOk sdel
end Go.Eng
