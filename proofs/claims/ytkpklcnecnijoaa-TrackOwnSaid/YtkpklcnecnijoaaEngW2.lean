/-
  THE ENGINE, PART W2: calls whose answer lies in new rows that the caller may write; rows that nobody writes any more.
-/
import Derived.Test.YtkpklcnecnijoaaEngW
namespace Go.Eng
set_option linter.unusedSimpArgs false
set_option linter.unusedVariables false
set_option linter.unusedSectionVars false
open Go.RowKit

mutual
def shV (b : Nat) : AV → AV
  | .agg cs => .agg (shL b cs)
  | .tup cs => .tup (shL b cs)
  | .fn j cs => .fn j (shL b cs)
  | .ptr l ver off => .ptr (l + b) ver off
  | .sm l ver off n sz => .sm (l + b) ver off n sz
  | .mp l => .mp (l + b)
  | .i k n => .i k n
  | .b t => .b t
  | .v x => .v x
  | .u => .u
  | .s0 sz => .s0 sz
  | .sl sz es => .sl sz es
  | .ip sz es i k => .ip sz es i k
  | .top => .top
def shL (b : Nat) : List AV → List AV
  | [] => []
  | x :: xs => shV b x :: shL b xs
end
def shO (b : Nat) : AO → AO
  | .cells cs r => .cells (shL b cs) r
  | .imap kvs => .imap kvs
  | .rsv => .rsv
def shS (b : Nat) : List (Nat × AO) → List (Nat × AO)
  | [] => []
  | (l, o) :: r => (l + b, shO b o) :: shS b r
def sapp : List (Nat × AO) → List (Nat × AO) → List (Nat × AO)
  | [], τ => τ
  | (l, o) :: r, τ => (l, o) :: sapp r τ
theorem shL_length (b : Nat) : ∀ xs : List AV, (shL b xs).length = xs.length
  | [] => rfl
  | x :: xs => by simp [shL, shL_length b xs]
theorem shO_real (b : Nat) (o : AO) : (shO b o).real = o.real := by cases o <;> rfl
theorem sget_shS_lo (b : Nat) : ∀ (σ : AS) (l : Nat), l < b → sget (shS b σ) l = none
  | [], l, _ => rfl
  | (k, o) :: r, l, h => by simp only [shS, sget, if_neg (show ¬ l = k + b by omega), sget_shS_lo b r l h]
theorem sget_shS (b : Nat) : ∀ (σ : AS) (l : Nat), sget (shS b σ) (l + b) = (sget σ l).map (shO b)
  | [], l => rfl
  | (k, o) :: r, l => by
    simp only [shS, sget, sget_shS b r l]
    by_cases h : l = k
    · subst h; simp
    · rw [if_neg (by omega), if_neg h]
theorem sget_sapp (τ : AS) : ∀ (σ : AS) (l : Nat), sget (sapp σ τ) l = match sget σ l with | some o => some o | none => sget τ l
  | [], l => rfl
  | (k, o) :: r, l => by
    simp only [sapp, sget]
    split
    · rfl
    · exact sget_sapp τ r l

theorem rel_moved {c c' : Ctx} (hle : c.Le c') {x : AV} {y : Value} (hu : x.under 0 = true) (r : rel c x y) : rel c' x y :=
  rel_mono (N := 0) hle x y (.inl ⟨fun l hl => absurd hl (Nat.not_lt_zero _), hu⟩) r
mutual
theorem rel_sh {c c' : Ctx} (hle : c.Le c') (b : Nat) (hS : ∀ l, c'.S (l + b) = c.S l) : ∀ (x : AV) (y : Value), rel c x y → rel c' (shV b x) y
  | .agg cs, y, r => by
    simp only [rel, shV] at r ⊢
    obtain ⟨xs, e, r⟩ := r
    exact ⟨xs, e, relCs_sh hle b hS cs _ r⟩
  | .tup cs, y, r => by
    simp only [rel, shV] at r ⊢
    obtain ⟨xs, e, r⟩ := r
    exact ⟨xs, e, relL_sh hle b hS cs _ r⟩
  | .fn j cs, y, r => by
    simp only [rel, shV] at r ⊢
    obtain ⟨g, xs, e, hi, r⟩ := r
    exact ⟨g, xs, e, by rw [hle.inv]; exact hi, relL_sh hle b hS cs _ r⟩
  | .ptr l ver off, y, r => by
    simp only [rel, shV] at r ⊢
    rw [hS]; exact r
  | .sm l ver off n sz, y, r => by
    simp only [rel, shV] at r ⊢
    rw [hS]; exact r
  | .mp l, y, r => by
    simp only [rel, shV] at r ⊢
    rw [hS]; exact r
  | .i k n, y, r => by simp only [shV]; exact rel_moved hle rfl r
  | .b t, y, r => by simp only [shV]; exact rel_moved hle rfl r
  | .v x, y, r => by simp only [shV]; exact rel_moved hle rfl r
  | .u, y, r => by simp only [shV]; exact rel_moved hle rfl r
  | .s0 sz, y, r => by simp only [shV]; exact rel_moved hle rfl r
  | .sl sz es, y, r => by simp only [shV]; exact rel_moved hle rfl r
  | .ip sz es i k, y, r => by simp only [shV]; exact rel_moved hle rfl r
  | .top, y, r => by simp only [shV, rel]
theorem relL_sh {c c' : Ctx} (hle : c.Le c') (b : Nat) (hS : ∀ l, c'.S (l + b) = c.S l) : ∀ (xs : List AV) (ys : List Value), relL c xs ys → relL c' (shL b xs) ys
  | [], ys, r => by simpa only [shL, relL] using r
  | x :: xs, ys, r => by
    simp only [shL, relL] at r ⊢
    obtain ⟨y, ys', e, r1, r2⟩ := r
    exact ⟨y, ys', e, rel_sh hle b hS x y r1, relL_sh hle b hS xs ys' r2⟩
theorem relCs_sh {c c' : Ctx} (hle : c.Le c') (b : Nat) (hS : ∀ l, c'.S (l + b) = c.S l) : ∀ (xs : List AV) (ys : List Value), relCs c xs ys → relCs c' (shL b xs) ys
  | [], ys, r => by simpa only [shL, relCs] using r
  | x :: xs, ys, r => by
    simp only [shL, relCs] at r ⊢
    obtain ⟨y, ys', e, ho, r1, r2⟩ := r
    exact ⟨y, ys', e, ho, rel_sh hle b hS x y r1, relCs_sh hle b hS xs ys' r2⟩
end

section
variable {P : Program} {inv : Nat → Option Nat} {w0 : World} {M : Nat → Prop} {n N : Nat} {φ : AF} {σ : AS} {β : Nat → Nat} {w : World}

theorem Mem.join {w' : World} {σ' : AS} {β' : Nat → Nat} (hm : Mem inv w0 M σ β w) (hm' : Mem inv w (avoid M σ β) σ' β' w') (b : Nat) (hb : sbound σ ≤ b) :
    Mem inv w0 M (sapp σ (shS b σ')) (fun l => if l < b then β l else β' (l - b)) w' ∧ Ext b (ctx inv M σ β w) (ctx inv M (sapp σ (shS b σ')) (fun l => if l < b then β l else β' (l - b)) w') ∧
      (∀ x y, rel (ctx inv (avoid M σ β) σ' β' w') x y → rel (ctx inv M (sapp σ (shS b σ')) (fun l => if l < b then β l else β' (l - b)) w') (shV b x) y) := by
  have hbel := hm'.below
  have lo : ∀ l, l < b → sget (sapp σ (shS b σ')) l = sget σ l := fun l hl => by
    rw [sget_sapp, sget_shS_lo b σ' l hl]; cases sget σ l <;> rfl
  have hi : ∀ l, sget (sapp σ (shS b σ')) (l + b) = (sget σ' l).map (shO b) := fun l => by
    rw [sget_sapp, sget_above (by omega), sget_shS]
  have cases_ : ∀ l, l < b ∨ ∃ k, l = k + b := fun l => by
    rcases Nat.lt_or_ge l b with h | h
    · exact .inl h
    · exact .inr ⟨l - b, by omega⟩
  have pl_lo : ∀ l, l < b → place (fun l => if l < b then β l else β' (l - b)) w' (sapp σ (shS b σ')) l = place β w σ l := fun l hl => by
    unfold place
    rw [lo l hl]
    cases e : sget σ l with
    | none => rfl
    | some o =>
      cases o with
      | rsv => rfl
      | imap kvs => simp only [if_pos hl]
      | cells cs r =>
        cases r with
        | true => simp only [if_pos hl]; rw [blockSize_of (hbel.block _ (hm.own l _ e rfl).2)]
        | false => rfl
  have pl_hi : ∀ l, place (fun l => if l < b then β l else β' (l - b)) w' (sapp σ (shS b σ')) (l + b) = place β' w' σ' l := fun l => by
    unfold place
    rw [hi l]
    have hnot : ¬ l + b < b := by omega
    cases e : sget σ' l with
    | none => rfl
    | some o =>
      cases o with
      | rsv => rfl
      | imap kvs => simp only [Option.map_some, shO, if_neg hnot, Nat.add_sub_cancel]
      | cells cs r =>
        cases r with
        | true => simp only [Option.map_some, shO, if_neg hnot, Nat.add_sub_cancel, shL_length]
        | false => simp only [Option.map_some, shO, shL_length]
  have av : ∀ x, avoid M (sapp σ (shS b σ')) (fun l => if l < b then β l else β' (l - b)) x → avoid (avoid M σ β) σ' β' x := by
    rintro x (h | ⟨l, o, e, hr, hx⟩)
    · exact .inl (.inl h)
    · rcases cases_ l with hl | ⟨k, rfl⟩
      · rw [lo l hl] at e
        simp only [if_pos hl] at hx
        exact .inl (.inr ⟨l, o, e, hr, hx⟩)
      · rw [hi k] at e
        obtain ⟨o', e', rfl⟩ := Option.map_eq_some_iff.1 e
        simp only [if_neg (show ¬ k + b < b by omega), Nat.add_sub_cancel] at hx
        exact .inr ⟨k, o', e', by rw [shO_real] at hr; exact hr, hx⟩
  have hext : Ext b (ctx inv M σ β w) (ctx inv M (sapp σ (shS b σ')) (fun l => if l < b then β l else β' (l - b)) w') := by
    refine ⟨⟨rfl, hbel.size, fun x hlt _ => hbel.block x hlt, fun x hlt hx => ?_⟩, fun l hl p' hp' => ?_⟩
    · rcases av x hx with h | ⟨k, o, e, hr, hx⟩
      · exact h
      · have h1 := (hm'.own k o e hr).1
        have hlt : x < w.heap.size := hlt
        omega
    · have hp' : place (fun l => if l < b then β l else β' (l - b)) w' (sapp σ (shS b σ')) l = some p' := hp'
      rw [pl_lo l hl] at hp'
      exact ⟨p', hp', Nat.le_refl _, fun _ => rfl⟩
  have hle : (ctx inv (avoid M σ β) σ' β' w').Le (ctx inv M (sapp σ (shS b σ')) (fun l => if l < b then β l else β' (l - b)) w') :=
    ⟨rfl, Nat.le_refl _, fun _ _ _ => rfl, fun x _ hx => av x hx⟩
  have hsh : ∀ x y, rel (ctx inv (avoid M σ β) σ' β' w') x y → rel (ctx inv M (sapp σ (shS b σ')) (fun l => if l < b then β l else β' (l - b)) w') (shV b x) y := rel_sh hle b pl_hi
  refine ⟨⟨hm.below.trans (hbel.mono hm.below.size), fun l l' o o' e e' hr hr' hbb => ?_, fun l o e hr => ?_, fun l cs e => ?_, fun l cs e => ?_, fun l kvs e => ?_⟩, hext, hsh⟩
  · rcases cases_ l with hl | ⟨k, rfl⟩ <;> rcases cases_ l' with hl' | ⟨k', rfl⟩
    · rw [lo l hl] at e; rw [lo l' hl'] at e'
      simp only [if_pos hl, if_pos hl'] at hbb
      exact hm.inj l l' o o' e e' hr hr' hbb
    · rw [lo l hl] at e; rw [hi k'] at e'
      obtain ⟨o2, e2, rfl⟩ := Option.map_eq_some_iff.1 e'
      simp only [if_pos hl, if_neg (show ¬ k' + b < b by omega), Nat.add_sub_cancel] at hbb
      have h1 := (hm.own l o e hr).2
      have h2 := (hm'.own k' o2 e2 (by rw [shO_real] at hr'; exact hr')).1
      omega
    · rw [hi k] at e; rw [lo l' hl'] at e'
      obtain ⟨o2, e2, rfl⟩ := Option.map_eq_some_iff.1 e
      simp only [if_pos hl', if_neg (show ¬ k + b < b by omega), Nat.add_sub_cancel] at hbb
      have h1 := (hm.own l' o' e' hr').2
      have h2 := (hm'.own k o2 e2 (by rw [shO_real] at hr; exact hr)).1
      omega
    · rw [hi k] at e; rw [hi k'] at e'
      obtain ⟨o2, e2, rfl⟩ := Option.map_eq_some_iff.1 e
      obtain ⟨o3, e3, rfl⟩ := Option.map_eq_some_iff.1 e'
      simp only [if_neg (show ¬ k + b < b by omega), if_neg (show ¬ k' + b < b by omega), Nat.add_sub_cancel] at hbb
      rw [hm'.inj k k' o2 o3 e2 e3 (by rw [shO_real] at hr; exact hr) (by rw [shO_real] at hr'; exact hr') hbb]
  · rcases cases_ l with hl | ⟨k, rfl⟩
    · rw [lo l hl] at e
      simp only [if_pos hl]
      have := hm.own l o e hr
      exact ⟨this.1, Nat.lt_of_lt_of_le this.2 hbel.size⟩
    · rw [hi k] at e
      obtain ⟨o2, e2, rfl⟩ := Option.map_eq_some_iff.1 e
      simp only [if_neg (show ¬ k + b < b by omega), Nat.add_sub_cancel]
      have := hm'.own k o2 e2 (by rw [shO_real] at hr; exact hr)
      exact ⟨Nat.le_trans hm.below.size this.1, this.2⟩
  · rcases cases_ l with hl | ⟨k, rfl⟩
    · rw [lo l hl] at e
      simp only [if_pos hl]
      obtain ⟨xs, ty, e1, e2, e3⟩ := hm.cells l cs e
      refine ⟨xs, ty, (hbel.block _ (hm.own l _ e rfl).2).trans e1, e2, hext.relCs (underL_of_bound cs ?_) e3⟩
      have := (sbound_get σ l _ e).2
      exact Nat.le_trans this hb
    · rw [hi k] at e
      obtain ⟨o2, e2, e3⟩ := Option.map_eq_some_iff.1 e
      cases o2 with
      | cells cs2 r2 =>
        simp only [shO, AO.cells.injEq] at e3
        obtain ⟨rfl, rfl⟩ := e3
        simp only [if_neg (show ¬ k + b < b by omega), Nat.add_sub_cancel]
        obtain ⟨xs, ty, k1, k2, k3⟩ := hm'.cells k cs2 e2
        exact ⟨xs, ty, k1, by rw [shL_length]; exact k2, by rw [shL_length]; exact relCs_sh hle b pl_hi cs2 _ k3⟩
      | imap kvs => simp [shO] at e3
      | rsv => simp [shO] at e3
  · rcases cases_ l with hl | ⟨k, rfl⟩
    · rw [lo l hl] at e
      exact hm.ghost l cs e
    · rw [hi k] at e
      obtain ⟨o2, e2, e3⟩ := Option.map_eq_some_iff.1 e
      cases o2 with
      | cells cs2 r2 =>
        simp only [shO, AO.cells.injEq] at e3
        obtain ⟨rfl, rfl⟩ := e3
        rw [hm'.ghost k cs2 e2]
        rfl
      | imap kvs => simp [shO] at e3
      | rsv => simp [shO] at e3
  · rcases cases_ l with hl | ⟨k, rfl⟩
    · rw [lo l hl] at e
      simp only [if_pos hl]
      obtain ⟨es, clk, e1, e2⟩ := hm.maps l kvs e
      have hlt : β l < w.heap.size := (hm.own l _ e rfl).2
      exact ⟨es, clk, (hbel.block _ hlt).trans e1, e2⟩
    · rw [hi k] at e
      obtain ⟨o2, e2, e3⟩ := Option.map_eq_some_iff.1 e
      cases o2 with
      | imap kvs2 =>
        simp only [shO, AO.imap.injEq] at e3
        subst e3
        simp only [if_neg (show ¬ k + b < b by omega), Nat.add_sub_cancel]
        exact hm'.maps k kvs2 e2
      | cells cs2 r2 => simp [shO] at e3
      | rsv => simp [shO] at e3

def PO (P : Program) (inv : Nat → Option Nat) (j : Nat) (args : List AV) (r : AV) (σ0 : AS) : Prop :=
  ∀ (w0 : World) (M : Nat → Prop), (∀ b, M b → b < w0.heap.size) → AC P inv w0 M 0 j args [] fun r' σ' => r' = r ∧ σ' = σ0
theorem Mem.none (w : World) : Mem inv w M [] (fun _ => 0) w := ⟨.refl _ _, by intro l l' o o' e; simp [sget] at e, by intro l o e; simp [sget] at e, by intro l cs e; simp [sget] at e, by intro l cs e; simp [sget] at e, by intro l kvs e; simp [sget] at e⟩
theorem PO.introQ {j : Nat} {F : AFn} (hF : Has P inv j F) {args : List AV} {r0 : AV} {σ0 : AS} (hl : args.length ≤ F.ntmps)
    (h : ∀ (w0 : World) (M : Nat → Prop) (Q : Exit → AF → AS → Prop), (∀ b, M b → b < w0.heap.size) → (∀ φ σ r, fnRes φ σ F.res = some r → r = r0 ∧ ssub σ0 σ → Q .ret φ σ) → (∀ φ σ, Q .ret φ σ → Q .normal φ σ) → AWp P inv w0 M 0 F.ntmps F.body Q (argF 0 args) []) : PO P inv j args r0 σ0 := by
  intro w0 M hM g hg β w vs hm ha
  refine (AC.body hF hl (R := fun r σ => r = r0 ∧ ssub σ0 σ) (h w0 M _ hM (fun φ σ r h1 h2 => ⟨r, h1, h2⟩) fun _ _ h => h) g hg β w vs hm ha).mono ?_
  rintro e w' ⟨v, r, σ', β', rfl, ⟨rfl, hs⟩, hm', hx, hr⟩
  have hd := fun N => hm'.drop (ssub_get hs) N
  exact ⟨v, r, σ0, β', rfl, ⟨rfl, rfl⟩, (hd 0).1, hx.trans (hd 0).2, (hd r.bound).2.rel (under_of_bound _ (Nat.le_refl _)) hr⟩
theorem PO.callK (hM : ∀ b, M b → b < w0.heap.size) {j : Nat} {args : List AV} {r : AV} {σ0 : AS} (h : PO P inv j args r σ0) {K : AV → AS → Prop} (hk : K (shV (fresh N φ σ) r) (sapp σ (shS (fresh N φ σ) σ0))) : CallK P inv w0 M N φ σ j args K := by
  obtain ⟨f1, f2, f3⟩ := fresh_le N φ σ
  refine ⟨fresh N φ σ, f1, f2, fun g hg β w vs hm ha => ?_⟩
  have hle : (ctx inv M σ β w).Le (ctx inv (avoid M σ β) [] (fun _ => 0) w) := ⟨rfl, Nat.le_refl _, fun _ _ _ => rfl, fun b _ hb => by
    rcases hb with hb | ⟨l, o, e, _⟩
    · exact hb
    · simp [sget] at e⟩
  have hS : (ctx inv (avoid M σ β) [] (fun _ => 0) w).S = fun _ => Option.none := by funext l; simp [ctx, place, sget]
  refine (h w (avoid M σ β) (avoid_lt hm hM) g hg (fun _ => 0) w vs (Mem.none w) (relL_mono (N := 0) hle _ _ (.inr hS) ha)).mono ?_
  rintro e w' ⟨v, r', σ', β', rfl, ⟨rfl, rfl⟩, hm', _, hr⟩
  obtain ⟨j1, j2, j3⟩ := hm.join hm' (fresh N φ σ) f3
  exact ⟨v, _, _, _, rfl, hk, j1, j2, j3 _ _ hr⟩

theorem AWp.freeze {c : ACode} {Q : Exit → AF → AS → Prop} (hM : ∀ b, M b → b < w0.heap.size) (t l sz k : Nat) (cs : List AV) (r : Bool) (ht : fget φ t = .sm l cs.length 0 k sz) (hl : sget σ l = some (.cells cs r)) (hb : AV.plainL cs = true)
    (h : AWp P inv w0 M N n c Q (fput φ t (.sl sz (chunks sz k cs))) (sdel σ l)) : AWp P inv w0 M N n c Q φ σ := by
  intro c₀ hc β a w hs
  have hsd : ∀ l' o, sget (sdel σ l) l' = some o → sget σ l' = some o := by
    intro l' o e
    rw [sget_sdel] at e
    split at e
    · cases e
    · exact e
  have hd := fun N => hs.mem.drop hsd N
  have hnl : sget (sdel σ l) l = none := by rw [sget_sdel, if_pos rfl]
  refine Code.wp_mono ?_ (h c₀ hc β a w ⟨⟨fun i => ?_, (hd 0).1⟩, hs.size, hs.defers⟩)
  · rintro e a' w' ⟨φ2, σ2, β2, q2, hst2, hext2⟩
    exact ⟨φ2, σ2, β2, q2, hst2, ((hd N).2).trans hext2⟩
  · rw [fget_fput]
    split
    · rename_i e
      subst e
      have hr := hs.slots i
      rw [ht] at hr
      have hlive : live σ l cs.length := by unfold live; rw [hl]
      obtain ⟨p, ad, cap, hp, hv, hbd, hx, hcap, hr⟩ := sm_live hlive hr
      rw [hx]
      simp only [rel]
      refine ⟨ad, cap, by rw [chunks_length], by rw [chunks_length]; exact hcap, fun hne => ?_⟩
      have hm0 : 0 < k := by
        rcases Nat.eq_zero_or_pos k with e0 | e0
        · subst e0; exact absurd rfl hne
        · exact e0
      have hrl : r = true := by
        cases r with
        | true => rfl
        | false => unfold place at hp; rw [hl] at hp; cases hp; simp at hr; omega
      subst hrl
      have hpe : p = ⟨β l, cs.length, blockSize w (β l), true⟩ := by unfold place at hp; rw [hl] at hp; cases hp; rfl
      subst hpe
      simp only [if_true] at hr
      obtain ⟨ys, _, h4, h5⟩ := hs.mem.cell hl
      have hown := hs.mem.own l _ hl rfl
      refine ⟨_, hr.1.resolve_left (by omega), ?_, hown.2, ?_⟩
      · rintro (ha | ⟨l', o, e, hro, hbe⟩)
        · have := hM _ ha
          have := hown.1
          simp only at *
          omega
        · have := hs.mem.inj l' l o _ (hsd l' o e) hl hro rfl hbe
          subst this
          rw [hnl] at e
          cases e
      · have hbare := plainL_bare cs hb
        have h6 := (hd (AV.boundL cs)).2.relCs (underL_of_bound cs (Nat.le_refl _)) h4
        refine relRows_chunks k (by omega) hbare (relCs_bare _ _ hbare h6) fun j u hu => ?_
        show w.cell? _ = _
        rw [addr_add]
        simpa using h5 j u hu
    · exact (hd (fbound φ)).2.rel (under_of_bound _ (fbound_get φ i)) (hs.slots i)
end
end Go.Eng
