/-
  THE ENGINE, PART M: lists of operations; code; functions.
-/
import Derived.Test.YtclilifadifkgaaEngL
import Derived.Deep.LoopGhost
namespace Go.Eng
open Go.RowKit

section
variable {P : Program} {inv : Nat → Option Nat} {w0 : World} {M : Nat → Prop} {n N : Nat} {φ : AF} {σ : AS} {β : Nat → Nat} {a : Act} {w : World}

theorem op_sound (hE : Callable P inv) (hM : ∀ b, M b → b < w0.heap.size) (hs : St inv w0 M n φ σ β a w) {o : Oper} {op : AOp} (hc : compileOp P inv n o = some op) {K : AF → AS → Prop} (h : aop P inv w0 M N op φ σ K)
    {next : Act → World → Prop} {Q : Exit → Act → World → Prop} (hn : ∀ φ' σ' β' a' w', K φ' σ' → St inv w0 M n φ' σ' β' a' w' → Ext N (ctx inv M σ β w) (ctx inv M σ' β' w') → next a' w') : o.wp P a w next Q := by
  unfold compileOp at hc
  split at hc
  · rename_i e he
    split at hc
    · rename_i d hd
      split at hc
      · rename_i hlt
        simp only [Option.some.injEq] at hc
        subst hc
        obtain ⟨x, y, hk, hr, hrun⟩ := aval_sound hs.toKnows he (K := fun x => K (fput φ d x) σ) h
        unfold Oper.wp
        rw [hrun]
        show next (a.put o.dst y) w
        rw [hd]
        exact hn _ _ _ _ _ hk (hs.set hlt hr) (.refl _ _)
      · cases hc
    · cases hc
  · split at hc
    · rename_i op' he
      split at hc
      · rename_i hcond
        simp only [Option.some.injEq] at hc
        subst hc
        exact eff_sound hE hM hs he hcond.1 hcond.2 h hn
      · cases hc
    · split at hc
      · simp only [Option.some.injEq] at hc
        subst hc
        exact h.elim
      · cases hc
theorem compileOp_dst {o : Oper} {op : AOp} (hc : compileOp P inv n o = some op) : op.dst = o.dst ∧ dstOk n o.dst = true := by
  unfold compileOp at hc
  split at hc
  · split at hc
    · rename_i d hd
      split at hc
      · rename_i hlt
        simp only [Option.some.injEq] at hc
        subst hc
        exact ⟨hd.symm, by rw [hd]; simpa [dstOk] using hlt⟩
      · cases hc
    · cases hc
  · split at hc
    · split at hc
      · rename_i hcond
        simp only [Option.some.injEq] at hc
        subst hc
        exact hcond
      · cases hc
    · split at hc
      · rename_i hcond
        simp only [Option.some.injEq] at hc
        subst hc
        exact ⟨rfl, hcond⟩
      · cases hc

/-- An operation that is passed over. -/
theorem St.skip (hs : St inv w0 M n φ σ β a w) {d : Option Nat} (hd : dstOk n d = true) : St inv w0 M n (putO φ d .u) σ β (a.put d undef) w := by
  cases d with
  | none => exact hs
  | some d => exact hs.set (dst_lt hd d rfl) (by simp only [rel])
theorem St.known (hs : St inv w0 M n φ σ β a w) {s : Nat} {x : AV} (h : ∀ y, rel (ctx inv M σ β w) (fget φ s) y → rel (ctx inv M σ β w) x y) : St inv w0 M n (fput φ s x) σ β a w := by
  refine ⟨⟨fun i => ?_, hs.mem⟩, hs.size, hs.defers⟩
  rw [fget_fput]
  split
  · rename_i e; rw [e]; exact h _ (hs.slots s)
  · exact hs.slots i

theorem yielded_of {ops : Array Oper} {j s : Nat} (hj : (ops[j]?).bind (·.dst) = some s) (hs : s < a.tmps.size) : yielded ops a.tmps j = match a.tmps.getD s undef with | .bool b => some b | _ => none := by
  have h : a.tmps[s]? = some (a.tmps.getD s undef) := by simp [hs]
  simp only [yielded, hj, Option.bind_some, h]
  cases a.tmps.getD s undef <;> rfl

theorem ops_sound (hE : Callable P inv) (hM : ∀ b, M b → b < w0.heap.size) {ops : Array Oper} {Q : Exit → Act → World → Prop} {K : AF → AS → Prop} :
    ∀ {l : List Oper} {al : List GOp} {φ : AF} {σ : AS} {β : Nat → Nat} {a : Act} {w : World}, compileOps P inv n ops l = some al → awpOps P inv w0 M N al K φ σ → St inv w0 M n φ σ β a w →
      (∀ φ' σ' β' a' w', K φ' σ' → St inv w0 M n φ' σ' β' a' w' → Ext N (ctx inv M σ β w) (ctx inv M σ' β' w') → Q .normal a' w') → wpList P ops Q l a w
  | [], al, φ, σ, β, a, w, hc, h, hs, hn => by
    simp only [compileOps, Option.some.injEq] at hc
    subst hc
    exact hn _ _ _ _ _ h hs (.refl _ _)
  | o :: l, al, φ, σ, β, a, w, hc, h, hs, hn => by
    simp only [compileOps] at hc
    split at hc
    · rename_i g op al' hg hop hal
      simp only [Option.some.injEq] at hc
      subst hc
      obtain ⟨hd1, hd2⟩ := compileOp_dst hop
      have go : ∀ {φ : AF}, St inv w0 M n φ σ β a w → Region.wanted o (yielded ops a.tmps) = true → aop P inv w0 M N op φ σ (awpOps P inv w0 M N al' K) → wpList P ops Q (o :: l) a w := by
        intro φ hs hw h
        unfold wpList
        rw [if_pos hw]
        refine .inl (op_sound hE hM hs hop h fun φ' σ' β' a' w' hk hst hext => ?_)
        exact ops_sound hE hM hal hk hst fun φ2 σ2 β2 a2 w2 k2 s2 e2 => hn _ _ _ _ _ k2 s2 (hext.trans e2)
      have skip : ∀ {φ : AF}, St inv w0 M n φ σ β a w → Region.wanted o (yielded ops a.tmps) = false → awpOps P inv w0 M N al' K (putO φ op.dst .u) σ → wpList P ops Q (o :: l) a w := by
        intro φ hs hw h
        refine wpList_skip hw ?_
        rw [hd1] at h
        exact ops_sound hE hM hal h (hs.skip hd2) hn
      cases hgd : o.guard with
      | none =>
        rw [hgd] at hg
        simp only [cguard, Option.some.injEq] at hg
        subst hg
        exact go hs (by simp [Region.wanted, hgd]) h
      | some jw =>
        obtain ⟨j, want⟩ := jw
        rw [hgd] at hg
        simp only [cguard] at hg
        split at hg
        · rename_i s hj
          split at hg
          · rename_i hlt
            simp only [Option.some.injEq] at hg
            subst hg
            have hy := yielded_of (a := a) hj (by rw [hs.size]; exact hlt)
            have hsl := hs.slots s
            have hcs : (∃ t, fget φ s = .b t ∧ (t = want → aop P inv w0 M N op φ σ (awpOps P inv w0 M N al' K)) ∧ (¬ t = want → awpOps P inv w0 M N al' K (putO φ op.dst .u) σ)) ∨ (fget φ s = .u ∧ awpOps P inv w0 M N al' K (putO φ op.dst .u) σ) := by
              cases want <;> simp only [awpOps] at h <;> split at h
              all_goals first | exact h.elim | skip
              · rename_i t et
                refine .inl ⟨t, et, fun e => ?_, fun e => ?_⟩
                · have := h.2 e; rwa [fref_id (by rw [et, e])] at this
                · have e' : t = true := by simpa using e
                  have := h.1 e'; rwa [fref_id (by rw [et, e'])] at this
              · rename_i et; exact .inr ⟨et, h⟩
              · rename_i t et
                refine .inl ⟨t, et, fun e => ?_, fun e => ?_⟩
                · have := h.1 e; rwa [fref_id (by rw [et, e])] at this
                · have e' : t = false := by simpa using e
                  have := h.2 e'; rwa [fref_id (by rw [et, e'])] at this
              · rename_i et; exact .inr ⟨et, h⟩
            rcases hcs with ⟨t, et, h1, h2⟩ | ⟨et, h⟩
            · rw [et] at hsl
              simp only [rel] at hsl
              have hw : Region.wanted o (yielded ops a.tmps) = decide (t = want) := by
                simp only [Region.wanted, hgd, hy, hsl]
                cases t <;> cases want <;> rfl
              by_cases htw : t = want
              · exact go hs (by rw [hw]; simpa using htw) (h1 htw)
              · exact skip hs (by rw [hw]; simpa using htw) (h2 htw)
            · rw [et] at hsl
              simp only [rel] at hsl
              refine skip hs ?_ h
              simp only [Region.wanted, hgd, hy, hsl]
              rfl
          · cases hg
        · cases hg
    · cases hc

/-! ### code -/
theorem AWp.mono {c : ACode} {Q Q' : Exit → AF → AS → Prop} (hq : ∀ e φ σ, Q e φ σ → Q' e φ σ) (h : AWp P inv w0 M N n c Q φ σ) : AWp P inv w0 M N n c Q' φ σ :=
  fun c₀ hc β a w hs => Code.wp_mono (fun _ _ _ ⟨φ', σ', β', q, r⟩ => ⟨φ', σ', β', hq _ _ _ q, r⟩) (h c₀ hc β a w hs)
theorem drawn_shape {prs : List (List Nat)} {gs : List GOp} {k : Nat} {c : ACode} (h : drawn prs gs k = some c) : ∃ l, c = .regd k l := by
  unfold drawn at h
  simp only at h
  split at h
  · simp only [Option.some.injEq] at h; exact ⟨_, h.symm⟩
  · split at h
    · simp only [Option.some.injEq] at h; exact ⟨_, h.symm⟩
    · cases h
theorem compileD_shape {ops : Array Oper} {c : ACode} (h : compileD P inv n ops = some c) : ∃ kl : Nat × List GOp, c = .regd kl.1 kl.2 := by
  unfold compileD at h
  split at h
  · split at h
    · rename_i e
      simp only [Option.some.injEq] at h
      obtain ⟨l, rfl⟩ := drawn_shape e
      exact ⟨(_, l), h.symm⟩
    · obtain ⟨l, rfl⟩ := drawn_shape h
      exact ⟨(_, l), rfl⟩
  · cases h
theorem inv_skip {c₀ : Code} (h : compileC P inv n c₀ = some .skip) : c₀ = .skip := by
  unfold compileC at h
  split at h <;> first | rfl | (cases h; done) | (obtain ⟨_, e⟩ := compileD_shape h; cases e; done) | (obtain ⟨_, _, e⟩ := Option.map_eq_some_iff.1 h; cases e; done) | (split at h <;> simp at h)
theorem inv_exit {c₀ : Code} {id : Nat} (h : compileC P inv n c₀ = some (.exit id)) : c₀ = .exit id := by
  unfold compileC at h
  split at h <;> first | (cases h; done) | (obtain ⟨_, e⟩ := compileD_shape h; cases e; done) | (obtain ⟨_, _, e⟩ := Option.map_eq_some_iff.1 h; cases e; done) | (simp only [Option.some.injEq, ACode.exit.injEq] at h; rw [h]; done) | (split at h <;> simp at h)
theorem inv_ret {c₀ : Code} (h : compileC P inv n c₀ = some .ret) : c₀ = .ret := by
  unfold compileC at h
  split at h <;> first | rfl | (cases h; done) | (obtain ⟨_, e⟩ := compileD_shape h; cases e; done) | (obtain ⟨_, _, e⟩ := Option.map_eq_some_iff.1 h; cases e; done) | (split at h <;> simp at h)
theorem inv_reg {c₀ : Code} {l : List GOp} (h : compileC P inv n c₀ = some (.reg l)) : ∃ id ops, c₀ = .region id ops false ∧ compileOps P inv n ops ops.toList = some l := by
  unfold compileC at h
  split at h <;> first | (cases h; done) | (obtain ⟨_, e⟩ := compileD_shape h; cases e; done) | (obtain ⟨l', h1, e⟩ := Option.map_eq_some_iff.1 h; cases e; exact ⟨_, _, rfl, h1⟩) | (obtain ⟨_, _, e⟩ := Option.map_eq_some_iff.1 h; cases e; done) | (split at h <;> simp at h)
theorem inv_seq {c₀ : Code} {x y : ACode} (h : compileC P inv n c₀ = some (.seq x y)) : ∃ x₀ y₀, c₀ = .seq x₀ y₀ ∧ compileC P inv n x₀ = some x ∧ compileC P inv n y₀ = some y := by
  unfold compileC at h
  split at h <;> first | (cases h; done) | (obtain ⟨_, e⟩ := compileD_shape h; cases e; done) | (obtain ⟨_, _, e⟩ := Option.map_eq_some_iff.1 h; cases e; done) | skip
  all_goals (split at h <;> first | (cases h; done) | skip)
  all_goals (simp only [Option.some.injEq, ACode.seq.injEq] at h)
  rename_i h1 h2
  exact ⟨_, _, rfl, by rw [h1, h.1], by rw [h2, h.2]⟩
theorem inv_cond {c₀ : Code} {c : Opd} {x y : ACode} (h : compileC P inv n c₀ = some (.cond c x y)) : ∃ d x₀ y₀, c₀ = .cond d x₀ y₀ ∧ copd P inv 0 d = some c ∧ compileC P inv n x₀ = some x ∧ compileC P inv n y₀ = some y := by
  unfold compileC at h
  split at h <;> first | (cases h; done) | (obtain ⟨_, e⟩ := compileD_shape h; cases e; done) | (obtain ⟨_, _, e⟩ := Option.map_eq_some_iff.1 h; cases e; done) | skip
  all_goals (split at h <;> first | (cases h; done) | skip)
  all_goals (simp only [Option.some.injEq, ACode.cond.injEq] at h)
  rename_i h1 h2 h3
  exact ⟨_, _, _, rfl, by rw [h1, h.1], by rw [h2, h.2.1], by rw [h3, h.2.2]⟩
theorem inv_block {c₀ : Code} {id : Nat} {x : ACode} (h : compileC P inv n c₀ = some (.block id x)) : ∃ x₀, c₀ = .block id x₀ ∧ compileC P inv n x₀ = some x := by
  unfold compileC at h
  split at h <;> first | (cases h; done) | (obtain ⟨_, e⟩ := compileD_shape h; cases e; done) | (obtain ⟨l', h1, e⟩ := Option.map_eq_some_iff.1 h; cases e; exact ⟨_, rfl, h1⟩) | (obtain ⟨_, _, e⟩ := Option.map_eq_some_iff.1 h; cases e; done) | (split at h <;> simp at h)
theorem inv_loop {c₀ : Code} {x : ACode} (h : compileC P inv n c₀ = some (.loop x)) : ∃ x₀, c₀ = .loop x₀ ∧ compileC P inv n x₀ = some x := by
  unfold compileC at h
  split at h <;> first | (cases h; done) | (obtain ⟨_, e⟩ := compileD_shape h; cases e; done) | (obtain ⟨l', h1, e⟩ := Option.map_eq_some_iff.1 h; cases e; exact ⟨_, rfl, h1⟩) | (obtain ⟨_, _, e⟩ := Option.map_eq_some_iff.1 h; cases e; done) | (split at h <;> simp at h)

theorem AWp.skip {Q : Exit → AF → AS → Prop} (h : Q .normal φ σ) : AWp P inv w0 M N n .skip Q φ σ := by
  intro c₀ hc β a w hs
  rw [inv_skip hc]
  exact wp_skip ⟨φ, σ, β, h, hs, .refl _ _⟩
theorem AWp.exit {id : Nat} {Q : Exit → AF → AS → Prop} (h : Q (.exit id) φ σ) : AWp P inv w0 M N n (.exit id) Q φ σ := by
  intro c₀ hc β a w hs
  rw [inv_exit hc]
  exact wp_exit ⟨φ, σ, β, h, hs, .refl _ _⟩
theorem AWp.ret {Q : Exit → AF → AS → Prop} (h : Q .ret φ σ) : AWp P inv w0 M N n .ret Q φ σ := by
  intro c₀ hc β a w hs
  rw [inv_ret hc]
  exact wp_ret ⟨φ, σ, β, h, hs, .refl _ _⟩
theorem AWp.reg (hE : Callable P inv) (hM : ∀ b, M b → b < w0.heap.size) {l : List GOp} {Q : Exit → AF → AS → Prop} (h : awpOps P inv w0 M N l (Q .normal) φ σ) : AWp P inv w0 M N n (.reg l) Q φ σ := by
  intro c₀ hc β a w hs
  obtain ⟨id, ops, rfl, hl⟩ := inv_reg hc
  exact wp_region_list (ops_sound hE hM hl h hs fun φ' σ' β' a' w' hk hst hext => ⟨φ', σ', β', hk, hst, hext⟩)
/-- What comes to its end goes on with K; what does not, leaves. -/
def Then (K : AF → AS → Prop) (Q : Exit → AF → AS → Prop) : Exit → AF → AS → Prop
  | .normal, φ, σ => K φ σ
  | e, φ, σ => Q e φ σ
theorem AWp.seq {x y : ACode} {Q : Exit → AF → AS → Prop} (h : ∀ K : AF → AS → Prop, (∀ φ σ, AWp P inv w0 M N n y Q φ σ → K φ σ) → AWp P inv w0 M N n x (Then K Q) φ σ) : AWp P inv w0 M N n (.seq x y) Q φ σ := by
  intro c₀ hc β a w hs
  obtain ⟨x₀, y₀, rfl, hx, hy⟩ := inv_seq hc
  refine wp_seq ?_
  refine Code.wp_mono ?_ (h _ (fun _ _ h => h) x₀ hx β a w hs)
  rintro e a' w' ⟨φ', σ', β', q, hst, hext⟩
  cases e with
  | normal => exact Code.wp_mono (fun _ _ _ ⟨φ2, σ2, β2, q2, hst2, hext2⟩ => ⟨φ2, σ2, β2, q2, hst2, hext.trans hext2⟩) (q y₀ hy β' a' w' hst)
  | exit id => exact ⟨φ', σ', β', q, hst, hext⟩
  | goto l => exact ⟨φ', σ', β', q, hst, hext⟩
  | ret => exact ⟨φ', σ', β', q, hst, hext⟩
  | panic ch => exact ⟨φ', σ', β', q, hst, hext⟩
  | outgrown => exact ⟨φ', σ', β', q, hst, hext⟩
theorem AWp.cond {c : Opd} {x y : ACode} {Q : Exit → AF → AS → Prop} {t : Bool} (ht : ev φ c = .b t) (h1 : t = true → AWp P inv w0 M N n x Q φ σ) (h2 : t = false → AWp P inv w0 M N n y Q φ σ) : AWp P inv w0 M N n (.cond c x y) Q φ σ := by
  intro c₀ hc β a w hs
  obtain ⟨d, x₀, y₀, rfl, hd, hx, hy⟩ := inv_cond hc
  have hr := copd_rel hs.toKnows hd
  rw [ht] at hr
  simp only [rel] at hr
  exact wp_cond_split hr (fun e => h1 e x₀ hx β a w hs) (fun e => h2 e y₀ hy β a w hs)
def InBlock (id : Nat) (Q : Exit → AF → AS → Prop) : Exit → AF → AS → Prop
  | .exit id', φ, σ => if id' = id then Q .normal φ σ else Q (.exit id') φ σ
  | e, φ, σ => Q e φ σ
theorem AWp.block {id : Nat} {x : ACode} {Q : Exit → AF → AS → Prop} (h : AWp P inv w0 M N n x (InBlock id Q) φ σ) : AWp P inv w0 M N n (.block id x) Q φ σ := by
  intro c₀ hc β a w hs
  obtain ⟨x₀, rfl, hx⟩ := inv_block hc
  refine wp_block ?_
  refine Code.wp_mono ?_ (h x₀ hx β a w hs)
  rintro e a' w' ⟨φ', σ', β', q, hst, hext⟩
  cases e with
  | exit id' =>
    simp only [InBlock] at q
    simp only [Exit.inBlock]
    split
    · rename_i e; rw [if_pos e] at q; exact ⟨φ', σ', β', q, hst, hext⟩
    · rename_i e; rw [if_neg e] at q; exact ⟨φ', σ', β', q, hst, hext⟩
  | normal => exact ⟨φ', σ', β', q, hst, hext⟩
  | goto l => exact ⟨φ', σ', β', q, hst, hext⟩
  | ret => exact ⟨φ', σ', β', q, hst, hext⟩
  | panic ch => exact ⟨φ', σ', β', q, hst, hext⟩
  | outgrown => exact ⟨φ', σ', β', q, hst, hext⟩

/-! ### less is known -/
def fsub : List (Nat × AV) → AF → Prop
  | [], _ => True
  | (i, x) :: r, φ => fget φ i = x ∧ fsub r φ
def ssub : List (Nat × AO) → AS → Prop
  | [], _ => True
  | (l, o) :: r, σ => sget σ l = some o ∧ ssub r σ
theorem fsub_get : ∀ {φ' φ : AF}, fsub φ' φ → ∀ i, fget φ' i = .top ∨ fget φ' i = fget φ i
  | [], _, _, i => .inl rfl
  | (j, x) :: r, φ, h, i => by
    simp only [fsub] at h
    simp only [fget]
    split
    · rename_i e; subst e; exact .inr h.1.symm
    · exact fsub_get h.2 i
theorem ssub_get : ∀ {σ' σ : AS}, ssub σ' σ → ∀ l o, sget σ' l = some o → sget σ l = some o
  | [], _, _, l, o, h => by simp [sget] at h
  | (j, x) :: r, σ, hs, l, o, h => by
    simp only [ssub] at hs
    simp only [sget] at h
    split at h
    · rename_i e; subst e; simp only [Option.some.injEq] at h; subst h; exact hs.1
    · exact ssub_get hs.2 l o h
theorem St.sub {φ' : AF} {σ' : AS} (hs : St inv w0 M n φ σ β a w) (h1 : fsub φ' φ) (h2 : ssub σ' σ) (N1 : Nat) : St inv w0 M n φ' σ' β a w ∧ Ext N1 (ctx inv M σ β w) (ctx inv M σ' β w) := by
  have hd := fun N => hs.mem.drop (ssub_get h2) N
  refine ⟨⟨⟨fun i => ?_, (hd 0).1⟩, hs.size, hs.defers⟩, (hd N1).2⟩
  rcases fsub_get h1 i with e | e
  · rw [e]; simp only [rel]
  · rw [e]; exact (hd (fbound φ)).2.rel (under_of_bound _ (fbound_get φ i)) (hs.slots i)
theorem AWp.sub {φ' : AF} {σ' : AS} {c : ACode} {Q : Exit → AF → AS → Prop} (h : AWp P inv w0 M N n c Q φ' σ') (h1 : fsub φ' φ) (h2 : ssub σ' σ) : AWp P inv w0 M N n c Q φ σ := by
  intro c₀ hc β a w hs
  obtain ⟨hs', hx⟩ := hs.sub h1 h2 N
  exact Code.wp_mono (fun _ _ _ ⟨φ2, σ2, β2, q2, hst2, hext2⟩ => ⟨φ2, σ2, β2, q2, hst2, hx.trans hext2⟩) (h c₀ hc β a w hs')

/-- A loop: I holds at each round's head, of a part of what is known; μ falls. -/
theorem AWp.loop {x : ACode} {Q : Exit → AF → AS → Prop} (I : Nat → AF → AS → Prop) (m : Nat) (h0 : ∃ φ' σ', I m φ' σ' ∧ fsub φ' φ ∧ ssub σ' σ)
    (hr : ∀ m φ σ, I m φ σ → AWp P inv w0 M N n x (Then (fun φ' σ' => ∃ m' φ2 σ2, m' < m ∧ I m' φ2 σ2 ∧ fsub φ2 φ' ∧ ssub σ2 σ') Q) φ σ) : AWp P inv w0 M N n (.loop x) Q φ σ := by
  intro c₀ hc β a w hs
  obtain ⟨x₀, rfl, hx⟩ := inv_loop hc
  obtain ⟨φ0, σ0, hI, hf, hss⟩ := h0
  obtain ⟨hs0, he0⟩ := hs.sub hf hss N
  refine Code.wp_mono (fun _ _ _ h => h) (wp_loop_ghost (fun m' a' w' => ∃ φ' σ' β', I m' φ' σ' ∧ St inv w0 M n φ' σ' β' a' w' ∧ Ext N (ctx inv M σ β w) (ctx inv M σ' β' w')) m ⟨φ0, σ0, β, hI, hs0, he0⟩ ?_)
  rintro m1 a1 w1 ⟨φ1, σ1, β1, hI1, hs1, he1⟩
  refine Code.wp_mono ?_ (hr m1 φ1 σ1 hI1 x₀ hx β1 a1 w1 hs1)
  rintro e a2 w2 ⟨φ2, σ2, β2, q, hst, hext⟩
  cases e with
  | normal =>
    obtain ⟨m', φ3, σ3, hlt, hI3, hf3, hs3⟩ := q
    obtain ⟨hst3, hext3⟩ := hst.sub hf3 hs3 N
    exact ⟨m', hlt, φ3, σ3, β2, hI3, hst3, he1.trans (hext.trans hext3)⟩
  | exit id => exact ⟨φ2, σ2, β2, q, hst, he1.trans hext⟩
  | goto l => exact ⟨φ2, σ2, β2, q, hst, he1.trans hext⟩
  | ret => exact ⟨φ2, σ2, β2, q, hst, he1.trans hext⟩
  | panic ch => exact ⟨φ2, σ2, β2, q, hst, he1.trans hext⟩
  | outgrown => exact ⟨φ2, σ2, β2, q, hst, he1.trans hext⟩
end
end Go.Eng
