/-
  THE ENGINE, PART R: labels and gotos.
-/
import Derived.Test.YtclilifadifkgaaEngQ
import Derived.ScopeJumps
import Derived.Deep.LoopGhost
namespace Go.Eng
open Go.RowKit

def afind : ACode → Nat → Option ACode
  | .seq a b, l => match afind a l with
    | some r => some (.seq r b)
    | none => afind b l
  | .label l', l => if l' == l then some .skip else none
  | _, _ => none

section
variable {P : Program} {inv : Nat → Option Nat} {w0 : World} {M : Nat → Prop} {n N : Nat} {φ : AF} {σ : AS}

theorem afind_sound (l : Nat) : ∀ {c : Code} {x : ACode}, compileC P inv n c = some x → (∃ r₀ r, findLabel c l = some r₀ ∧ afind x l = some r ∧ compileC P inv n r₀ = some r) ∨ (findLabel c l = none ∧ afind x l = none) := by
  intro c
  induction c with
  | seq a b iha ihb =>
    intro x h
    simp only [compileC] at h
    split at h
    · rename_i x' y' hx hy
      simp only [Option.some.injEq] at h
      subst h
      rcases iha hx with ⟨r₀, r, h1, h2, h3⟩ | ⟨h1, h2⟩
      · exact .inl ⟨.seq r₀ b, .seq r y', by simp [findLabel, h1], by simp [afind, h2], by simp [compileC, h3, hy]⟩
      · rcases ihb hy with ⟨r₀, r, h3, h4, h5⟩ | ⟨h3, h4⟩
        · exact .inl ⟨r₀, r, by simp [findLabel, h1, h3], by simp [afind, h2, h4], h5⟩
        · exact .inr ⟨by simp [findLabel, h1, h3], by simp [afind, h2, h4]⟩
    · cases h
  | label l' =>
    intro x h
    simp only [compileC, Option.some.injEq] at h
    subst h
    simp only [findLabel, afind]
    split
    · exact .inl ⟨.skip, .skip, rfl, rfl, rfl⟩
    · exact .inr ⟨rfl, rfl⟩
  | region id ops d =>
    intro x h
    refine .inr ⟨rfl, ?_⟩
    cases d with
    | false => obtain ⟨_, _, e⟩ := Option.map_eq_some_iff.1 h; subst e; rfl
    | true => obtain ⟨_, e⟩ := compileD_shape h; subst e; rfl
  | cond c a b =>
    intro x h
    simp only [compileC] at h
    split at h
    · simp only [Option.some.injEq] at h; subst h; exact .inr ⟨rfl, rfl⟩
    · cases h
  | block id c _ => intro x h; obtain ⟨_, _, e⟩ := Option.map_eq_some_iff.1 h; subst e; exact .inr ⟨rfl, rfl⟩
  | loop c _ => intro x h; obtain ⟨_, _, e⟩ := Option.map_eq_some_iff.1 h; subst e; exact .inr ⟨rfl, rfl⟩
  | scope c _ => intro x h; obtain ⟨_, _, e⟩ := Option.map_eq_some_iff.1 h; subst e; exact .inr ⟨rfl, rfl⟩
  | skip => intro x h; simp only [compileC, Option.some.injEq] at h; subst h; exact .inr ⟨rfl, rfl⟩
  | exit id => intro x h; simp only [compileC, Option.some.injEq] at h; subst h; exact .inr ⟨rfl, rfl⟩
  | ret => intro x h; simp only [compileC, Option.some.injEq] at h; subst h; exact .inr ⟨rfl, rfl⟩
  | goto l' => intro x h; simp only [compileC, Option.some.injEq] at h; subst h; exact .inr ⟨rfl, rfl⟩
  | _ => intro x h; simp [compileC] at h

theorem inv_scope {c₀ : Code} {x : ACode} (h : compileC P inv n c₀ = some (.scope x)) : ∃ x₀, c₀ = .scope x₀ ∧ compileC P inv n x₀ = some x := by
  unfold compileC at h
  split at h <;> first | (cases h; done) | (obtain ⟨_, e⟩ := compileD_shape h; cases e; done) | (obtain ⟨l', h1, e⟩ := Option.map_eq_some_iff.1 h; cases e; exact ⟨_, rfl, h1⟩) | (obtain ⟨_, _, e⟩ := Option.map_eq_some_iff.1 h; cases e; done) | (split at h <;> simp at h)
theorem inv_label {c₀ : Code} {l : Nat} (h : compileC P inv n c₀ = some (.label l)) : c₀ = .label l := by
  unfold compileC at h
  split at h <;> first | (cases h; done) | (obtain ⟨_, e⟩ := compileD_shape h; cases e; done) | (obtain ⟨_, _, e⟩ := Option.map_eq_some_iff.1 h; cases e; done) | (simp only [Option.some.injEq, ACode.label.injEq] at h; rw [h]; done) | (split at h <;> simp at h)
theorem inv_goto {c₀ : Code} {l : Nat} (h : compileC P inv n c₀ = some (.goto l)) : c₀ = .goto l := by
  unfold compileC at h
  split at h <;> first | (cases h; done) | (obtain ⟨_, e⟩ := compileD_shape h; cases e; done) | (obtain ⟨_, _, e⟩ := Option.map_eq_some_iff.1 h; cases e; done) | (simp only [Option.some.injEq, ACode.goto.injEq] at h; rw [h]; done) | (split at h <;> simp at h)

theorem AWp.label {l : Nat} {Q : Exit → AF → AS → Prop} (h : Q .normal φ σ) : AWp P inv w0 M N n (.label l) Q φ σ := by
  intro c₀ hc β a w hs
  rw [inv_label hc]
  exact wp_label ⟨φ, σ, β, h, hs, .refl _ _⟩
theorem AWp.goto {l : Nat} {Q : Exit → AF → AS → Prop} (h : Q (.goto l) φ σ) : AWp P inv w0 M N n (.goto l) Q φ σ := by
  intro c₀ hc β a w hs
  rw [inv_goto hc]
  exact wp_goto ⟨φ, σ, β, h, hs, .refl _ _⟩
/-- By a goto to l: J; by no other one. -/
def JumpTo (l : Nat) (J : AF → AS → Prop) (Q : Exit → AF → AS → Prop) : Exit → AF → AS → Prop
  | .goto l', φ, σ => l' = l ∧ J φ σ
  | e, φ, σ => Q e φ σ
theorem AWp.scope {x r : ACode} {Q : Exit → AF → AS → Prop} (l : Nat) (hf : afind x l = some r) (I : Nat → AF → AS → Prop)
    (first : AWp P inv w0 M N n x (JumpTo l (fun φ' σ' => ∃ m φ2 σ2, I m φ2 σ2 ∧ fsub φ2 φ' ∧ ssub σ2 σ') Q) φ σ)
    (pass : ∀ m φ σ, I m φ σ → AWp P inv w0 M N n r (JumpTo l (fun φ' σ' => ∃ m' φ2 σ2, m' < m ∧ I m' φ2 σ2 ∧ fsub φ2 φ' ∧ ssub σ2 σ') Q) φ σ) : AWp P inv w0 M N n (.scope x) Q φ σ := by
  intro c₀ hc β a w hs
  obtain ⟨x₀, rfl, hx⟩ := inv_scope hc
  have hfl : ∃ r₀, findLabel x₀ l = some r₀ ∧ compileC P inv n r₀ = some r := by
    rcases afind_sound l hx with ⟨r₀, r', h1, h2, h3⟩ | ⟨_, h2⟩
    · rw [hf] at h2; simp only [Option.some.injEq] at h2; subst h2; exact ⟨r₀, h1, h3⟩
    · rw [hf] at h2; cases h2
  obtain ⟨r₀, hf0, hr0⟩ := hfl
  let J : Nat → Act → World → Prop := fun m a' w' => ∃ φ' σ' β', I m φ' σ' ∧ St inv w0 M n φ' σ' β' a' w' ∧ Ext N (ctx inv M σ β w) (ctx inv M σ' β' w')
  refine wp_scope_jumps (l := l) (rest := r₀) (fun a w => ∃ m, J m a w) (fun a w => leastOf fun m => J m a w) hf0 ?_ ?_
  · refine Code.wp_mono ?_ (first x₀ hx β a w hs)
    rintro e a' w' ⟨φ', σ', β', q, hst, hext⟩
    cases e with
    | goto l' =>
      obtain ⟨rfl, m, φ2, σ2, hI, h1, h2⟩ := q
      obtain ⟨hs2, he2⟩ := hst.sub h1 h2 N
      exact ⟨rfl, m, φ2, σ2, β', hI, hs2, hext.trans he2⟩
    | normal => exact ⟨φ', σ', β', q, hst, hext⟩
    | exit id => exact ⟨φ', σ', β', q, hst, hext⟩
    | ret => exact ⟨φ', σ', β', q, hst, hext⟩
    | panic ch => exact ⟨φ', σ', β', q, hst, hext⟩
    | outgrown => exact ⟨φ', σ', β', q, hst, hext⟩
  · intro a1 w1 hJ
    obtain ⟨φ1, σ1, β1, hI1, hs1, he1⟩ := (leastOf_spec hJ).1
    refine Code.wp_mono ?_ (pass _ φ1 σ1 hI1 r₀ hr0 β1 a1 w1 hs1)
    rintro e a' w' ⟨φ', σ', β', q, hst, hext⟩
    cases e with
    | goto l' =>
      obtain ⟨rfl, m', φ2, σ2, hlt, hI, h1, h2⟩ := q
      obtain ⟨hs2, he2⟩ := hst.sub h1 h2 N
      have hJ' : J m' a' w' := ⟨φ2, σ2, β', hI, hs2, he1.trans (hext.trans he2)⟩
      exact ⟨rfl, ⟨m', hJ'⟩, Nat.lt_of_le_of_lt ((leastOf_spec ⟨m', hJ'⟩).2 m' hJ') hlt⟩
    | normal => exact ⟨φ', σ', β', q, hst, he1.trans hext⟩
    | exit id => exact ⟨φ', σ', β', q, hst, he1.trans hext⟩
    | ret => exact ⟨φ', σ', β', q, hst, he1.trans hext⟩
    | panic ch => exact ⟨φ', σ', β', q, hst, he1.trans hext⟩
    | outgrown => exact ⟨φ', σ', β', q, hst, he1.trans hext⟩
end
end Go.Eng
