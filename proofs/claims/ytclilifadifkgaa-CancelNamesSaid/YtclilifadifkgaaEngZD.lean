/-
  THE ENGINE, PART ZD: an evaluator: code, calls, functions.
-/
import Derived.Test.YtclilifadifkgaaEngZC
namespace Go.Eng
open Go.RowKit

/-! ### what need not be kept -/
mutual
def AV.names : AV → List Nat → List Nat
  | .agg cs, a => AV.namesL cs a
  | .tup cs, a => AV.namesL cs a
  | .fn _ cs, a => AV.namesL cs a
  | .ptr l _ _, a => l :: a
  | .sm l _ _ _ _, a => l :: a
  | .mp l, a => l :: a
  | .i _ _, a => a | .b _, a => a | .v _, a => a | .u, a => a | .s0 _, a => a | .sl _ _, a => a | .ip _ _ _ _, a => a | .top, a => a
def AV.namesL : List AV → List Nat → List Nat
  | [], a => a
  | x :: xs, a => x.names (AV.namesL xs a)
end
def lowRow (R : Prim) (N : Nat) (o : AO) (a : List Nat) : List Nat := match o with
  | .cells cs _ => match Nat.ble (R.rb o) N with | true => a | false => AV.namesL cs a
  | _ => a
def lowNames (R : Prim) (N : Nat) : List (Nat × AO) → List Nat → List Nat
  | [], a => a
  | p :: r, a => match Nat.blt p.1 N with
    | true => lowRow R N p.2 (lowNames R N r a)
    | false => lowNames R N r a
def reach (N : Nat) (σ : List (Nat × AO)) : Nat → List Nat → List Nat → List Nat
  | 0, fr, acc => fr ++ acc
  | _ + 1, [], acc => acc
  | f + 1, l :: fr, acc => match Nat.blt l N || memN acc l with
    | true => reach N σ f fr acc
    | false => match sget σ l with
      | some (.cells cs _) => reach N σ f (AV.namesL cs fr) (l :: acc)
      | _ => reach N σ f fr (l :: acc)
def keepS (N : Nat) (K : List Nat) : List (Nat × AO) → List (Nat × AO)
  | [] => []
  | (j, x) :: r => match Nat.blt j N || memN K j with
    | true => (j, x) :: keepS N K r
    | false => keepS N K r
theorem keepS_get {N : Nat} {K : List Nat} : ∀ {σ : AS} {l : Nat} {o : AO}, sget (keepS N K σ) l = some o → (Nat.blt l N || memN K l) = true ∧ sget σ l = some o
  | [], l, o, h => by simp [keepS, sget] at h
  | (j, x) :: r, l, o, h => by
    simp only [keepS] at h
    simp only [sget]
    split at h
    · rename_i e
      simp only [sget] at h
      split at h
      · rename_i e'; rw [if_pos e']; exact ⟨e' ▸ e, h⟩
      · rename_i e'; rw [if_neg e']; exact keepS_get h
    · rename_i e
      obtain ⟨h1, h2⟩ := keepS_get h
      have : l ≠ j := fun e' => by rw [← e', h1] at e; cases e
      rw [if_neg this]
      exact ⟨h1, h2⟩
def gcE (R : Prim) (N : Nat) (r : AV) (σ : List (Nat × AO)) : List (Nat × AO) := keepS N (reach N σ 100000 (r.names (lowNames R N σ [])) []) σ
def aresP (R : Prim) (φ : List (Nat × AV)) (σ : List (Nat × AO)) (r : ARes) : Option AV := match r with
  | .tmp t => some (R.fg φ t)
  | .cell t l => aloadP R σ l (R.fg φ t)
def aresLP (R : Prim) (φ : List (Nat × AV)) (σ : List (Nat × AO)) : List ARes → Option (List AV)
  | [] => some []
  | r :: rs => match aresP R φ σ r, aresLP R φ σ rs with | some x, some l => some (x :: l) | _, _ => none
def fnResP (R : Prim) (φ : List (Nat × AV)) (σ : List (Nat × AO)) (rs : List ARes) : Option AV := match aresLP R φ σ rs with
  | some [x] => some x
  | some l => some (.tup l)
  | none => none
theorem aresP_std (φ : AF) (σ : AS) (r : ARes) : aresP Prim.std φ σ r = ares φ σ r := by cases r <;> simp only [aresP, ares, aloadP_std] <;> rfl
theorem aresLP_std (φ : AF) (σ : AS) : ∀ rs, aresLP Prim.std φ σ rs = aresL φ σ rs
  | [] => rfl
  | r :: rs => by
    simp only [aresLP, aresL, aresP_std, aresLP_std φ σ rs]
    cases ares φ σ r <;> cases aresL φ σ rs <;> rfl
theorem fnResP_std (φ : AF) (σ : AS) (rs : List ARes) : fnResP Prim.std φ σ rs = fnRes φ σ rs := by
  unfold fnResP fnRes
  rw [aresLP_std]
  cases aresL φ σ rs with
  | none => rfl
  | some l => match l with | [] => rfl | [x] => rfl | x :: y :: r => rfl

/-! ### functions -/
def endE (R : Prim) (res : List ARes) (p : Exit × AF × AS) : Option AV := match p.1 with
  | .normal => fnResP R p.2.1 p.2.2 res
  | .ret => fnResP R p.2.1 p.2.2 res
  | _ => none
def gcT (R : Prim) (N : Nat) (p : AV × List (Nat × AO)) : AV × List (Nat × AO) := (p.1, gcE R N p.1 p.2)
def finE (R : Prim) (res : List ARes) (N : Nat) : List (Exit × AF × AS) → Option (List (AV × AS))
  | [] => some []
  | p :: r => match endE R res p, finE R res N r with | some v, some l => some (gcT R N (truncE N v p.2.2) :: l) | _, _ => none
def snapE (R : Prim) (res : List ARes) : List (Exit × AF × AS) → Option (List AV)
  | [] => some []
  | p :: r => match endE R res p, snapE R res r with | some v, some l => some (snap 4 p.2.2 v :: l) | _, _ => none
def ownO (v : AV) (σ : List (Nat × AO)) (l : List AV) : Option (List AV) := gd v.own (some (snapV (snapOF 4 σ) v :: l))
def snapOE (R : Prim) (res : List ARes) : List (Exit × AF × AS) → Option (List AV)
  | [] => some []
  | p :: r => match endE R res p, snapOE R res r with | some v, some l => ownO v p.2.2 l | _, _ => none
section
variable (R : Prim) (Kp : Nat → List Nat) (T : Nat → Option AFn) (Z : Nat → List AV → Option AV) (E : Nat → List Nat → ACode → AF → AS → Option (List (Exit × AF × AS)))
def pcE (j : Nat) (args : List AV) : Option AV :=
  match Z j args with
  | some r => some r
  | none => match T j with
  | some F => if Nat.ble args.length F.ntmps = true then match E 0 (Kp j) F.body (argF 0 args) [] with
    | some L => match snapE R F.res L with
      | some (r :: rs) => gd (rs.all (avEq r)) (some r)
      | _ => none
    | none => none else none
  | none => none
def pfE (j : Nat) (args : List AV) : Option AV :=
  match Z j args with
  | some r => gd r.scalar (some r)
  | none => match T j with
  | some F => if Nat.ble args.length F.ntmps = true then match E 0 (Kp j) F.body (argF 0 args) [] with
    | some L => match snapOE R F.res L with
      | some (r :: rs) => gd (rs.all (avEq r)) (some r)
      | _ => none
    | none => none else none
  | none => none
def callE (N : Nat) (j : Nat) (args : List AV) (σ : AS) : Option (List (AV × AS)) :=
  match useP Z (fun j a => match Z j a with | some r => gd r.scalar (some r) | none => none) j args σ with
  | some r => some [(r, σ)]
  | none => match T j with
  | some F => if Nat.ble args.length F.ntmps = true then match E N (Kp j) F.body (argF 0 args) σ with
    | some L => match finE R F.res N L with
      | some [x] => some [x]
      | some L' => match useP (pcE R Kp T Z E) (pfE R Kp T Z E) j args σ with
        | some r => some [(r, σ)]
        | none => some L'
      | none => none
    | none => none else none
  | none => none
end
def labelOf : ACode → Option Nat
  | .seq a b => match labelOf a with | some l => some l | none => labelOf b
  | .label l => some l
  | _ => none
def jumpE (E : Nat → List Nat → ACode → AF → AS → Option (List (Exit × AF × AS))) (N : Nat) (ks : List Nat) (l : Nat) (r : ACode) : Nat → AF → AS → Option (List (Exit × AF × AS))
  | 0, _, _ => none
  | k + 1, φ, σ => bindO (E N ks r φ σ) fun p => match p with
    | (.goto l', φ', σ') => if l' = l then jumpE E N ks l r k φ' σ' else none
    | q => some [q]
def hopE (E : Nat → List Nat → ACode → AF → AS → Option (List (Exit × AF × AS))) (N : Nat) (ks : List Nat) (l : Nat) (r : ACode) (k : Nat) (p : Exit × AF × AS) : Option (List (Exit × AF × AS)) := match p with
  | (.goto l', φ', σ') => if l' = l then jumpE E N ks l r k φ' σ' else none
  | q => some [q]
def regE (R : Prim) (ks : List Nat) (x : Option (List (AF × AS))) : Option (List (Exit × AF × AS)) := match x with
  | some [p] => some [(.normal, R.fk ks p.1, p.2)]
  | some L => some (L.map fun p => (.normal, R.fk ks p.1, p.2))
  | none => none
def thenE (y : AF → AS → Option (List (Exit × AF × AS))) (p : Exit × AF × AS) : Option (List (Exit × AF × AS)) := match p.1 with
  | .normal => y p.2.1 p.2.2
  | _ => some [p]
def condE (g : AV) (x y : Option (List (Exit × AF × AS))) : Option (List (Exit × AF × AS)) := match g with
  | .b true => x
  | .b false => y
  | _ => none
def outE (id : Nat) (p : Exit × AF × AS) : Exit × AF × AS := match p.1 with
  | .exit id' => bif Nat.beq id' id then (.normal, p.2) else p
  | _ => p
def blockE (id : Nat) (x : Option (List (Exit × AF × AS))) : Option (List (Exit × AF × AS)) := match x with
  | some [p] => some [outE id p]
  | some L => some (L.map (outE id))
  | none => none
def scopeE (g : Nat → ACode → Option (List (Exit × AF × AS))) (x : ACode) : Option (List (Exit × AF × AS)) := match labelOf x with
  | some l => match afind x l with
    | some r => g l r
    | none => none
  | none => none
def codeE (R : Prim) (Kp : Nat → List Nat) (T : Nat → Option AFn) (Z : Nat → List AV → Option AV) : Nat → Nat → List Nat → ACode → AF → AS → Option (List (Exit × AF × AS))
  | 0, _, _, _, _, _ => none
  | f + 1, N, ks, c, φ, σ => match c with
    | .skip => some [(.normal, φ, σ)]
    | .reg ops => regE R ks (opsG R (opE R (callE R Kp T Z (codeE R Kp T Z f)) (pcE R Kp T Z (codeE R Kp T Z f)) (pfE R Kp T Z (codeE R Kp T Z f)) N) ops φ σ)
    | .regd k ops => regE R ks (opsG R (opDE R (callE R Kp T Z (codeE R Kp T Z f)) (pcE R Kp T Z (codeE R Kp T Z f)) (pfE R Kp T Z (codeE R Kp T Z f)) (freshP R N φ σ + k)) ops φ (reserve (freshP R N φ σ) k σ))
    | .seq x y => bindO (codeE R Kp T Z f N ks x φ σ) (thenE (codeE R Kp T Z f N ks y))
    | .cond c x y => condE (evP R φ c) (codeE R Kp T Z f N ks x φ σ) (codeE R Kp T Z f N ks y φ σ)
    | .block id x => blockE id (codeE R Kp T Z f N ks x φ σ)
    | .loop x => bindO (codeE R Kp T Z f N ks x φ σ) (thenE (codeE R Kp T Z f N ks (.loop x)))
    | .exit id => some [(.exit id, φ, σ)]
    | .ret => some [(.ret, φ, σ)]
    | .label _ => some [(.normal, φ, σ)]
    | .goto l => some [(.goto l, φ, σ)]
    | .scope x => scopeE (fun l r => bindO (codeE R Kp T Z f N ks x φ σ) (hopE (codeE R Kp T Z f) N ks l r f)) x

section
variable {P : Program} {inv : Nat → Option Nat} {w0 : World} {M : Nat → Prop} {N n : Nat} {φ : AF} {σ : AS}
/-- A loop: I holds at each round's head; m falls. -/
theorem AWp.loopE {x : ACode} {Q : Exit → AF → AS → Prop} (I : Nat → AF → AS → Prop) (m : Nat) (h0 : I m φ σ)
    (hr : ∀ m φ σ, I m φ σ → AWp P inv w0 M N n x (Then (fun φ' σ' => ∃ m', m' < m ∧ I m' φ' σ') Q) φ σ) : AWp P inv w0 M N n (.loop x) Q φ σ := by
  intro c₀ hc β a w hs
  obtain ⟨x₀, rfl, hx⟩ := inv_loop hc
  refine Code.wp_mono (fun _ _ _ h => h) (wp_loop_ghost (fun m' a' w' => ∃ φ' σ' β', I m' φ' σ' ∧ St inv w0 M n φ' σ' β' a' w' ∧ Ext N (ctx inv M σ β w) (ctx inv M σ' β' w')) m ⟨φ, σ, β, h0, hs, .refl _ _⟩ ?_)
  rintro m1 a1 w1 ⟨φ1, σ1, β1, hI1, hs1, he1⟩
  refine Code.wp_mono ?_ (hr m1 φ1 σ1 hI1 x₀ hx β1 a1 w1 hs1)
  rintro e a2 w2 ⟨φ2, σ2, β2, q, hst, hext⟩
  cases e with
  | normal =>
    obtain ⟨m', hlt, hI3⟩ := q
    exact ⟨m', hlt, φ2, σ2, β2, hI3, hst, he1.trans hext⟩
  | exit id => exact ⟨φ2, σ2, β2, q, hst, he1.trans hext⟩
  | goto l => exact ⟨φ2, σ2, β2, q, hst, he1.trans hext⟩
  | ret => exact ⟨φ2, σ2, β2, q, hst, he1.trans hext⟩
  | panic ch => exact ⟨φ2, σ2, β2, q, hst, he1.trans hext⟩
  | outgrown => exact ⟨φ2, σ2, β2, q, hst, he1.trans hext⟩

/-- Gotos forward and back, by one label. -/
theorem AWp.scopeE {x r : ACode} {Q : Exit → AF → AS → Prop} (l : Nat) (hf : afind x l = some r) (I : Nat → AF → AS → Prop)
    (first : AWp P inv w0 M N n x (JumpTo l (fun φ' σ' => ∃ m, I m φ' σ') Q) φ σ)
    (pass : ∀ m φ σ, I m φ σ → AWp P inv w0 M N n r (JumpTo l (fun φ' σ' => ∃ m', m' < m ∧ I m' φ' σ') Q) φ σ) : AWp P inv w0 M N n (.scope x) Q φ σ := by
  intro c₀ hc β a w hs
  obtain ⟨x₀, rfl, hx⟩ := inv_scope hc
  have hfl : ∃ r₀, findLabel x₀ l = some r₀ ∧ compileC P inv n r₀ = some r := by
    rcases afind_sound l hx with ⟨r₀, r', h1, h2, h3⟩ | ⟨_, h2⟩
    · rw [hf] at h2; simp only [Option.some.injEq] at h2; subst h2; exact ⟨r₀, h1, h3⟩
    · rw [hf] at h2; cases h2
  obtain ⟨r₀, hf0, hr0⟩ := hfl
  let J : Nat → Act → World → Prop := fun m a' w' => ∃ φ' σ' β', I m φ' σ' ∧ St inv w0 M n φ' σ' β' a' w' ∧ Ext N (ctx inv M σ β w) (ctx inv M σ' β' w')
  refine wp_scope_jumps (l := l) (rest := r₀) (fun a w => ∃ m, J m a w) (fun a w => leastOf fun m => J m a w) hf0 ?_ ?_
  · refine Code.wp_mono ?_ (first x₀ hx β a w hs)
    rintro e a' w' ⟨φ', σ', β', q, hst, hext⟩
    cases e with
    | goto l' =>
      obtain ⟨rfl, m, hI⟩ := q
      exact ⟨rfl, m, φ', σ', β', hI, hst, hext⟩
    | normal => exact ⟨φ', σ', β', q, hst, hext⟩
    | exit id => exact ⟨φ', σ', β', q, hst, hext⟩
    | ret => exact ⟨φ', σ', β', q, hst, hext⟩
    | panic ch => exact ⟨φ', σ', β', q, hst, hext⟩
    | outgrown => exact ⟨φ', σ', β', q, hst, hext⟩
  · intro a1 w1 hJ
    obtain ⟨φ1, σ1, β1, hI1, hs1, he1⟩ := (leastOf_spec hJ).1
    refine Code.wp_mono ?_ (pass _ φ1 σ1 hI1 r₀ hr0 β1 a1 w1 hs1)
    rintro e a' w' ⟨φ', σ', β', q, hst, hext⟩
    cases e with
    | goto l' =>
      obtain ⟨rfl, m', hlt, hI⟩ := q
      have hJ' : J m' a' w' := ⟨φ', σ', β', hI, hst, he1.trans hext⟩
      exact ⟨rfl, ⟨m', hJ'⟩, Nat.lt_of_le_of_lt ((leastOf_spec ⟨m', hJ'⟩).2 m' hJ') hlt⟩
    | normal => exact ⟨φ', σ', β', q, hst, he1.trans hext⟩
    | exit id => exact ⟨φ', σ', β', q, hst, he1.trans hext⟩
    | ret => exact ⟨φ', σ', β', q, hst, he1.trans hext⟩
    | panic ch => exact ⟨φ', σ', β', q, hst, he1.trans hext⟩
    | outgrown => exact ⟨φ', σ', β', q, hst, he1.trans hext⟩
theorem fget_keepF (ks : List Nat) : ∀ (φ : AF) (i : Nat), fget (keepF ks φ) i = .top ∨ fget (keepF ks φ) i = fget φ i
  | [], i => .inl rfl
  | (j, x) :: r, i => by
    have ih := fget_keepF ks r i
    simp only [keepF]
    split
    · simp only [fget]
      split
      · exact .inr rfl
      · exact ih
    · rename_i e
      simp only [fget]
      split
      · rename_i e'
        subst e'
        left
        have : ∀ r : AF, fget (keepF ks r) i = .top := by
          intro r
          induction r with
          | nil => rfl
          | cons p r ih2 =>
            simp only [keepF]
            split
            · rename_i e2
              obtain ⟨j2, x2⟩ := p
              simp only [fget]
              split
              · rename_i e3; subst e3; simp only at e2; rw [e] at e2; cases e2
              · exact ih2
            · exact ih2
        exact this r
      · exact ih
theorem AWp.keep {c : ACode} {Q : Exit → AF → AS → Prop} (ks : List Nat) (h : AWp P inv w0 M N n c (fun e φ σ => Q e (keepF ks φ) σ) φ σ) : AWp P inv w0 M N n c Q φ σ := by
  intro c₀ hc β a w hs
  refine Code.wp_mono ?_ (h c₀ hc β a w hs)
  rintro e a' w' ⟨φ', σ', β', q, hst, hext⟩
  refine ⟨keepF ks φ', σ', β', q, ⟨⟨fun i => ?_, hst.mem⟩, hst.size, hst.defers⟩, hext⟩
  rcases fget_keepF ks φ' i with e | e
  · rw [e]; simp only [rel]
  · rw [e]; exact hst.slots i
theorem regE_ok {ks : List Nat} {x : Option (List (AF × AS))} {L : List (Exit × AF × AS)} (h : regE Prim.std ks x = some L) : ∃ L', x = some L' ∧ ∀ p ∈ L', (Exit.normal, keepF ks p.1, p.2) ∈ L := by
  unfold regE at h
  simp only [std_fk] at h
  split at h
  · simp only [Option.some.injEq] at h
    subst h
    refine ⟨_, rfl, fun p hp => ?_⟩
    rw [List.mem_singleton] at hp ⊢
    rw [hp]
  · simp only [Option.some.injEq] at h
    subst h
    exact ⟨_, rfl, fun p hp => List.mem_map.2 ⟨p, hp, rfl⟩⟩
  · cases h
theorem blockE_ok {id : Nat} {x : Option (List (Exit × AF × AS))} {L : List (Exit × AF × AS)} (h : blockE id x = some L) : ∃ L', x = some L' ∧ ∀ p ∈ L', outE id p ∈ L := by
  unfold blockE at h
  split at h
  · simp only [Option.some.injEq] at h
    subst h
    refine ⟨_, rfl, fun p hp => ?_⟩
    rw [List.mem_singleton] at hp ⊢
    rw [hp]
  · simp only [Option.some.injEq] at h
    subst h
    exact ⟨_, rfl, fun p hp => List.mem_map.2 ⟨p, hp, rfl⟩⟩
  · cases h
def SndE (P : Program) (inv : Nat → Option Nat) (E : Nat → List Nat → ACode → AF → AS → Option (List (Exit × AF × AS))) : Prop :=
  ∀ (w0 : World) (M : Nat → Prop), (∀ b, M b → b < w0.heap.size) → ∀ (N n : Nat) (ks : List Nat) (c : ACode) (φ : AF) (σ : AS) L (Q : Exit → AF → AS → Prop), E N ks c φ σ = some L → (∀ p ∈ L, Q p.1 p.2.1 p.2.2) → AWp P inv w0 M N n c Q φ σ
variable {Kp : Nat → List Nat} {T : Nat → Option AFn} {Z : Nat → List AV → Option AV} {E : Nat → List Nat → ACode → AF → AS → Option (List (Exit × AF × AS))}

theorem endE_ok {res : List ARes} {p : Exit × AF × AS} {v : AV} {R : AV → AS → Prop} (h : endE Prim.std res p = some v) (hr : R v p.2.2) : FnPost res R p.1 p.2.1 p.2.2 := by
  obtain ⟨e, φ, σ⟩ := p
  unfold endE at h
  simp only [fnResP_std] at h
  cases e <;> simp only at h <;> first | (cases h; done) | exact ⟨v, h, hr⟩
theorem finE_ok {res : List ARes} : ∀ {L : List (Exit × AF × AS)} {L' : List (AV × AS)}, finE Prim.std res N L = some L' → ∀ p ∈ L, FnPost res (fun r σ' => gcT Prim.std N (truncE N r σ') ∈ L') p.1 p.2.1 p.2.2
  | [], L', h, p, hp => by cases hp
  | p0 :: r, L', h, p, hp => by
    simp only [finE] at h
    split at h
    · rename_i v l e1 e2
      simp only [Option.some.injEq] at h
      subst h
      rcases List.mem_cons.1 hp with rfl | hp
      · exact endE_ok e1 (by simp)
      · have := finE_ok e2 p hp
        revert this
        rcases p with ⟨e, φ, σ⟩
        cases e <;> simp only [FnPost] <;> first | exact fun h => h | (rintro ⟨r, h1, h2⟩; exact ⟨r, h1, List.mem_cons_of_mem _ h2⟩)
    · cases h
theorem snapE_ok {res : List ARes} : ∀ {L : List (Exit × AF × AS)} {L' : List AV}, snapE Prim.std res L = some L' → ∀ p ∈ L, FnPost res (fun r σ' => snap 4 σ' r ∈ L') p.1 p.2.1 p.2.2
  | [], L', h, p, hp => by cases hp
  | p0 :: r, L', h, p, hp => by
    simp only [snapE] at h
    split at h
    · rename_i v l e1 e2
      simp only [Option.some.injEq] at h
      subst h
      rcases List.mem_cons.1 hp with rfl | hp
      · exact endE_ok e1 (by simp)
      · have := snapE_ok e2 p hp
        revert this
        rcases p with ⟨e, φ, σ⟩
        cases e <;> simp only [FnPost] <;> first | exact fun h => h | (rintro ⟨r, h1, h2⟩; exact ⟨r, h1, List.mem_cons_of_mem _ h2⟩)
    · cases h
theorem snapOE_ok {res : List ARes} : ∀ {L : List (Exit × AF × AS)} {L' : List AV}, snapOE Prim.std res L = some L' → ∀ p ∈ L, FnPost res (fun r σ' => r.own = true ∧ snapV (snapOF 4 σ') r ∈ L') p.1 p.2.1 p.2.2
  | [], L', h, p, hp => by cases hp
  | p0 :: r, L', h, p, hp => by
    simp only [snapOE] at h
    split at h
    · rename_i v l e1 e2
      obtain ⟨ho, h⟩ := gd_some h
      simp only [Option.some.injEq] at h
      subst h
      rcases List.mem_cons.1 hp with rfl | hp
      · exact endE_ok e1 ⟨ho, by simp⟩
      · have := snapOE_ok e2 p hp
        revert this
        rcases p with ⟨e, φ, σ⟩
        cases e <;> simp only [FnPost] <;> first | exact fun h => h | (rintro ⟨r, h1, h2, h3⟩; exact ⟨r, h1, h2, List.mem_cons_of_mem _ h3⟩)
    · cases h
theorem pfE_ok (hT : ∀ j F, T j = some F → Has P inv j F) (hZ : ∀ j args r, Z j args = some r → PC P inv j args (· = r)) (hE : SndE P inv E) : SndF P inv (pfE Prim.std Kp T Z E) := by
  intro j args r h
  unfold pfE at h
  split at h
  · rename_i e
    obtain ⟨h1, h2⟩ := gd_some h
    simp only [Option.some.injEq] at h2
    subst h2
    exact PF.of_pc h1 (hZ _ _ _ e)
  split at h
  · rename_i F eF
    split at h
    · rename_i hl
      split at h
      · rename_i L e
        split at h
        · rename_i r0 rs e2
          obtain ⟨h1, h2⟩ := gd_some h
          simp only [Option.some.injEq] at h2
          subst h2
          refine PF.intro (hT j F eF) (Nat.le_of_ble_eq_true hl) fun w0 => hE w0 _ (fun _ h => h.elim) _ _ _ _ _ _ _ _ e fun p hp => ?_
          have := snapOE_ok e2 p hp
          have key : ∀ r', r' ∈ r0 :: rs → r' = r0 := by
            intro r' hr'
            rcases List.mem_cons.1 hr' with h | h
            · exact h
            · exact (avEq_eq _ _ (List.all_eq_true.1 h1 r' h)).symm
          revert this
          rcases p with ⟨e, φ, σ⟩
          cases e <;> simp only [FnPost] <;> first | exact fun h => h | (rintro ⟨r, h1, h2, h3⟩; exact ⟨r, h1, h2, key _ h3⟩)
        · cases h
      · cases h
    · cases h
  · cases h
theorem zF_ok (hZ : ∀ j args r, Z j args = some r → PC P inv j args (· = r)) : SndF P inv (fun j a => match Z j a with | some r => gd r.scalar (some r) | none => none) := by
  intro j args r h
  simp only at h
  split at h
  · rename_i e
    obtain ⟨h1, h2⟩ := gd_some h
    simp only [Option.some.injEq] at h2
    subst h2
    exact PF.of_pc h1 (hZ _ _ _ e)
  · cases h
theorem pcE_ok (hT : ∀ j F, T j = some F → Has P inv j F) (hZ : ∀ j args r, Z j args = some r → PC P inv j args (· = r)) (hE : SndE P inv E) : SndP P inv (pcE Prim.std Kp T Z E) := by
  intro j args r h
  unfold pcE at h
  split at h
  · rename_i e
    simp only [Option.some.injEq] at h
    subst h
    exact hZ _ _ _ e
  split at h
  · rename_i F eF
    split at h
    · rename_i hl
      split at h
      · rename_i L e
        split at h
        · rename_i r0 rs e2
          obtain ⟨h1, h2⟩ := gd_some h
          simp only [Option.some.injEq] at h2
          subst h2
          refine PC.intro (hT j F eF) (Nat.le_of_ble_eq_true hl) fun w0 M hM => hE w0 M hM _ _ _ _ _ _ _ _ e fun p hp => ?_
          have := snapE_ok e2 p hp
          have key : ∀ r', r' ∈ r0 :: rs → r' = r0 := by
            intro r' hr'
            rcases List.mem_cons.1 hr' with h | h
            · exact h
            · exact (avEq_eq _ _ (List.all_eq_true.1 h1 r' h)).symm
          revert this
          rcases p with ⟨e, φ, σ⟩
          cases e <;> simp only [FnPost] <;> first | exact fun h => h | (rintro ⟨r, h1, h2⟩; exact ⟨r, h1, key _ h2⟩)
        · cases h
      · cases h
    · cases h
  · cases h
theorem callE_ok (hT : ∀ j F, T j = some F → Has P inv j F) (hZ : ∀ j args r, Z j args = some r → PC P inv j args (· = r)) (hE : SndE P inv E) : SndC P inv (callE Prim.std Kp T Z E) := by
  intro w0 M hM N j args σ L h
  unfold callE at h
  split at h
  · rename_i r e
    simp only [Option.some.injEq] at h
    subst h
    exact (useP_ok (fun j args r h => hZ j args r h) (zF_ok hZ) hM e fun l o ho => (noRsv_get ho).2).mono fun r' σ' h => by rw [h.1, h.2]; simp
  split at h
  · rename_i F eF
    split at h
    · rename_i hl
      split at h
      · rename_i L1 e
        have key : ∀ {L2 : List (AV × AS)}, finE Prim.std F.res N L1 = some L2 → AC P inv w0 M N j args σ fun r σ' => (r, σ') ∈ L2 := by
          intro L2 e2
          refine AC.drop (R := fun r σ' => (r, gcE Prim.std N r σ') ∈ L2) (AC.trunc (AC.body (R := fun r σ' => gcT Prim.std N (truncE N r σ') ∈ L2) (hT j F eF) (Nat.le_of_ble_eq_true hl) (hE w0 M hM _ _ _ _ _ _ _ _ e fun p hp => finE_ok e2 p hp)) fun r σ' hm => hm) fun r σ' hm => ?_
          exact ⟨gcE Prim.std N r σ', hm, fun l o ho => (keepS_get ho).2⟩
        split at h
        · rename_i x e2
          simp only [Option.some.injEq] at h
          subst h
          exact key e2
        · rename_i L2 e2
          split at h
          · rename_i r e3
            simp only [Option.some.injEq] at h
            subst h
            exact (useP_ok (pcE_ok hT hZ hE) (pfE_ok hT hZ hE) hM e3 fun l o ho => (noRsv_get ho).2).mono fun r' σ' h => by rw [h.1, h.2]; simp
          · simp only [Option.some.injEq] at h
            subst h
            exact key e2
        · cases h
      · cases h
    · cases h
  · cases h
theorem thenE_ok {Q : Exit → AF → AS → Prop} {y : AF → AS → Option (List (Exit × AF × AS))} {K : AF → AS → Prop} {p : Exit × AF × AS} {L' : List (Exit × AF × AS)} (h : thenE y p = some L') (hq : ∀ q ∈ L', Q q.1 q.2.1 q.2.2) (hk : ∀ φ σ, y φ σ = some L' → K φ σ) : Then K Q p.1 p.2.1 p.2.2 := by
  obtain ⟨e, φ, σ⟩ := p
  unfold thenE at h
  cases e <;> simp only at h <;> first | exact hk _ _ h | (simp only [Option.some.injEq] at h; subst h; exact hq _ (List.mem_singleton_self _))
theorem codeE_ok (hP : Callable P inv) (hT : ∀ j F, T j = some F → Has P inv j F) (hZ : ∀ j args r, Z j args = some r → PC P inv j args (· = r)) : ∀ f, SndE P inv (codeE Prim.std Kp T Z f) := by
  intro f
  induction f using Nat.strongRecOn with
  | _ f ih =>
  intro w0 M hM N n ks c φ σ L Q h hq
  cases f with
  | zero => simp [codeE] at h
  | succ f =>
  have ihf := ih f (Nat.lt_succ_self f)
  have hC := callE_ok (Kp := Kp) hT hZ ihf
  have hCp := pcE_ok (Kp := Kp) hT hZ ihf
  have hCf := pfE_ok (Kp := Kp) hT hZ ihf
  cases c with
  | skip => simp only [codeE, Option.some.injEq] at h; subst h; exact AWp.skip (hq _ (List.mem_singleton_self _))
  | exit id => simp only [codeE, Option.some.injEq] at h; subst h; exact AWp.exit (hq _ (List.mem_singleton_self _))
  | ret => simp only [codeE, Option.some.injEq] at h; subst h; exact AWp.ret (hq _ (List.mem_singleton_self _))
  | label l => simp only [codeE, Option.some.injEq] at h; subst h; exact AWp.label (hq _ (List.mem_singleton_self _))
  | goto l => simp only [codeE, Option.some.injEq] at h; subst h; exact AWp.goto (hq _ (List.mem_singleton_self _))
  | scope x =>
    simp only [codeE, scopeE] at h
    split at h
    · rename_i l _
      split at h
      · rename_i r hr
        obtain ⟨L0, h1, h2⟩ := bindO_ok h
        have hop : ∀ k (p : Exit × AF × AS) L', hopE (codeE Prim.std Kp T Z f) N ks l r k p = some L' → (∀ q ∈ L', Q q.1 q.2.1 q.2.2) → JumpTo l (fun φ' σ' => ∃ L', jumpE (codeE Prim.std Kp T Z f) N ks l r k φ' σ' = some L' ∧ ∀ q ∈ L', Q q.1 q.2.1 q.2.2) Q p.1 p.2.1 p.2.2 := by
          intro k p L' hp hq'
          rcases p with ⟨e, φ', σ'⟩
          cases e with
          | goto l' =>
            simp only [hopE] at hp
            split at hp
            · rename_i el; exact ⟨el, L', hp, hq'⟩
            · cases hp
          | normal => simp only [hopE, Option.some.injEq] at hp; subst hp; exact hq' _ (List.mem_singleton_self _)
          | exit id => simp only [hopE, Option.some.injEq] at hp; subst hp; exact hq' _ (List.mem_singleton_self _)
          | ret => simp only [hopE, Option.some.injEq] at hp; subst hp; exact hq' _ (List.mem_singleton_self _)
          | panic ch => simp only [hopE, Option.some.injEq] at hp; subst hp; exact hq' _ (List.mem_singleton_self _)
          | outgrown => simp only [hopE, Option.some.injEq] at hp; subst hp; exact hq' _ (List.mem_singleton_self _)
        have jmono : ∀ {J J' : AF → AS → Prop} {e : Exit} {φ' : AF} {σ' : AS}, (∀ φ σ, J φ σ → J' φ σ) → JumpTo l J Q e φ' σ' → JumpTo l J' Q e φ' σ' := by
          intro J J' e φ' σ' hj h
          cases e <;> first | exact h | exact ⟨h.1, hj _ _ h.2⟩
        refine AWp.scopeE l hr (fun m φ σ => ∃ L', jumpE (codeE Prim.std Kp T Z f) N ks l r m φ σ = some L' ∧ ∀ q ∈ L', Q q.1 q.2.1 q.2.2) ?_ ?_
        · refine ihf w0 M hM N n ks x φ σ L0 _ h1 fun p hp => ?_
          obtain ⟨L', k1, k2⟩ := h2 p hp
          exact jmono (fun φ σ hj => ⟨f, hj⟩) (hop f p L' k1 fun q hq' => hq q (k2 q hq'))
        · rintro m φ1 σ1 ⟨L1, hj, hq1⟩
          cases m with
          | zero => simp [jumpE] at hj
          | succ m =>
          simp only [jumpE] at hj
          obtain ⟨L2, h3, h4⟩ := bindO_ok hj
          refine ihf w0 M hM N n ks r φ1 σ1 L2 _ h3 fun p hp => ?_
          obtain ⟨L', k1, k2⟩ := h4 p hp
          exact jmono (fun φ σ hj => ⟨m, Nat.lt_succ_self m, hj⟩) (hop m p L' k1 fun q hq' => hq1 q (k2 q hq'))
      · cases h
    · cases h
  | reg ops =>
    simp only [codeE] at h
    obtain ⟨L', e, h2⟩ := regE_ok h
    exact AWp.keep ks (AWp.reg hP hM (opsG_ok hC hCp hCf hM e fun p hp => hq _ (h2 p hp)))
  | regd k ops =>
    simp only [codeE, freshP_std] at h
    obtain ⟨L', e, h2⟩ := regE_ok h
    exact AWp.keep ks (AWp.regd hP hM (opsGD_ok hC hCp hCf hM e fun p hp => hq _ (h2 p hp)))
  | seq x y =>
    simp only [codeE] at h
    obtain ⟨l, h1, h2⟩ := bindO_ok h
    refine AWp.seq fun K hK => ihf w0 M hM N n ks x φ σ l _ h1 fun p hp => ?_
    obtain ⟨L', k1, k2⟩ := h2 p hp
    exact thenE_ok k1 (fun q hq' => hq q (k2 q hq')) fun φ' σ' hy => hK _ _ (ihf w0 M hM N n ks y φ' σ' L' Q hy fun q hq' => hq q (k2 q hq'))
  | cond c x y =>
    simp only [codeE, condE, evP_std] at h
    split at h
    · rename_i e; exact AWp.cond e (fun _ => ihf w0 M hM N n ks x φ σ L Q h hq) fun h => by cases h
    · rename_i e; exact AWp.cond e (fun h => by cases h) fun _ => ihf w0 M hM N n ks y φ σ L Q h hq
    · cases h
  | block id x =>
    simp only [codeE] at h
    obtain ⟨L', e, h2⟩ := blockE_ok h
    refine AWp.block (ihf w0 M hM N n ks x φ σ L' _ e fun p hp => ?_)
    have := hq _ (h2 p hp)
    revert this
    rcases p with ⟨e, φ', σ'⟩
    cases e <;> simp only [InBlock, outE] <;> first | exact fun h => h | skip
    rename_i id'
    by_cases hid : id' = id
    · subst hid; simp
    · have : Nat.beq id' id = false := by
        cases e : Nat.beq id' id with
        | false => rfl
        | true => exact absurd (Nat.eq_of_beq_eq_true e) hid
      rw [this, if_neg hid]
      exact fun h => h
  | loop x =>
    refine AWp.loopE (fun m φ σ => m ≤ f + 1 ∧ ∃ L', codeE Prim.std Kp T Z m N ks (.loop x) φ σ = some L' ∧ ∀ p ∈ L', Q p.1 p.2.1 p.2.2) (f + 1) ⟨Nat.le_refl _, L, h, hq⟩ ?_
    rintro m φ1 σ1 ⟨hm, L1, h1, hq1⟩
    cases m with
    | zero => simp [codeE] at h1
    | succ m =>
    simp only [codeE] at h1
    obtain ⟨l, h2, h3⟩ := bindO_ok h1
    refine ih m (by omega) w0 M hM N n ks x φ1 σ1 l _ h2 fun p hp => ?_
    obtain ⟨L', k1, k2⟩ := h3 p hp
    exact thenE_ok k1 (fun q hq' => hq1 q (k2 q hq')) fun φ' σ' hy => ⟨m, Nat.lt_succ_self m, by omega, L', hy, fun q hq' => hq1 q (k2 q hq')⟩
/-- What the evaluator says of a function and what it is handed, is so. -/
theorem run_ok {R : Prim} (hR : R = Prim.std) (hP : Callable P inv) (hT : ∀ j F, T j = some F → Has P inv j F) (hZ : ∀ j args r, Z j args = some r → PC P inv j args (· = r)) {f j : Nat} {args : List AV} {r : AV} (h : pcE R Kp T Z (codeE R Kp T Z f) j args = some r) : PC P inv j args (· = r) := by
  subst hR
  exact pcE_ok hT hZ (codeE_ok hP hT hZ f) j args r h
end
end Go.Eng
