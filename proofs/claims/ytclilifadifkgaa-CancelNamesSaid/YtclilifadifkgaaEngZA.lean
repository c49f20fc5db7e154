/-
  THE ENGINE, PART ZA: an evaluator: of values that are known, what an operation gives is reckoned; what it reckons is what part C and H ask for.
-/
import Derived.Test.YtclilifadifkgaaEngR
namespace Go.Eng
open Go.RowKit

/-! ### equality, as far as it is needed -/
def vEq : Value → Value → Bool
  | .pointer none, .pointer none => true
  | .map none, .map none => true
  | .nilFunc, .nilFunc => true
  | .nilIface, .nilIface => true
  | _, _ => false
theorem vEq_eq {x y : Value} (h : vEq x y = true) : x = y := by
  unfold vEq at h
  split at h <;> first | rfl | cases h
mutual
def avEq : AV → AV → Bool
  | .i k a, .i k' b => decide (k = k') && decide (a = b)
  | .b a, .b b => a == b
  | .v x, .v y => vEq x y
  | .u, .u => true
  | .agg xs, .agg ys => avEqL xs ys
  | .tup xs, .tup ys => avEqL xs ys
  | .s0 a, .s0 b => Nat.beq a b
  | .sl a xs, .sl b ys => Nat.beq a b && avEqLL xs ys
  | .ip a xs i k, .ip b ys i' k' => Nat.beq a b && avEqLL xs ys && Nat.beq i i' && Nat.beq k k'
  | .ptr a b c, .ptr a' b' c' => Nat.beq a a' && Nat.beq b b' && Nat.beq c c'
  | .sm a b c d e, .sm a' b' c' d' e' => Nat.beq a a' && Nat.beq b b' && Nat.beq c c' && Nat.beq d d' && Nat.beq e e'
  | .fn j xs, .fn j' ys => Nat.beq j j' && avEqL xs ys
  | .mp a, .mp b => Nat.beq a b
  | .top, .top => true
  | _, _ => false
def avEqL : List AV → List AV → Bool
  | [], [] => true
  | x :: xs, y :: ys => avEq x y && avEqL xs ys
  | _, _ => false
def avEqLL : List (List AV) → List (List AV) → Bool
  | [], [] => true
  | x :: xs, y :: ys => avEqL x y && avEqLL xs ys
  | _, _ => false
end
mutual
theorem avEq_eq : ∀ (x y : AV), avEq x y = true → x = y
  | .i k a, y, h => by cases y <;> simp_all [avEq]
  | .b a, y, h => by cases y <;> simp_all [avEq]
  | .v x, y, h => by cases y <;> simp [avEq] at h; rw [vEq_eq h]
  | .u, y, h => by cases y <;> simp_all [avEq]
  | .agg xs, y, h => by cases y <;> simp [avEq] at h; rw [avEqL_eq xs _ h]
  | .tup xs, y, h => by cases y <;> simp [avEq] at h; rw [avEqL_eq xs _ h]
  | .s0 a, y, h => by cases y <;> simp_all [avEq]
  | .sl a xs, y, h => by cases y <;> simp [avEq] at h; rw [h.1, avEqLL_eq xs _ h.2]
  | .ip a xs i k, y, h => by cases y <;> simp [avEq] at h; rw [h.1.1.1, h.1.2, h.2, avEqLL_eq xs _ h.1.1.2]
  | .ptr a b c, y, h => by cases y <;> simp_all [avEq]
  | .sm a b c d e, y, h => by cases y <;> simp_all [avEq]
  | .fn j xs, y, h => by cases y <;> simp [avEq] at h; rw [h.1, avEqL_eq xs _ h.2]
  | .mp a, y, h => by cases y <;> simp_all [avEq]
  | .top, y, h => by cases y <;> simp_all [avEq]
theorem avEqL_eq : ∀ (xs ys : List AV), avEqL xs ys = true → xs = ys
  | [], ys, h => by cases ys <;> simp_all [avEqL]
  | x :: xs, ys, h => by
    cases ys with
    | nil => simp [avEqL] at h
    | cons y ys => simp only [avEqL, Bool.and_eq_true] at h; rw [avEq_eq x y h.1, avEqL_eq xs ys h.2]
theorem avEqLL_eq : ∀ (xs ys : List (List AV)), avEqLL xs ys = true → xs = ys
  | [], ys, h => by cases ys <;> simp_all [avEqLL]
  | x :: xs, ys, h => by
    cases ys with
    | nil => simp [avEqLL] at h
    | cons y ys => simp only [avEqLL, Bool.and_eq_true] at h; rw [avEqL_eq x y h.1, avEqLL_eq xs ys h.2]
end
def aoEq : AO → AO → Bool
  | .cells cs r, .cells cs' r' => avEqL cs cs' && (r == r')
  | .imap a, .imap b => decide (a = b)
  | _, _ => false
theorem aoEq_eq {x y : AO} (h : aoEq x y = true) : x = y := by
  unfold aoEq at h
  split at h
  · simp only [Bool.and_eq_true, beq_iff_eq] at h; rw [avEqL_eq _ _ h.1, h.2]
  · simp only [decide_eq_true_eq] at h; rw [h]
  · cases h
/-- How frames and rows are looked up, written, bounded: the ways of doing it are handed in (in the kernel some are faster than others); they are those of part B. -/
structure Prim where
  fg : List (Nat × AV) → Nat → AV
  fp : List (Nat × AV) → Nat → AV → List (Nat × AV)
  fb : List (Nat × AV) → Nat
  fk : List Nat → List (Nat × AV) → List (Nat × AV)
  sg : List (Nat × AO) → Nat → Option AO
  sp : List (Nat × AO) → Nat → AO → List (Nat × AO)
  sb : List (Nat × AO) → Nat
  rb : AO → Nat
def keepF (ks : List Nat) : List (Nat × AV) → List (Nat × AV)
  | [] => []
  | p :: r => match memN ks p.1 with | true => p :: keepF ks r | false => keepF ks r
def Prim.std : Prim := ⟨fget, fput, fbound, keepF, sget, sput, sbound, AO.bound⟩
theorem std_fg : Prim.std.fg = fget := rfl
theorem std_fp : Prim.std.fp = fput := rfl
theorem std_fb : Prim.std.fb = fbound := rfl
theorem std_fk : Prim.std.fk = keepF := rfl
theorem std_sg : Prim.std.sg = sget := rfl
theorem std_sp : Prim.std.sp = sput := rfl
theorem std_sb : Prim.std.sb = sbound := rfl
def bnd (x : AV) : Nat := match x with
  | .agg cs => AV.boundL cs
  | .tup cs => AV.boundL cs
  | .fn _ cs => AV.boundL cs
  | .ptr l _ _ => l + 1
  | .sm l _ _ _ _ => l + 1
  | .mp l => l + 1
  | _ => 0
theorem bnd_eq (x : AV) : bnd x = x.bound := by cases x <;> simp only [bnd, AV.bound]
def evP (R : Prim) (φ : List (Nat × AV)) (x : Opd) : AV := match x with
  | .t i => R.fg φ i
  | .c x => x
theorem evP_std (φ : AF) : evP Prim.std φ = ev φ := by funext x; cases x <;> rfl
def freshP (R : Prim) (N : Nat) (φ : List (Nat × AV)) (σ : List (Nat × AO)) : Nat := mx N (mx (R.fb φ) (R.sb σ))
theorem freshP_std (N : Nat) (φ : AF) (σ : AS) : freshP Prim.std N φ σ = fresh N φ σ := rfl
def rowE (R : Prim) (σ' : List (Nat × AO)) (l : Nat) (o : AO) : Bool := match o with
  | .rsv => true
  | o => match R.sg σ' l with | some o' => aoEq o o' | none => false
def sleB (R : Prim) : List (Nat × AO) → List (Nat × AO) → Bool
  | [], _ => true
  | p :: r, σ' => rowE R σ' p.1 p.2 && sleB R r σ'
theorem sleB_ok : ∀ {σ σ' : AS}, sleB Prim.std σ σ' = true → SLe σ σ'
  | [], _, _ => fun l o h _ => by simp [sget] at h
  | (j, x) :: r, σ', h => fun l o hg hne => by
    simp only [sleB, Bool.and_eq_true, rowE, std_sg] at h
    simp only [sget] at hg
    split at hg
    · rename_i e
      subst e
      simp only [Option.some.injEq] at hg
      subst hg
      have h1 := h.1
      cases x with
      | rsv => exact absurd rfl hne
      | cells cs b => simp only at h1; split at h1 <;> first | (rename_i o' e'; rw [e', aoEq_eq h1]; done) | cases h1
      | imap kv => simp only at h1; split at h1 <;> first | (rename_i o' e'; rw [e', aoEq_eq h1]; done) | cases h1
    · exact sleB_ok h.2 l o hg hne

/-! ### values -/
def liveE (R : Prim) (σ : List (Nat × AO)) (l ver : Nat) : Bool := match R.sg σ l with | some (.cells cs _) => Nat.beq cs.length ver | _ => false
theorem liveE_ok {σ : AS} {l ver : Nat} (h : liveE Prim.std σ l ver = true) : live σ l ver := by
  unfold liveE at h
  rw [std_sg] at h
  unfold live
  split at h
  · rename_i e; rw [e]; simpa using h
  · cases h
def gd {α : Type} (t : Bool) (x : Option α) : Option α := if t = true then x else none
theorem gd_some {α : Type} {t : Bool} {x : Option α} {v : α} (h : gd t x = some v) : t = true ∧ x = some v := by
  unfold gd at h
  split at h
  · exact ⟨by assumption, h⟩
  · cases h
def wrapE (k : IntKind) (n : Int) : Int :=
  match k, n with
  | .i64, .ofNat m => if Nat.blt m 9223372036854775808 then .ofNat m else k.wrap n
  | _, _ => k.wrap n
theorem wrapE_eq (k : IntKind) (n : Int) : wrapE k n = k.wrap n := by
  unfold wrapE
  split
  · rename_i m
    split
    · rename_i h
      rw [Nat.blt_eq] at h
      have h1 : IntKind.i64.bits = 64 := rfl
      have h2 : IntKind.i64.signed = true := rfl
      simp only [IntKind.wrap, h1, h2]
      have h3 : ((Int.ofNat m) % (2 ^ 64 : Int)) = Int.ofNat m := Int.emod_eq_of_lt (by simp) (by simp; omega)
      rw [h3]
      simp
      intro h4
      omega
    · rfl
  · rfl
def iEq : Int → Int → Bool
  | .ofNat a, .ofNat b => Nat.beq a b
  | a, b => decide (a = b)
def iLt : Int → Int → Bool
  | .ofNat a, .ofNat b => Nat.blt a b
  | a, b => decide (a < b)
def iLe : Int → Int → Bool
  | .ofNat a, .ofNat b => Nat.ble a b
  | a, b => decide (a ≤ b)
theorem iEq_eq (a b : Int) : iEq a b = decide (a = b) := by
  unfold iEq
  split
  · rename_i a b
    by_cases h : a = b
    · subst h; simp
    · have : Nat.beq a b = false := by cases e : Nat.beq a b <;> simp_all
      rw [this]; simp; omega
  · rfl
theorem iLt_eq (a b : Int) : iLt a b = decide (a < b) := by
  unfold iLt
  split
  · rename_i a b
    by_cases h : a < b
    · have : Nat.blt a b = true := by rw [Nat.blt_eq]; exact h
      rw [this]; simp [h]
    · have : Nat.blt a b = false := by
        cases e : Nat.blt a b with
        | false => rfl
        | true => rw [Nat.blt_eq] at e; exact absurd e h
      rw [this]; simp [h]
  · rfl
theorem iLe_eq (a b : Int) : iLe a b = decide (a ≤ b) := by
  unfold iLe
  split
  · rename_i a b
    by_cases h : a ≤ b
    · have : Nat.ble a b = true := by rw [Nat.ble_eq]; exact h
      rw [this]; simp [h]
    · have : Nat.ble a b = false := by
        cases e : Nat.ble a b with
        | false => rfl
        | true => rw [Nat.ble_eq] at e; exact absurd e h
      rw [this]; simp [h]
  · rfl
def addE (k : IntKind) (a b : Int) : Option AV := some (.i k (wrapE k (a + b)))
def subE (k : IntKind) (a b : Int) : Option AV := some (.i k (wrapE k (a - b)))
def mulE (k : IntKind) (a b : Int) : Option AV := some (.i k (wrapE k (a * b)))
def quoE (k : IntKind) (a b : Int) : Option AV := gd (!iEq b 0) (some (.i k (wrapE k (a.tdiv b))))
def remE (k : IntKind) (a b : Int) : Option AV := gd (!iEq b 0) (some (.i k (a.tmod b)))
def arithE (op : BinOp) (k : IntKind) (a b : Int) : Option AV :=
  match op with
  | .add => addE k a b
  | .sub => subE k a b
  | .mul => mulE k a b
  | .quo => quoE k a b
  | .rem => remE k a b
  | .eql => some (.b (iEq a b))
  | .neq => some (.b (!iEq a b))
  | .lss => some (.b (iLt a b))
  | .leq => some (.b (iLe a b))
  | .gtr => some (.b (iLt b a))
  | .geq => some (.b (iLe b a))
  | _ => none
theorem arithE_ok {op : BinOp} {k : IntKind} {a b : Int} {x : AV} {K : AV → Prop} (h : arithE op k a b = some x) (hk : K x) : arith op k a b K := by
  unfold arithE addE subE mulE quoE remE at h
  unfold arith
  simp only [wrapE_eq, iEq_eq, iLt_eq, iLe_eq] at h
  cases op <;> simp only at h ⊢ <;> first | (cases h; done) | (simp only [Option.some.injEq] at h; subst h; exact hk) | skip
  · obtain ⟨h1, h2⟩ := gd_some h; simp only [Option.some.injEq] at h2; subst h2; exact ⟨by simpa using h1, hk⟩
  · obtain ⟨h1, h2⟩ := gd_some h; simp only [Option.some.injEq] at h2; subst h2; exact ⟨by simpa using h1, hk⟩
def eqB (op : BinOp) (t : Bool) : Option AV := match op with | .eql => some (.b t) | .neq => some (.b (!t)) | _ => none
theorem eqB_ok {op : BinOp} {t : Bool} {x : AV} {K : AV → Prop} (h : eqB op t = some x) (hk : K x) : match (generalizing := false) op with | .eql => K (.b t) | .neq => K (.b (!t)) | _ => False := by
  unfold eqB at h
  cases op <;> simp only at h ⊢ <;> first | (cases h; done) | (simp only [Option.some.injEq] at h; subst h; exact hk)
def shrE (k : IntKind) (a b : Int) : Option AV := gd (decide (0 ≤ b)) (some (.i k (a.fdiv (2 ^ min b.toNat k.bits))))
def kEq : IntKind → IntKind → Bool
  | .i64, .i64 => true
  | .u8, .u8 => true
  | a, b => decide (a = b)
theorem kEq_eq {a b : IntKind} (h : kEq a b = true) : a = b := by
  unfold kEq at h
  split at h
  · rfl
  · rfl
  · exact of_decide_eq_true h
def binI (op : BinOp) (k : IntKind) (a : Int) (k' : IntKind) (b : Int) : Option AV := match op with
  | .shr => shrE k a b
  | .shl => none
  | op => gd (kEq k k') (arithE op k a b)
def binB (op : BinOp) (ty : ETy) (a b : Bool) : Option AV := match ty with | .bool => eqB op (decide (a = b)) | _ => none
def binA (op : BinOp) (ty : ETy) (xs ys : List AV) : Option AV := match ty with
  | .flat ks => match eqC ks xs ys with | some t => eqB op t | none => none
  | .arr n => match eqC (List.replicate n true) xs ys with | some t => eqB op t | none => none
  | _ => none
def binP (R : Prim) (σ : List (Nat × AO)) (op : BinOp) (ty : ETy) (l ver : Nat) : Option AV := match ty with | .ptr => gd (liveE R σ l ver) (eqB op false) | _ => none
def binN (op : BinOp) (ty : ETy) (x y : AV) : Option AV := match isNil ty x y with | some t => eqB op t | none => none
def abinE (R : Prim) (σ : List (Nat × AO)) (op : BinOp) (ty : ETy) (x y : AV) : Option AV :=
  match x, y with
  | .i k a, .i k' b => binI op k a k' b
  | .b a, .b b => binB op ty a b
  | .agg xs, .agg ys => binA op ty xs ys
  | .ptr l ver _, .v (.pointer none) => binP R σ op ty l ver
  | x, y => binN op ty x y
theorem abin_ii (σ : AS) {op : BinOp} (ty : ETy) (k k' : IntKind) (a b : Int) (K : AV → Prop) (h1 : op = .shr → False) (h2 : op = .shl → False) : abin σ op ty (.i k a) (.i k' b) K = ob (k = k') (arith op k a b K) := by
  unfold abin
  cases op <;> first | rfl | (exact (h1 rfl).elim) | (exact (h2 rfl).elim)
theorem abinE_ok {σ : AS} {op : BinOp} {ty : ETy} {x y v : AV} {K : AV → Prop} (h : abinE Prim.std σ op ty x y = some v) (hk : K v) : abin σ op ty x y K := by
  unfold abinE binI binB binA binP binN shrE at h
  split at h
  · rename_i k a k' b
    split at h
    · obtain ⟨h1, h2⟩ := gd_some h
      rw [Option.some.injEq] at h2
      rw [← h2] at hk
      exact ⟨of_decide_eq_true h1, hk⟩
    · exact absurd h (by simp)
    · obtain ⟨h1, h2⟩ := gd_some h
      rename_i hns hnl
      rw [abin_ii σ ty k k' a b K hns hnl]
      exact ⟨kEq_eq h1, arithE_ok h2 hk⟩
  · unfold abin; simp only
    split at h
    · refine ⟨rfl, ?_⟩
      exact eqB_ok h hk
    · cases h
  · unfold abin; simp only
    split at h
    · split at h
      · rename_i e; simp only; rw [e]; exact eqB_ok h hk
      · cases h
    · split at h
      · rename_i e; simp only; rw [e]; exact eqB_ok h hk
      · cases h
    · cases h
  · unfold abin; simp only
    split at h
    · obtain ⟨h1, h2⟩ := gd_some h
      refine ⟨rfl, liveE_ok h1, ?_⟩
      exact eqB_ok (t := false) h2 hk
    · cases h
  · split at h
    · rename_i e
      unfold isNil at e
      split at e <;> first | (cases e; done) | (cases e; exact eqB_ok h hk)
    · cases h
end Go.Eng
