/-
  THE ENGINE, PART ZB: an evaluator: operations.
-/
import Derived.Test.YtclilifadifkgaaEngZA
namespace Go.Eng
open Go.RowKit

def aslcE (R : Prim) (σ : List (Nat × AO)) (x : AV) (lo hi mx : Option AV) (sz : Nat) : Option AV :=
  match mx with
  | some (.i _ m) => match hi, lo with
    | some (.i .i64 z), none => gd (decide (m = 0) && decide (z = 0)) (match x with
      | .sl _ _ => some (.s0 sz)
      | .s0 _ => some (.s0 sz)
      | .sm l ver _ _ _ => gd (liveE R σ l ver) (some (.s0 sz))
      | _ => none)
    | _, _ => none
  | some _ => none
  | none => match x with
    | .sl sz' es => gd (Nat.beq sz' sz) (match lo, hi with
      | none, none => some (.sl sz es)
      | none, some (.i _ h) => gd (decide (0 ≤ h ∧ h ≤ es.length)) (some (.sl sz (es.take h.toNat)))
      | some (.i _ l), none => gd (decide (0 ≤ l ∧ l ≤ es.length)) (some (.sl sz (es.drop l.toNat)))
      | some (.i _ l), some (.i _ h) => gd (decide (0 ≤ l ∧ l ≤ h ∧ h ≤ es.length)) (some (.sl sz ((es.take h.toNat).drop l.toNat)))
      | _, _ => none)
    | .sm l ver off n sz' => gd (Nat.beq sz' sz && liveE R σ l ver) (match lo, hi with
      | none, none => some (.sm l ver off n sz)
      | none, some (.i _ h) => gd (decide (0 ≤ h ∧ h ≤ n)) (some (.sm l ver off h.toNat sz))
      | some (.i _ a), none => gd (decide (0 ≤ a ∧ a ≤ n)) (some (.sm l ver (off + a.toNat * sz) (n - a.toNat) sz))
      | some (.i _ a), some (.i _ h) => gd (decide (0 ≤ a ∧ a ≤ h ∧ h ≤ n)) (some (.sm l ver (off + a.toNat * sz) (h.toNat - a.toNat) sz))
      | _, _ => none)
    | .s0 _ => (match lo, hi with
      | none, none => some (.s0 sz)
      | none, some (.i _ h) => gd (decide (h = 0)) (some (.s0 sz))
      | some (.i _ a), none => gd (decide (a = 0)) (some (.s0 sz))
      | some (.i _ a), some (.i _ h) => gd (decide (a = 0 ∧ h = 0)) (some (.s0 sz))
      | _, _ => none)
    | _ => none
theorem aslcE_ok {σ : AS} {x v : AV} {lo hi mx : Option AV} {sz : Nat} {K : AV → Prop} (h : aslcE Prim.std σ x lo hi mx sz = some v) (hk : K v) : aslc σ x lo hi mx sz K := by
  unfold aslcE at h
  unfold aslc
  split at h
  · simp only
    split at h
    · obtain ⟨h1, h2⟩ := gd_some h
      simp only [Bool.and_eq_true, decide_eq_true_eq] at h1
      obtain ⟨rfl, rfl⟩ := h1
      refine ⟨rfl, rfl, rfl, ?_⟩
      split at h2
      · simp only [Option.some.injEq] at h2; subst h2; exact hk
      · simp only [Option.some.injEq] at h2; subst h2; exact hk
      · obtain ⟨h3, h4⟩ := gd_some h2; simp only [Option.some.injEq] at h4; subst h4; exact ⟨liveE_ok h3, hk⟩
      · cases h2
    · cases h
  · cases h
  · simp only
    split at h
    · obtain ⟨h1, h2⟩ := gd_some h
      refine ⟨by simpa using h1, ?_⟩
      split at h2
      · simp only [Option.some.injEq] at h2; subst h2; exact hk
      · obtain ⟨h3, h4⟩ := gd_some h2; simp only [Option.some.injEq] at h4; subst h4; exact ⟨by simpa using h3, hk⟩
      · obtain ⟨h3, h4⟩ := gd_some h2; simp only [Option.some.injEq] at h4; subst h4; exact ⟨by simpa using h3, hk⟩
      · obtain ⟨h3, h4⟩ := gd_some h2; simp only [Option.some.injEq] at h4; subst h4; exact ⟨by simpa using h3, hk⟩
      · cases h2
    · obtain ⟨h1, h2⟩ := gd_some h
      simp only [Bool.and_eq_true] at h1
      refine ⟨by simpa using h1.1, liveE_ok h1.2, ?_⟩
      split at h2
      · simp only [Option.some.injEq] at h2; subst h2; exact hk
      · obtain ⟨h3, h4⟩ := gd_some h2; simp only [Option.some.injEq] at h4; subst h4; exact ⟨by simpa using h3, hk⟩
      · obtain ⟨h3, h4⟩ := gd_some h2; simp only [Option.some.injEq] at h4; subst h4; exact ⟨by simpa using h3, hk⟩
      · obtain ⟨h3, h4⟩ := gd_some h2; simp only [Option.some.injEq] at h4; subst h4; exact ⟨by simpa using h3, hk⟩
      · cases h2
    · split at h
      · simp only [Option.some.injEq] at h; subst h; exact hk
      · obtain ⟨h3, h4⟩ := gd_some h; simp only [Option.some.injEq] at h4; subst h4; exact ⟨of_decide_eq_true h3, hk⟩
      · obtain ⟨h3, h4⟩ := gd_some h; simp only [Option.some.injEq] at h4; subst h4; exact ⟨of_decide_eq_true h3, hk⟩
      · obtain ⟨h3, h4⟩ := gd_some h; simp only [Option.some.injEq] at h4; subst h4; exact ⟨of_decide_eq_true h3, hk⟩
      · cases h
    · cases h

def aloadP (R : Prim) (σ : List (Nat × AO)) (n : Option Nat) (x : AV) : Option AV := match x with
  | .ptr l ver off => match R.sg σ l with
    | some (.cells cs _) => if cs.length = ver then aloadC cs off n else none
    | _ => none
  | .ip _ es i k => match es[i]? with
    | some r => aloadC r k n
    | none => none
  | _ => none
theorem aloadP_std (σ : AS) (n : Option Nat) (x : AV) : aloadP Prim.std σ n x = aload σ n x := by cases x <;> rfl
def alookP (R : Prim) (σ : List (Nat × AO)) (x y : AV) : Option AV := match x, y with
  | .mp l, .i .i64 a => match R.sg σ l with | some (.imap kvs) => some (.i .i64 (mget kvs a)) | _ => none
  | _, _ => none
theorem alookP_std (σ : AS) (x y : AV) : alookP Prim.std σ x y = alook σ x y := by unfold alookP alook; rfl
def ovlE (cs : List AV) (off n : Nat) (x : AV) : Option (List AV) := gd (x.sound && Nat.beq x.cells.length n && Nat.ble (off + n) cs.length) (some (ovl cs off x.cells))
def fillP (R : Prim) (φ : List (Nat × AV)) : List AV → List (Nat × Nat × Opd) → Option (List AV)
  | cs, [] => some cs
  | cs, p :: r => match ovlE cs p.1 p.2.1 (evP R φ p.2.2) with
    | some cs' => fillP R φ cs' r
    | none => none
theorem fillP_std {φ : AF} : ∀ {ps : List (Nat × Nat × Opd)} {cs cs' : List AV}, fillP Prim.std φ cs ps = some cs' → fillA φ cs ps = some cs'
  | [], cs, cs', h => by simpa only [fillP, fillA] using h
  | (off, n, x) :: ps, cs, cs', h => by
    simp only [fillP, ovlE, evP_std] at h
    simp only [fillA]
    split at h
    · rename_i cs2 e
      obtain ⟨h1, h2⟩ := gd_some e
      simp only [Bool.and_eq_true, Nat.beq_eq, Nat.ble_eq] at h1
      simp only [Option.some.injEq] at h2
      subst h2
      rw [if_pos ⟨h1.1.1, h1.1.2, h1.2⟩]
      exact fillP_std h
    · cases h
def pickE (c a b : AV) : Option AV := match c with | .b true => some a | .b false => some b | _ => none
def notE (x : AV) : Option AV := match x with | .b t => some (.b (!t)) | _ => none
def convE (k : IntKind) (x : AV) : Option AV := match x with | .i _ n => some (.i k (wrapE k n)) | _ => none
def fadrE (R : Prim) (σ : List (Nat × AO)) (off : Nat) (x : AV) : Option AV := match x with
  | .ptr l ver o => gd (liveE R σ l ver) (some (.ptr l ver (o + off)))
  | .ip sz es i k => some (.ip sz es i (k + off))
  | _ => none
def inE (j : Int) (n : Nat) : Bool := match j with | .ofNat a => Nat.blt a n | _ => false
theorem inE_ok {j : Int} {n : Nat} (h : inE j n = true) : 0 ≤ j ∧ j < n := by
  unfold inE at h
  split at h
  · rw [Nat.blt_eq] at h; constructor
    · simp
    · simp; omega
  · cases h
def iadrV (R : Prim) (σ : List (Nat × AO)) (sz : Nat) (arr : Option Nat) (j : Int) (x : AV) : Option AV := match x, arr with
  | .sl sz' es, none => gd (Nat.beq sz' sz && inE j es.length) (some (.ip sz es j.toNat 0))
  | .sm l ver off n sz', none => gd (Nat.beq sz' sz && liveE R σ l ver && inE j n) (some (.ptr l ver (off + j.toNat * sz)))
  | .ptr l ver off, some n => gd (liveE R σ l ver && inE j n) (some (.ptr l ver (off + j.toNat * sz)))
  | .ip sz' es i' k, some n => gd (inE j n) (some (.ip sz' es i' (k + j.toNat * sz)))
  | _, _ => none
def iadrE (R : Prim) (σ : List (Nat × AO)) (sz : Nat) (arr : Option Nat) (i x : AV) : Option AV := match i with
  | .i _ j => iadrV R σ sz arr j x
  | _ => none
def fldE (off : Nat) (n : Option Nat) (x : AV) : Option AV := match x with
  | .agg cs => match n with
    | none => cs[off]?
    | some m => some (.agg (seg cs off m))
  | _ => none
def idxE (len sz : Nat) (ag : Bool) (x i : AV) : Option AV := match x, i with
  | .agg cs, .i _ j => gd (inE j len) (match ag with
    | true => some (.agg (seg cs (j.toNat * sz) sz))
    | false => cs[j.toNat * sz]?)
  | _, _ => none
def lenE (R : Prim) (σ : List (Nat × AO)) (x : AV) : Option AV := match x with
  | .sl _ es => some (.i .i64 es.length)
  | .s0 _ => some (.i .i64 0)
  | .sm l ver _ n _ => gd (liveE R σ l ver) (some (.i .i64 n))
  | _ => none
def extE (i : Nat) (x : AV) : Option AV := match x with | .tup vs => vs[i]? | _ => none
def buildE (x : Option (List AV)) : Option AV := match x with | some cs => some (.agg cs) | none => none
def slcaE (R : Prim) (σ : List (Nat × AO)) (lo hi mx : Option AV) (m sz : Nat) (x : AV) : Option AV := match x with
  | .ptr l ver off => gd (liveE R σ l ver && decide (0 < ver ∧ off + m * sz ≤ ver)) (aslcE R σ (.sm l ver off m sz) lo hi mx sz)
  | _ => none
def nilckE (R : Prim) (σ : List (Nat × AO)) (x : AV) : Option AV := match x with
  | .ptr l ver off => gd (liveE R σ l ver) (some (.ptr l ver off))
  | .ip sz es i k => some (.ip sz es i k)
  | .fn j cs => some (.fn j cs)
  | _ => none
def mnxE (mn : Bool) (x y : AV) : Option AV := match x, y with
  | .i k a, .i k' b => gd (decide (k = k')) (some (.i k (if mn = true then (if b < a then b else a) else (if a < b then b else a))))
  | _, _ => none
def capE (x : AV) : Option AV := match x with | .s0 _ => some (.i .i64 0) | _ => none
def avalE (R : Prim) (φ : List (Nat × AV)) (σ : List (Nat × AO)) (e : AVal) : Option AV :=
  match e with
  | .mov x => some (evP R φ x)
  | .pick c a b => pickE (evP R φ c) (evP R φ a) (evP R φ b)
  | .bin op ty x y => abinE R σ op ty (evP R φ x) (evP R φ y)
  | .not x => notE (evP R φ x)
  | .conv k x => convE k (evP R φ x)
  | .load n a => aloadP R σ n (evP R φ a)
  | .fadr a off => fadrE R σ off (evP R φ a)
  | .iadr x i sz arr => iadrE R σ sz arr (evP R φ i) (evP R φ x)
  | .fld x off n => fldE off n (evP R φ x)
  | .idx x i len sz ag => idxE len sz ag (evP R φ x) (evP R φ i)
  | .len x => lenE R σ (evP R φ x)
  | .ext x i => extE i (evP R φ x)
  | .mkfn j caps => some (.fn j (caps.map (evP R φ)))
  | .build zero parts => buildE (fillP R φ (runs zero) parts)
  | .slc x lo hi mx sz => aslcE R σ (evP R φ x) (lo.map (evP R φ)) (hi.map (evP R φ)) (mx.map (evP R φ)) sz
  | .slca x lo hi mx m sz => slcaE R σ (lo.map (evP R φ)) (hi.map (evP R φ)) (mx.map (evP R φ)) m sz (evP R φ x)
  | .nilck x => nilckE R σ (evP R φ x)
  | .mnx mn x y => mnxE mn (evP R φ x) (evP R φ y)
  | .cap x => capE (evP R φ x)
  | .look m k => alookP R σ (evP R φ m) (evP R φ k)
theorem avalE_ok {φ : AF} {σ : AS} {e : AVal} {v : AV} {K : AV → Prop} (h : avalE Prim.std φ σ e = some v) (hk : K v) : aval φ σ e K := by
  cases e <;> simp only [avalE, evP_std, aloadP_std, alookP_std, pickE, notE, convE, fadrE, iadrV, iadrE, fldE, idxE, lenE, extE, buildE, slcaE, nilckE, mnxE, capE] at h <;> simp only [aval]
  case mov x => simp only [Option.some.injEq] at h; subst h; exact hk
  case pick c a b =>
    split at h
    · rename_i e; rw [e]; simp only [Option.some.injEq] at h; subst h; exact ⟨fun _ => hk, fun h => by cases h⟩
    · rename_i e; rw [e]; simp only [Option.some.injEq] at h; subst h; exact ⟨fun h => by (cases h), fun _ => hk⟩
    · cases h
  case bin op ty x y => exact abinE_ok h hk
  case not x =>
    split at h
    · rename_i e; rw [e]; simp only [Option.some.injEq] at h; subst h; exact hk
    · cases h
  case conv k x =>
    split at h
    · rename_i e; rw [e]; simp only [Option.some.injEq, wrapE_eq] at h; subst h; exact hk
    · cases h
  case load n a => rw [h]; exact hk
  case fadr a off =>
    split at h
    · rename_i e; rw [e]; obtain ⟨h1, h2⟩ := gd_some h; simp only [Option.some.injEq] at h2; subst h2; exact ⟨liveE_ok h1, hk⟩
    · rename_i e; rw [e]; simp only [Option.some.injEq] at h; subst h; exact hk
    · cases h
  case iadr x i sz arr =>
    split at h
    · rename_i e
      rw [e]
      split at h
      · rename_i e2
        rw [e2]
        obtain ⟨h1, h2⟩ := gd_some h
        simp only [Option.some.injEq] at h2; subst h2
        simp only [Bool.and_eq_true, Nat.beq_eq] at h1
        exact ⟨h1.1, inE_ok h1.2, hk⟩
      · rename_i e2
        rw [e2]
        obtain ⟨h1, h2⟩ := gd_some h
        simp only [Option.some.injEq] at h2; subst h2
        simp only [Bool.and_eq_true, Nat.beq_eq] at h1
        exact ⟨h1.1.1, liveE_ok h1.1.2, inE_ok h1.2, hk⟩
      · rename_i e2
        rw [e2]
        obtain ⟨h1, h2⟩ := gd_some h
        simp only [Option.some.injEq] at h2; subst h2
        simp only [Bool.and_eq_true] at h1
        exact ⟨liveE_ok h1.1, inE_ok h1.2, hk⟩
      · rename_i e2
        rw [e2]
        obtain ⟨h1, h2⟩ := gd_some h
        simp only [Option.some.injEq] at h2; subst h2
        exact ⟨inE_ok h1, hk⟩
      · cases h
    · cases h
  case fld x off n =>
    split at h
    · rename_i e
      rw [e]
      cases n with
      | none => simp only at h ⊢; rw [h]; exact hk
      | some m => simp only [Option.some.injEq] at h ⊢; subst h; exact hk
    · cases h
  case idx x i len sz ag =>
    split at h
    · rename_i e1 e2
      rw [e1, e2]
      obtain ⟨h1, h2⟩ := gd_some h
      refine ⟨inE_ok h1, ?_⟩
      cases ag with
      | true => simp only [Option.some.injEq] at h2 ⊢; subst h2; exact hk
      | false => simp only at h2 ⊢; rw [h2]; exact hk
    · cases h
  case len x =>
    split at h
    · rename_i e; rw [e]; simp only [Option.some.injEq] at h; subst h; exact hk
    · rename_i e; rw [e]; simp only [Option.some.injEq] at h; subst h; exact hk
    · rename_i e; rw [e]; obtain ⟨h1, h2⟩ := gd_some h; simp only [Option.some.injEq] at h2; subst h2; exact ⟨liveE_ok h1, hk⟩
    · cases h
  case ext x i =>
    split at h
    · rename_i e; rw [e]; simp only; rw [h]; exact hk
    · cases h
  case mkfn j l => simp only [Option.some.injEq] at h; subst h; exact hk
  case build z ps =>
    split at h
    · rename_i e; rw [fillP_std e]; simp only [Option.some.injEq] at h; subst h; exact hk
    · cases h
  case slc x lo hi m sz => exact aslcE_ok h hk
  case slca x lo hi m k sz =>
    split at h
    · rename_i e
      rw [e]
      obtain ⟨h1, h2⟩ := gd_some h
      simp only [Bool.and_eq_true, decide_eq_true_eq] at h1
      exact ⟨liveE_ok h1.1, h1.2, aslcE_ok h2 hk⟩
    · cases h
  case nilck x =>
    split at h
    · rename_i e; rw [e]; obtain ⟨h1, h2⟩ := gd_some h; simp only [Option.some.injEq] at h2; subst h2; exact ⟨liveE_ok h1, hk⟩
    · rename_i e; rw [e]; simp only [Option.some.injEq] at h; subst h; exact hk
    · rename_i e; rw [e]; simp only [Option.some.injEq] at h; subst h; exact hk
    · cases h
  case mnx mn x y =>
    split at h
    · rename_i e1 e2; rw [e1, e2]; obtain ⟨h1, h2⟩ := gd_some h; simp only [Option.some.injEq] at h2; subst h2; exact ⟨by simpa using h1, hk⟩
    · cases h
  case cap x =>
    split at h
    · rename_i e; rw [e]; simp only [Option.some.injEq] at h; subst h; exact hk
    · cases h
  case look m k => rw [h]; exact hk

/-! ### operations -/
def asrcE (R : Prim) (σ : List (Nat × AO)) (sz : Nat) (x : AV) : Option (Nat × List AV) := match x with
  | .s0 _ => some (0, [])
  | .sl sz' es => gd (Nat.beq sz' sz) (some (es.length, es.flatten))
  | .sm l ver off n sz' => gd (Nat.beq sz' sz) (match R.sg σ l with
    | some (.cells cs _) => gd (Nat.beq cs.length ver) (some (n, seg cs off (n * sz)))
    | _ => none)
  | _ => none
theorem asrcE_ok {σ : AS} {sz : Nat} {x : AV} {p : Nat × List AV} {K : Nat → List AV → Prop} (h : asrcE Prim.std σ sz x = some p) (hk : K p.1 p.2) : asrc σ sz x K := by
  unfold asrcE at h
  rw [std_sg] at h
  unfold asrc
  split at h
  · simp only [Option.some.injEq] at h; subst h; exact hk
  · obtain ⟨h1, h2⟩ := gd_some h; simp only [Option.some.injEq] at h2; subst h2; exact ⟨by simpa using h1, hk⟩
  · obtain ⟨h1, h2⟩ := gd_some h
    refine ⟨by simpa using h1, ?_⟩
    split at h2
    · rename_i e
      rw [e]
      obtain ⟨h3, h4⟩ := gd_some h2; simp only [Option.some.injEq] at h4; subst h4; exact ⟨by simpa using h3, hk⟩
    · cases h2
  · cases h
def aappE (R : Prim) (φ : List (Nat × AV)) (σ : List (Nat × AO)) (l : Nat) (d sz : Nat) (dest : AV) (m : Nat) (new : List AV) : Option (AF × AS) :=
  match dest with
  | .s0 _ => gd (Nat.ble m 2147483648) (some (R.fp φ d (.sm l (m * sz) 0 m sz), R.sp σ l (.cells new (decide (0 < m)))))
  | .sm l ver off n sz' => gd (Nat.beq sz' sz && Nat.beq off 0 && Nat.beq (n * sz) ver && Nat.ble (n + m) 2147483648) (match R.sg σ l with
    | some (.cells cs r) => gd (Nat.beq cs.length ver) (some (R.fp φ d (.sm l ((n + m) * sz) 0 (n + m) sz), R.sp σ l (.cells (cs ++ new) (r || decide (0 < m)))))
    | _ => none)
  | _ => none
theorem aappE_ok {φ : AF} {σ : AS} {l d sz m : Nat} {dest : AV} {new : List AV} {p : AF × AS} {K : AF → AS → Prop} (h : aappE Prim.std φ σ l d sz dest m new = some p) (hk : K p.1 p.2) : aapp φ σ l d sz dest m new K := by
  unfold aappE at h
  rw [std_sg, std_fp, std_sp] at h
  unfold aapp
  split at h
  · obtain ⟨h1, h2⟩ := gd_some h; simp only [Option.some.injEq] at h2; subst h2; exact ⟨by simpa using h1, hk⟩
  · obtain ⟨h1, h2⟩ := gd_some h
    simp only [Bool.and_eq_true, Nat.beq_eq, Nat.ble_eq] at h1
    refine ⟨h1.1.1.1, h1.1.1.2, h1.1.2, h1.2, ?_⟩
    split at h2
    · rename_i e
      rw [e]
      obtain ⟨h3, h4⟩ := gd_some h2; simp only [Option.some.injEq] at h4; subst h4; exact ⟨by simpa using h3, hk⟩
    · cases h2
  · cases h
def nilL (R : Prim) (n : Nat) (neg : Bool) (φ : List (Nat × AV)) (d : Nat) (σ : List (Nat × AO)) : List (AF × AS) :=
  match n with
  | 0 => [(R.fp φ d (.b (!neg)), σ), (R.fp φ d (.b neg), σ)]
  | _ + 1 => [(R.fp φ d (.b neg), σ)]
theorem nilL_ok {n : Nat} {neg : Bool} {φ : AF} {d : Nat} {σ : AS} {K : AF → AS → Prop} (hk : ∀ p ∈ nilL Prim.std n neg φ d σ, K p.1 p.2) : nilK n neg fun t => K (fput φ d (.b t)) σ := by
  unfold nilL at hk
  rw [std_fp] at hk
  split at hk
  · exact ⟨fun _ => hk (fput φ d (.b (!neg)), σ) (by simp), hk (fput φ d (.b neg), σ) (by simp)⟩
  · exact ⟨fun h => by (cases h), hk (fput φ d (.b neg), σ) (by simp)⟩
def one {α : Type} (x : Option α) : Option (List α) := match x with | some v => some [v] | none => none
theorem one_some {α : Type} {x : Option α} {l : List α} (h : one x = some l) : ∃ v, x = some v ∧ l = [v] := by
  unfold one at h
  split at h
  · simp only [Option.some.injEq] at h; exact ⟨_, rfl, h.symm⟩
  · cases h

def noRsvG : List Nat → List (Nat × AO) → List (Nat × AO)
  | _, [] => []
  | D, (l, .rsv) :: r => noRsvG (l :: D) r
  | D, (l, .cells cs b) :: r => if memN D l = true then noRsvG D r else (l, .cells cs b) :: noRsvG D r
  | D, (l, .imap kv) :: r => if memN D l = true then noRsvG D r else (l, .imap kv) :: noRsvG D r
def noRsv (σ : List (Nat × AO)) : List (Nat × AO) := noRsvG [] σ

/-- A call by contract: what is handed in bears no names; or it is read as it lies there now. -/
def useP (Cp Cf : Nat → List AV → Option AV) (j : Nat) (as : List AV) (σ : List (Nat × AO)) : Option AV :=
  match AV.bareL as with
  | true => Cp j as
  | false => Cf j (snaps 4 (noRsv σ) as)
section
variable (R : Prim) (C : Nat → Nat → List AV → AS → Option (List (AV × AS))) (Cp Cf : Nat → List AV → Option AV)
def setE (φ : List (Nat × AV)) (σ : List (Nat × AO)) (d : Nat) (x : Option AV) : Option (List (AF × AS)) := match x with | some x => some [(R.fp φ d x, σ)] | none => none
def newE (φ : List (Nat × AV)) (σ : List (Nat × AO)) (d l n : Nat) (cs : List AV) : Option (List (AF × AS)) := some [(R.fp φ d (.ptr l n 0), R.sp σ l (.cells cs true))]
def allocE (φ : List (Nat × AV)) (σ : List (Nat × AO)) (d l : Nat) (cs : List AV) : Option (List (AF × AS)) := newE R φ σ d l cs.length cs
def boxE (φ : List (Nat × AV)) (σ : List (Nat × AO)) (d n l : Nat) (x : AV) : Option (List (AF × AS)) := gd (x.sound && Nat.beq x.cells.length n) (newE R φ σ d l n x.cells)
def isnilE (φ : List (Nat × AV)) (σ : List (Nat × AO)) (d : Nat) (neg : Bool) (x : AV) : Option (List (AF × AS)) := match x with
  | .sl _ es => some (nilL R es.length neg φ d σ)
  | .s0 _ => some (nilL R 0 neg φ d σ)
  | .sm l ver _ n _ => gd (liveE R σ l ver) (some (nilL R n neg φ d σ))
  | _ => none
def mkslB (φ : List (Nat × AV)) (σ : List (Nat × AO)) (d sz len l : Nat) (cs : List AV) : Option (List (AF × AS)) := match AV.bareL cs with
  | true => some [(R.fp φ d (.sl sz (chunks sz len cs)), σ)]
  | false => some [(R.fp φ d (.sm l (len * sz) 0 len sz), R.sp σ l (.cells cs true))]
def mkslE (φ : List (Nat × AV)) (σ : List (Nat × AO)) (d sz len l : Nat) (x : Option (List AV)) : Option (List (AF × AS)) := match x with
  | some cs => mkslB R φ σ d sz len l cs
  | none => none
def storeC (φ : List (Nat × AV)) (σ : List (Nat × AO)) (n l ver off : Nat) (x : AV) : Option (List (AF × AS)) := match R.sg σ l with
  | some (.cells cs r) => gd (Nat.beq cs.length ver && x.sound && Nat.beq x.cells.length n && Nat.blt 0 n && Nat.ble (off + n) ver) (some [(φ, R.sp σ l (.cells (ovl cs off x.cells) r))])
  | _ => none
def storeE (φ : List (Nat × AV)) (σ : List (Nat × AO)) (n : Nat) (a x : AV) : Option (List (AF × AS)) := match a with
  | .ptr l ver off => storeC R φ σ n l ver off x
  | _ => none
def awayE (φ : List (Nat × AV)) (l : Nat) (pts : List Opd) : Bool := pts.all fun p => awayV l (evP R φ p)
def storeAE (φ : List (Nat × AV)) (σ : List (Nat × AO)) (n : Nat) (a x : AV) (pts : List Opd) : Option (List (AF × AS)) := match a with
  | .ptr l ver off => gd (awayE R φ l pts) (storeC R φ σ n l ver off x)
  | _ => none
def appE (φ : List (Nat × AV)) (σ : List (Nat × AO)) (l d sz : Nat) (s : AV) (x : Option (Nat × List AV)) : Option (List (AF × AS)) := match x with
  | some p => one (aappE R φ σ l d sz s p.1 p.2)
  | none => none
def makeE (φ : List (Nat × AV)) (σ : List (Nat × AO)) (d : Nat) (zero : List (Nat × AV)) (sz l : Nat) (x y : AV) : Option (List (AF × AS)) := match x, y with
  | .i _ a, .i _ c => gd (decide (0 ≤ a ∧ a ≤ c ∧ c ≤ 2147483648)) (some [(R.fp φ d (.sm l (a.toNat * sz) 0 a.toNat sz), R.sp σ l (.cells (List.replicate a.toNat (runs zero)).flatten true))])
  | _, _ => none
def putP (φ : List (Nat × AV)) (d : Option Nat) (x : AV) : List (Nat × AV) := match d with | some d => R.fp φ d x | none => φ
def putL (φ : List (Nat × AV)) (d : Option Nat) (x : Option (List (AV × AS))) : Option (List (AF × AS)) := match x with
  | some [p] => some [(putP R φ d p.1, p.2)]
  | some L => some (L.map fun p => (putP R φ d p.1, p.2))
  | none => none
def calvE (N : Nat) (φ : List (Nat × AV)) (σ : List (Nat × AO)) (d : Option Nat) (f : AV) (as : List AV) : Option (List (AF × AS)) := match f with
  | .fn j caps => putL R φ d (C (mx N (R.fb φ)) j (as ++ caps) σ)
  | _ => none
def calveE (N : Nat) (φ : List (Nat × AV)) (σ : List (Nat × AO)) (d : Option Nat) (f : AV) (as : List AV) : Option (List (AF × AS)) := match f with
  | .fn j caps => putL R φ d (C (mx N (R.fb φ)) j (as ++ caps) σ)
  | _ => none
def galE (φ : List (Nat × AV)) (σ : List (Nat × AO)) (d l : Nat) (zero : List (Nat × AV)) : Option (List (AF × AS)) := match R.sg σ l with
  | some .rsv => gd (Nat.blt 0 (runs zero).length) (allocE R φ σ d l (runs zero))
  | _ => none
def mkmapE (φ : List (Nat × AV)) (σ : List (Nat × AO)) (d l : Nat) : Option (List (AF × AS)) := some [(R.fp φ d (.mp l), R.sp σ l (.imap []))]
def mapsetE (φ : List (Nat × AV)) (σ : List (Nat × AO)) (m k v : AV) : Option (List (AF × AS)) := match m, k, v with
  | .mp l, .i .i64 a, .i .i64 b => match R.sg σ l with
    | some (.imap kvs) => some [(φ, R.sp σ l (.imap (mset kvs a b)))]
    | _ => none
  | _, _, _ => none
def appzE (φ : List (Nat × AV)) (σ : List (Nat × AO)) (d : Nat) (zero : List (Nat × AV)) (sz l : Nat) (s n : AV) : Option (List (AF × AS)) := match s, n with
  | .s0 _, .i .i64 a => gd (decide (0 ≤ a ∧ a ≤ 2147483648)) (some [(R.fp φ d (.sm l (a.toNat * sz) 0 a.toNat sz), R.sp σ l (.cells (List.replicate a.toNat (runs zero)).flatten (decide (0 < a.toNat))))])
  | _, _ => none
def opE (N : Nat) (o : AOp) (φ : List (Nat × AV)) (σ : List (Nat × AO)) : Option (List (AF × AS)) :=
  match o with
  | .set d e => setE R φ σ d (avalE R φ σ e)
  | .alloc d zero => allocE R φ σ d (freshP R N φ σ) (runs zero)
  | .box d n x => boxE R φ σ d n (freshP R N φ σ) (evP R φ x)
  | .isnil d neg x => isnilE R φ σ d neg (evP R φ x)
  | .mks0 d sz => some [(R.fp φ d (.s0 sz), σ)]
  | .mksl d sz len zero parts => mkslE R φ σ d sz len (freshP R N φ σ) (fillP R φ (List.replicate len (runs zero)).flatten parts)
  | .store n a x => storeE R φ σ n (evP R φ a) (evP R φ x)
  | .app d s x sz => appE R φ σ (freshP R N φ σ) d sz (evP R φ s) (asrcE R σ sz (evP R φ x))
  | .make d len cap zero sz => makeE R φ σ d zero sz (freshP R N φ σ) (evP R φ len) (evP R φ cap)
  | .call d j args => putL R φ d (C (mx N (R.fb φ)) j (args.map (evP R φ)) σ)
  | .calv d f args => calvE R C N φ σ d (evP R φ f) (args.map (evP R φ))
  | .callp d j args => setE R φ σ d (useP Cp Cf j (args.map (evP R φ)) σ)
  | .gal d back zero => galE R φ σ d (N - back) zero
  | .storeA n a x pts => storeAE R φ σ n (evP R φ a) (evP R φ x) pts
  | .bad _ => none
  | .calle d j args => putL R φ d (C (mx N (R.fb φ)) j (args.map (evP R φ)) σ)
  | .calve d f args => calveE R C N φ σ d (evP R φ f) (args.map (evP R φ))
  | .appe d s x sz => appE R φ σ (freshP R N φ σ) d sz (evP R φ s) (asrcE R σ sz (evP R φ x))
  | .mkmap d => mkmapE R φ σ d (freshP R N φ σ)
  | .mapset m k v => mapsetE R φ σ (evP R φ m) (evP R φ k) (evP R φ v)
  | .appz d s n zero sz => appzE R φ σ d zero sz (freshP R N φ σ) (evP R φ s) (evP R φ n)
end
theorem memN_iff' : ∀ {l : List Nat} {i : Nat}, memN l i = true ↔ i ∈ l := memN_iff
theorem noRsvG_get : ∀ {σ : AS} {D : List Nat} {l : Nat} {o : AO}, sget (noRsvG D σ) l = some o → l ∉ D ∧ o ≠ .rsv ∧ sget σ l = some o
  | [], D, l, o, h => by simp [noRsvG, sget] at h
  | (j, .rsv) :: r, D, l, o, h => by
    obtain ⟨h1, h2, h3⟩ := noRsvG_get (σ := r) (D := j :: D) (by simpa only [noRsvG] using h)
    simp only [List.mem_cons, not_or] at h1
    exact ⟨h1.2, h2, by simp only [sget]; rw [if_neg h1.1]; exact h3⟩
  | (j, .cells cs b) :: r, D, l, o, h => by
    simp only [noRsvG] at h
    split at h
    · rename_i e
      obtain ⟨h1, h2, h3⟩ := noRsvG_get h
      have : l ≠ j := fun e' => h1 (e' ▸ memN_iff.1 e)
      exact ⟨h1, h2, by simp only [sget]; rw [if_neg this]; exact h3⟩
    · rename_i e
      simp only [sget] at h ⊢
      split at h
      · rename_i e'
        simp only [Option.some.injEq] at h
        subst h e'
        rw [if_pos rfl]
        exact ⟨fun h => e (memN_iff.2 h), by simp, rfl⟩
      · rename_i e'
        rw [if_neg e']
        exact noRsvG_get h
  | (j, .imap kv) :: r, D, l, o, h => by
    simp only [noRsvG] at h
    split at h
    · rename_i e
      obtain ⟨h1, h2, h3⟩ := noRsvG_get h
      have : l ≠ j := fun e' => h1 (e' ▸ memN_iff.1 e)
      exact ⟨h1, h2, by simp only [sget]; rw [if_neg this]; exact h3⟩
    · rename_i e
      simp only [sget] at h ⊢
      split at h
      · rename_i e'
        simp only [Option.some.injEq] at h
        subst h e'
        rw [if_pos rfl]
        exact ⟨fun h => e (memN_iff.2 h), by simp, rfl⟩
      · rename_i e'
        rw [if_neg e']
        exact noRsvG_get h
theorem noRsv_get {σ : AS} {l : Nat} {o : AO} (h : sget (noRsv σ) l = some o) : o ≠ .rsv ∧ sget σ l = some o := (noRsvG_get h).2
end Go.Eng
