/-
  THE ENGINE, PART ZE: an evaluator: frames and rows by the recursors themselves (the kernel is quicker so).
-/
import Derived.Test.YtclilifadifkgaaEngZD
namespace Go.Eng
open Go.RowKit

theorem boundL_rec (cs : List AV) : (List.rec (motive := fun _ => Nat) 0 (fun x _ ih => mx (bnd x) ih) cs : Nat) = AV.boundL cs := by
  induction cs with
  | nil => simp only [AV.boundL]
  | cons x r ih =>
    show mx (bnd x) (List.rec (motive := fun _ => Nat) 0 (fun x _ ih => mx (bnd x) ih) r) = _
    rw [ih, bnd_eq]
    simp only [AV.boundL]
theorem raw_rb : (fun o => AO.rec (motive := fun _ => Nat) (fun cs _ => List.rec (motive := fun _ => Nat) 0 (fun x _ ih => mx (bnd x) ih) cs) (fun _ => 0) 0 o : AO → Nat) = AO.bound := by
  funext o
  cases o with
  | cells cs r => exact boundL_rec cs
  | imap kv => rfl
  | rsv => rfl
theorem raw_sb : (fun σ => List.rec (motive := fun _ => Nat) 0 (fun p _ ih => mx (Nat.succ p.1) (mx (AO.rec (motive := fun _ => Nat) (fun cs _ => List.rec (motive := fun _ => Nat) 0 (fun x _ ih => mx (bnd x) ih) cs) (fun _ => 0) 0 p.2) ih)) σ : List (Nat × AO) → Nat) = sbound := by
  funext σ
  induction σ with
  | nil => rfl
  | cons p r ih =>
    show mx (Nat.succ p.1) (mx ((fun o => AO.rec (motive := fun _ => Nat) (fun cs _ => List.rec (motive := fun _ => Nat) 0 (fun x _ ih => mx (bnd x) ih) cs) (fun _ => 0) 0 o : AO → Nat) p.2) ((fun σ => List.rec (motive := fun _ => Nat) 0 (fun p _ ih => mx (Nat.succ p.1) (mx (AO.rec (motive := fun _ => Nat) (fun cs _ => List.rec (motive := fun _ => Nat) 0 (fun x _ ih => mx (bnd x) ih) cs) (fun _ => 0) 0 p.2) ih)) σ : List (Nat × AO) → Nat) r)) = _
    have ih2 : (fun σ => List.rec (motive := fun _ => Nat) 0 (fun p _ ih => mx (Nat.succ p.1) (mx (AO.rec (motive := fun _ => Nat) (fun cs _ => List.rec (motive := fun _ => Nat) 0 (fun x _ ih => mx (bnd x) ih) cs) (fun _ => 0) 0 p.2) ih)) σ : List (Nat × AO) → Nat) r = sbound r := ih
    rw [ih2, raw_rb]
    rfl
theorem raw_fb : (fun φ => List.rec (motive := fun _ => Nat) 0 (fun p _ ih => mx (bnd p.2) ih) φ : List (Nat × AV) → Nat) = fbound := by
  funext φ
  induction φ with
  | nil => rfl
  | cons p r ih =>
    show mx (bnd p.2) ((fun φ => List.rec (motive := fun _ => Nat) 0 (fun p _ ih => mx (bnd p.2) ih) φ : List (Nat × AV) → Nat) r) = _
    have ih2 : (fun φ => List.rec (motive := fun _ => Nat) 0 (fun p _ ih => mx (bnd p.2) ih) φ : List (Nat × AV) → Nat) r = fbound r := ih
    rw [ih2, bnd_eq]
    rfl
theorem raw_fg : (fun φ i => List.rec (motive := fun _ => AV) .top (fun p _ ih => Bool.rec (motive := fun _ => AV) ih p.2 (Nat.beq i p.1)) φ : List (Nat × AV) → Nat → AV) = fget := by
  funext φ i
  induction φ with
  | nil => rfl
  | cons p r ih =>
    obtain ⟨j, x⟩ := p
    show Bool.rec (motive := fun _ => AV) ((fun φ i => List.rec (motive := fun _ => AV) .top (fun p _ ih => Bool.rec (motive := fun _ => AV) ih p.2 (Nat.beq i p.1)) φ : List (Nat × AV) → Nat → AV) r i) x (Nat.beq i j) = _
    have ih2 : (fun φ i => List.rec (motive := fun _ => AV) .top (fun p _ ih => Bool.rec (motive := fun _ => AV) ih p.2 (Nat.beq i p.1)) φ : List (Nat × AV) → Nat → AV) r i = fget r i := ih
    rw [ih2]
    simp only [fget]
    cases h : Nat.beq i j with
    | true => rw [if_pos (Nat.eq_of_beq_eq_true h)]
    | false => rw [if_neg (Nat.ne_of_beq_eq_false h)]
theorem raw_sg : (fun σ i => List.rec (motive := fun _ => Option AO) none (fun p _ ih => Bool.rec (motive := fun _ => Option AO) ih (some p.2) (Nat.beq i p.1)) σ : List (Nat × AO) → Nat → Option AO) = sget := by
  funext σ i
  induction σ with
  | nil => rfl
  | cons p r ih =>
    obtain ⟨j, x⟩ := p
    show Bool.rec (motive := fun _ => Option AO) ((fun σ i => List.rec (motive := fun _ => Option AO) none (fun p _ ih => Bool.rec (motive := fun _ => Option AO) ih (some p.2) (Nat.beq i p.1)) σ : List (Nat × AO) → Nat → Option AO) r i) (some x) (Nat.beq i j) = _
    have ih2 : (fun σ i => List.rec (motive := fun _ => Option AO) none (fun p _ ih => Bool.rec (motive := fun _ => Option AO) ih (some p.2) (Nat.beq i p.1)) σ : List (Nat × AO) → Nat → Option AO) r i = sget r i := ih
    rw [ih2]
    simp only [sget]
    cases h : Nat.beq i j with
    | true => rw [if_pos (Nat.eq_of_beq_eq_true h)]
    | false => rw [if_neg (Nat.ne_of_beq_eq_false h)]
theorem raw_fp : (fun φ i x => List.rec (motive := fun _ => List (Nat × AV)) [(i, x)] (fun p r ih => Bool.rec (motive := fun _ => List (Nat × AV)) (Bool.rec (motive := fun _ => List (Nat × AV)) (p :: ih) ((i, x) :: p :: r) (Nat.ble i p.1)) ((i, x) :: r) (Nat.beq i p.1)) φ : List (Nat × AV) → Nat → AV → List (Nat × AV)) = fput := by
  funext φ i x
  induction φ with
  | nil => rfl
  | cons p r ih =>
    obtain ⟨j, y⟩ := p
    show Bool.rec (motive := fun _ => List (Nat × AV)) (Bool.rec (motive := fun _ => List (Nat × AV)) ((j, y) :: (fun φ i x => List.rec (motive := fun _ => List (Nat × AV)) [(i, x)] (fun p r ih => Bool.rec (motive := fun _ => List (Nat × AV)) (Bool.rec (motive := fun _ => List (Nat × AV)) (p :: ih) ((i, x) :: p :: r) (Nat.ble i p.1)) ((i, x) :: r) (Nat.beq i p.1)) φ : List (Nat × AV) → Nat → AV → List (Nat × AV)) r i x) ((i, x) :: (j, y) :: r) (Nat.ble i j)) ((i, x) :: r) (Nat.beq i j) = _
    have ih2 : (fun φ i x => List.rec (motive := fun _ => List (Nat × AV)) [(i, x)] (fun p r ih => Bool.rec (motive := fun _ => List (Nat × AV)) (Bool.rec (motive := fun _ => List (Nat × AV)) (p :: ih) ((i, x) :: p :: r) (Nat.ble i p.1)) ((i, x) :: r) (Nat.beq i p.1)) φ : List (Nat × AV) → Nat → AV → List (Nat × AV)) r i x = fput r i x := ih
    rw [ih2]
    simp only [fput]
    cases h : Nat.beq i j with
    | true => rw [if_pos (Nat.eq_of_beq_eq_true h)]
    | false =>
      rw [if_neg (Nat.ne_of_beq_eq_false h)]
      cases h2 : Nat.ble i j with
      | true => rw [if_pos (Nat.lt_of_le_of_ne (Nat.le_of_ble_eq_true h2) (Nat.ne_of_beq_eq_false h))]
      | false => rw [if_neg fun hl => by have := Nat.ble_eq_true_of_le (Nat.le_of_lt hl); rw [h2] at this; cases this]
theorem raw_sp : (fun σ i x => List.rec (motive := fun _ => List (Nat × AO)) [(i, x)] (fun p r ih => Bool.rec (motive := fun _ => List (Nat × AO)) (Bool.rec (motive := fun _ => List (Nat × AO)) (p :: ih) ((i, x) :: p :: r) (Nat.ble i p.1)) ((i, x) :: r) (Nat.beq i p.1)) σ : List (Nat × AO) → Nat → AO → List (Nat × AO)) = sput := by
  funext σ i x
  induction σ with
  | nil => rfl
  | cons p r ih =>
    obtain ⟨j, y⟩ := p
    show Bool.rec (motive := fun _ => List (Nat × AO)) (Bool.rec (motive := fun _ => List (Nat × AO)) ((j, y) :: (fun σ i x => List.rec (motive := fun _ => List (Nat × AO)) [(i, x)] (fun p r ih => Bool.rec (motive := fun _ => List (Nat × AO)) (Bool.rec (motive := fun _ => List (Nat × AO)) (p :: ih) ((i, x) :: p :: r) (Nat.ble i p.1)) ((i, x) :: r) (Nat.beq i p.1)) σ : List (Nat × AO) → Nat → AO → List (Nat × AO)) r i x) ((i, x) :: (j, y) :: r) (Nat.ble i j)) ((i, x) :: r) (Nat.beq i j) = _
    have ih2 : (fun σ i x => List.rec (motive := fun _ => List (Nat × AO)) [(i, x)] (fun p r ih => Bool.rec (motive := fun _ => List (Nat × AO)) (Bool.rec (motive := fun _ => List (Nat × AO)) (p :: ih) ((i, x) :: p :: r) (Nat.ble i p.1)) ((i, x) :: r) (Nat.beq i p.1)) σ : List (Nat × AO) → Nat → AO → List (Nat × AO)) r i x = sput r i x := ih
    rw [ih2]
    simp only [sput]
    cases h : Nat.beq i j with
    | true => rw [if_pos (Nat.eq_of_beq_eq_true h)]
    | false =>
      rw [if_neg (Nat.ne_of_beq_eq_false h)]
      cases h2 : Nat.ble i j with
      | true => rw [if_pos (Nat.lt_of_le_of_ne (Nat.le_of_ble_eq_true h2) (Nat.ne_of_beq_eq_false h))]
      | false => rw [if_neg fun hl => by have := Nat.ble_eq_true_of_le (Nat.le_of_lt hl); rw [h2] at this; cases this]
theorem memN_rec (k : Nat) (ks : List Nat) : (List.rec (motive := fun _ => Bool) false (fun a _ ik => Bool.rec (motive := fun _ => Bool) ik true (Nat.beq a k)) ks : Bool) = memN ks k := by
  induction ks with
  | nil => rfl
  | cons a r ih =>
    show Bool.rec (motive := fun _ => Bool) (List.rec (motive := fun _ => Bool) false (fun a _ ik => Bool.rec (motive := fun _ => Bool) ik true (Nat.beq a k)) r) true (Nat.beq a k) = _
    rw [ih]
    simp only [memN]
    cases Nat.beq a k <;> rfl
theorem raw_fk : (fun ks φ => List.rec (motive := fun _ => List (Nat × AV)) [] (fun p _ ih => Bool.rec (motive := fun _ => List (Nat × AV)) ih (p :: ih) (List.rec (motive := fun _ => Bool) false (fun k _ ik => Bool.rec (motive := fun _ => Bool) ik true (Nat.beq k p.1)) ks)) φ : List Nat → List (Nat × AV) → List (Nat × AV)) = keepF := by
  funext ks φ
  induction φ with
  | nil => rfl
  | cons p r ih =>
    show Bool.rec (motive := fun _ => List (Nat × AV)) ((fun ks φ => List.rec (motive := fun _ => List (Nat × AV)) [] (fun p _ ih => Bool.rec (motive := fun _ => List (Nat × AV)) ih (p :: ih) (List.rec (motive := fun _ => Bool) false (fun k _ ik => Bool.rec (motive := fun _ => Bool) ik true (Nat.beq k p.1)) ks)) φ : List Nat → List (Nat × AV) → List (Nat × AV)) ks r) (p :: (fun ks φ => List.rec (motive := fun _ => List (Nat × AV)) [] (fun p _ ih => Bool.rec (motive := fun _ => List (Nat × AV)) ih (p :: ih) (List.rec (motive := fun _ => Bool) false (fun k _ ik => Bool.rec (motive := fun _ => Bool) ik true (Nat.beq k p.1)) ks)) φ : List Nat → List (Nat × AV) → List (Nat × AV)) ks r) (List.rec (motive := fun _ => Bool) false (fun k _ ik => Bool.rec (motive := fun _ => Bool) ik true (Nat.beq k p.1)) ks) = _
    have ih2 : (fun ks φ => List.rec (motive := fun _ => List (Nat × AV)) [] (fun p _ ih => Bool.rec (motive := fun _ => List (Nat × AV)) ih (p :: ih) (List.rec (motive := fun _ => Bool) false (fun k _ ik => Bool.rec (motive := fun _ => Bool) ik true (Nat.beq k p.1)) ks)) φ : List Nat → List (Nat × AV) → List (Nat × AV)) ks r = keepF ks r := ih
    rw [ih2, memN_rec]
    simp only [keepF]
    cases memN ks p.1 <;> rfl
theorem raw_std : (⟨fun φ i => List.rec (motive := fun _ => AV) .top (fun p _ ih => Bool.rec (motive := fun _ => AV) ih p.2 (Nat.beq i p.1)) φ, fun φ i x => List.rec (motive := fun _ => List (Nat × AV)) [(i, x)] (fun p r ih => Bool.rec (motive := fun _ => List (Nat × AV)) (Bool.rec (motive := fun _ => List (Nat × AV)) (p :: ih) ((i, x) :: p :: r) (Nat.ble i p.1)) ((i, x) :: r) (Nat.beq i p.1)) φ, fun φ => List.rec (motive := fun _ => Nat) 0 (fun p _ ih => mx (bnd p.2) ih) φ, fun ks φ => List.rec (motive := fun _ => List (Nat × AV)) [] (fun p _ ih => Bool.rec (motive := fun _ => List (Nat × AV)) ih (p :: ih) (List.rec (motive := fun _ => Bool) false (fun k _ ik => Bool.rec (motive := fun _ => Bool) ik true (Nat.beq k p.1)) ks)) φ, fun σ i => List.rec (motive := fun _ => Option AO) none (fun p _ ih => Bool.rec (motive := fun _ => Option AO) ih (some p.2) (Nat.beq i p.1)) σ, fun σ i x => List.rec (motive := fun _ => List (Nat × AO)) [(i, x)] (fun p r ih => Bool.rec (motive := fun _ => List (Nat × AO)) (Bool.rec (motive := fun _ => List (Nat × AO)) (p :: ih) ((i, x) :: p :: r) (Nat.ble i p.1)) ((i, x) :: r) (Nat.beq i p.1)) σ, fun σ => List.rec (motive := fun _ => Nat) 0 (fun p _ ih => mx (Nat.succ p.1) (mx (AO.rec (motive := fun _ => Nat) (fun cs _ => List.rec (motive := fun _ => Nat) 0 (fun x _ ih => mx (bnd x) ih) cs) (fun _ => 0) 0 p.2) ih)) σ, fun o => AO.rec (motive := fun _ => Nat) (fun cs _ => List.rec (motive := fun _ => Nat) 0 (fun x _ ih => mx (bnd x) ih) cs) (fun _ => 0) 0 o⟩ : Prim) = Prim.std := by
  unfold Prim.std
  rw [Prim.mk.injEq]
  exact ⟨raw_fg, raw_fp, raw_fb, raw_fk, raw_sg, raw_sp, raw_sb, raw_rb⟩
/-- What the evaluator says of a function and what it is handed, is so. -/
theorem run_raw {P : Program} {inv : Nat → Option Nat} {Kp : Nat → List Nat} {T : Nat → Option AFn} {Z : Nat → List AV → Option AV} (hP : Callable P inv) (hT : ∀ j F, T j = some F → Has P inv j F) (hZ : ∀ j args r, Z j args = some r → PC P inv j args (· = r)) (f : Nat) {j : Nat} {args : List AV} {r : AV}
    (h : (fun R : Prim => pcE R Kp T Z (codeE R Kp T Z f) j args) ⟨fun φ i => List.rec (motive := fun _ => AV) .top (fun p _ ih => Bool.rec (motive := fun _ => AV) ih p.2 (Nat.beq i p.1)) φ, fun φ i x => List.rec (motive := fun _ => List (Nat × AV)) [(i, x)] (fun p r ih => Bool.rec (motive := fun _ => List (Nat × AV)) (Bool.rec (motive := fun _ => List (Nat × AV)) (p :: ih) ((i, x) :: p :: r) (Nat.ble i p.1)) ((i, x) :: r) (Nat.beq i p.1)) φ, fun φ => List.rec (motive := fun _ => Nat) 0 (fun p _ ih => mx (bnd p.2) ih) φ, fun ks φ => List.rec (motive := fun _ => List (Nat × AV)) [] (fun p _ ih => Bool.rec (motive := fun _ => List (Nat × AV)) ih (p :: ih) (List.rec (motive := fun _ => Bool) false (fun k _ ik => Bool.rec (motive := fun _ => Bool) ik true (Nat.beq k p.1)) ks)) φ, fun σ i => List.rec (motive := fun _ => Option AO) none (fun p _ ih => Bool.rec (motive := fun _ => Option AO) ih (some p.2) (Nat.beq i p.1)) σ, fun σ i x => List.rec (motive := fun _ => List (Nat × AO)) [(i, x)] (fun p r ih => Bool.rec (motive := fun _ => List (Nat × AO)) (Bool.rec (motive := fun _ => List (Nat × AO)) (p :: ih) ((i, x) :: p :: r) (Nat.ble i p.1)) ((i, x) :: r) (Nat.beq i p.1)) σ, fun σ => List.rec (motive := fun _ => Nat) 0 (fun p _ ih => mx (Nat.succ p.1) (mx (AO.rec (motive := fun _ => Nat) (fun cs _ => List.rec (motive := fun _ => Nat) 0 (fun x _ ih => mx (bnd x) ih) cs) (fun _ => 0) 0 p.2) ih)) σ, fun o => AO.rec (motive := fun _ => Nat) (fun cs _ => List.rec (motive := fun _ => Nat) 0 (fun x _ ih => mx (bnd x) ih) cs) (fun _ => 0) 0 o⟩ = some r) : PC P inv j args (· = r) := run_ok raw_std hP hT hZ h
/-- Answers that are known. -/
def memoF (j : Nat) (args : List AV) : List (Nat × List AV × AV) → Option AV
  | [] => none
  | e :: r => bif Nat.beq e.1 j && avEqL e.2.1 args then some e.2.2 else memoF j args r
def zOf (prim : Nat → List AV → Option AV) (m : List (Nat × List AV × AV)) (j : Nat) (args : List AV) : Option AV := match memoF j args m with
  | some r => some r
  | none => prim j args
theorem memoF_ok {P : Program} {inv : Nat → Option Nat} {j : Nat} {args : List AV} {r : AV} : ∀ {m : List (Nat × List AV × AV)}, (∀ e ∈ m, PC P inv e.1 e.2.1 (· = e.2.2)) → memoF j args m = some r → PC P inv j args (· = r)
  | [], _, h => by simp [memoF] at h
  | e :: m, hm, h => by
    simp only [memoF] at h
    cases hc : Nat.beq e.1 j && avEqL e.2.1 args with
    | true =>
      rw [hc] at h
      simp only [Bool.and_eq_true] at hc
      simp only [cond_true, Option.some.injEq] at h
      have := hm e (by simp)
      rw [Nat.eq_of_beq_eq_true hc.1, avEqL_eq _ _ hc.2, h] at this
      exact this
    | false =>
      rw [hc] at h
      exact memoF_ok (fun e he => hm e (by simp [he])) h
theorem zOf_ok {P : Program} {inv : Nat → Option Nat} {prim : Nat → List AV → Option AV} {m : List (Nat × List AV × AV)} (hp : ∀ j args r, prim j args = some r → PC P inv j args (· = r)) (hm : ∀ e ∈ m, PC P inv e.1 e.2.1 (· = e.2.2)) : ∀ j args r, zOf prim m j args = some r → PC P inv j args (· = r) := by
  intro j args r h
  unfold zOf at h
  split at h
  · rename_i e
    simp only [Option.some.injEq] at h
    subst h
    exact memoF_ok hm e
  · exact hp _ _ _ h
theorem memo_nil {P : Program} {inv : Nat → Option Nat} : ∀ e ∈ ([] : List (Nat × List AV × AV)), PC P inv e.1 e.2.1 (· = e.2.2) := fun e h => by cases h
theorem memo_cons {P : Program} {inv : Nat → Option Nat} {m : List (Nat × List AV × AV)} {e : Nat × List AV × AV} (he : PC P inv e.1 e.2.1 (· = e.2.2)) (hm : ∀ e ∈ m, PC P inv e.1 e.2.1 (· = e.2.2)) : ∀ e' ∈ e :: m, PC P inv e'.1 e'.2.1 (· = e'.2.2) := by
  intro e' h
  rcases List.mem_cons.1 h with rfl | h
  · exact he
  · exact hm e' h
end Go.Eng
