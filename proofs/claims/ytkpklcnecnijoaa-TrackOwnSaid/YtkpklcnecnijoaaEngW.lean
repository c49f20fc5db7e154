/-
  THE ENGINE, PART W: what a walk through a function's code needs: each operation's law by itself, what goes on kept from being looked into; rules that one tactic can try one behind another.
-/
import Derived.Test.YtkpklcnecnijoaaEngV
import Derived.IntWalk
namespace Go.Eng
set_option linter.unusedSimpArgs false
set_option linter.unusedVariables false
set_option linter.unusedSectionVars false
open Go.RowKit

section ops
variable {P : Program} {inv : Nat → Option Nat} {w0 : World} {M : Nat → Prop} {N : Nat} {φ : List (Nat × AV)} {σ : List (Nat × AO)}

/-! ### values -/
def avT (φ : List (Nat × AV)) (σ : List (Nat × AO)) (e : AVal) (K : AV → Prop) (_ : Tok K) : Prop := aval φ σ e K
def pkT (c a b : AV) (K : AV → Prop) (_ : Tok K) : Prop := match c with | .b t => pickB t (K a) (K b) | _ => False
def abT (σ : List (Nat × AO)) (op : BinOp) (ty : ETy) (x y : AV) (K : AV → Prop) (_ : Tok K) : Prop := abin σ op ty x y K
def ntT (x : AV) (K : AV → Prop) (_ : Tok K) : Prop := match x with | .b t => K (.b (!t)) | _ => False
def cvT (k : IntKind) (x : AV) (K : AV → Prop) (_ : Tok K) : Prop := match x with | .i _ n => K (.i k (k.wrap n)) | _ => False
def faT (σ : List (Nat × AO)) (x : AV) (off : Nat) (K : AV → Prop) (_ : Tok K) : Prop := match x with
    | .ptr l ver o => ob (live σ l ver) (K (.ptr l ver (o + off)))
    | .ip sz es i k => K (.ip sz es i (k + off))
    | _ => False
def iaT (σ : List (Nat × AO)) (x i : AV) (sz : Nat) (arr : Option Nat) (K : AV → Prop) (_ : Tok K) : Prop := match i with
    | .i _ j => match x, arr with
      | .sl sz' es, none => ob (sz' = sz) <| ob (0 ≤ j ∧ j < es.length) (K (.ip sz es j.toNat 0))
      | .sm l ver off n sz', none => ob (sz' = sz) <| ob (live σ l ver) <| ob (0 ≤ j ∧ j < n) (K (.ptr l ver (off + j.toNat * sz)))
      | .ptr l ver off, some n => ob (live σ l ver) <| ob (0 ≤ j ∧ j < n) (K (.ptr l ver (off + j.toNat * sz)))
      | .ip sz' es i' k, some n => ob (0 ≤ j ∧ j < n) (K (.ip sz' es i' (k + j.toNat * sz)))
      | _, _ => False
    | _ => False
def flT (x : AV) (off : Nat) (n : Option Nat) (K : AV → Prop) (_ : Tok K) : Prop := match x with
    | .agg cs => match n with
      | none => obind cs[off]? K
      | some m => K (.agg (seg cs off m))
    | _ => False
def ixT (x i : AV) (len sz : Nat) (ag : Bool) (K : AV → Prop) (_ : Tok K) : Prop := match x, i with
    | .agg cs, .i _ j => ob (0 ≤ j ∧ j < len) (match ag with
      | true => K (.agg (seg cs (j.toNat * sz) sz))
      | false => obind cs[j.toNat * sz]? K)
    | _, _ => False
def lnT (σ : List (Nat × AO)) (x : AV) (K : AV → Prop) (_ : Tok K) : Prop := match x with
    | .sl _ es => K (.i .i64 es.length)
    | .s0 _ => K (.i .i64 0)
    | .sm l ver _ n _ => ob (live σ l ver) (K (.i .i64 n))
    | _ => False
def exT (x : AV) (i : Nat) (K : AV → Prop) (_ : Tok K) : Prop := match x with
    | .tup vs => obind vs[i]? K
    | _ => False
def scT (σ : List (Nat × AO)) (x : AV) (lo hi mx : Option AV) (sz : Nat) (K : AV → Prop) (_ : Tok K) : Prop := aslc σ x lo hi mx sz K
def saT (σ : List (Nat × AO)) (x : AV) (lo hi mx : Option AV) (m sz : Nat) (K : AV → Prop) (_ : Tok K) : Prop := match x with
    | .ptr l ver off => ob (live σ l ver) <| ob (0 < ver ∧ off + m * sz ≤ ver) <| scT σ (.sm l ver off m sz) lo hi mx sz K .mk
    | _ => False
def nkT (σ : List (Nat × AO)) (x : AV) (K : AV → Prop) (_ : Tok K) : Prop := match x with
    | .ptr l ver off => ob (live σ l ver) (K (.ptr l ver off))
    | .ip sz es i k => K (.ip sz es i k)
    | .fn j cs => K (.fn j cs)
    | _ => False
def mnT (mn : Bool) (x y : AV) (K : AV → Prop) (_ : Tok K) : Prop := match x, y with
    | .i k a, .i k' b => ob (k = k') <| K (.i k (if mn = true then (if b < a then b else a) else (if a < b then b else a)))
    | _, _ => False
def eqT (op : BinOp) (t : Bool) (K : AV → Prop) (_ : Tok K) : Prop := match op with | .eql => K (.b t) | .neq => K (.b (!t)) | _ => False
def arT (op : BinOp) (k : IntKind) (a b : Int) (K : AV → Prop) (_ : Tok K) : Prop := arith op k a b K

variable {K : AV → Prop} {tk : Tok K}
theorem av_mov (x : Opd) : avT φ σ (.mov x) K tk = K (ev φ x) := rfl
theorem av_pick (c a b : Opd) : avT φ σ (.pick c a b) K tk = pkT (ev φ c) (ev φ a) (ev φ b) K .mk := rfl
theorem av_bin (op : BinOp) (ty : ETy) (x y : Opd) : avT φ σ (.bin op ty x y) K tk = abT σ op ty (ev φ x) (ev φ y) K .mk := rfl
theorem av_not (x : Opd) : avT φ σ (.not x) K tk = ntT (ev φ x) K .mk := rfl
theorem av_conv (k : IntKind) (x : Opd) : avT φ σ (.conv k x) K tk = cvT k (ev φ x) K .mk := rfl
theorem av_load (n : Option Nat) (a : Opd) : avT φ σ (.load n a) K tk = obind (aload σ n (ev φ a)) K := rfl
theorem av_fadr (a : Opd) (off : Nat) : avT φ σ (.fadr a off) K tk = faT σ (ev φ a) off K .mk := rfl
theorem av_iadr (x i : Opd) (sz : Nat) (arr : Option Nat) : avT φ σ (.iadr x i sz arr) K tk = iaT σ (ev φ x) (ev φ i) sz arr K .mk := rfl
theorem av_fld (x : Opd) (off : Nat) (n : Option Nat) : avT φ σ (.fld x off n) K tk = flT (ev φ x) off n K .mk := rfl
theorem av_idx (x i : Opd) (len sz : Nat) (ag : Bool) : avT φ σ (.idx x i len sz ag) K tk = ixT (ev φ x) (ev φ i) len sz ag K .mk := rfl
theorem av_len (x : Opd) : avT φ σ (.len x) K tk = lnT σ (ev φ x) K .mk := rfl
theorem av_ext (x : Opd) (i : Nat) : avT φ σ (.ext x i) K tk = exT (ev φ x) i K .mk := rfl
theorem av_mkfn (j : Nat) (caps : List Opd) : avT φ σ (.mkfn j caps) K tk = K (.fn j (caps.map (ev φ))) := rfl
theorem av_build (zero : List (Nat × AV)) (parts : List (Nat × Nat × Opd)) : avT φ σ (.build zero parts) K tk = obind (fillA φ (runs zero) parts) fun cs => K (.agg cs) := rfl
theorem av_slc (x : Opd) (lo hi mx : Option Opd) (sz : Nat) : avT φ σ (.slc x lo hi mx sz) K tk = scT σ (ev φ x) (lo.map (ev φ)) (hi.map (ev φ)) (mx.map (ev φ)) sz K .mk := rfl
theorem av_slca (x : Opd) (lo hi mx : Option Opd) (m sz : Nat) : avT φ σ (.slca x lo hi mx m sz) K tk = saT σ (ev φ x) (lo.map (ev φ)) (hi.map (ev φ)) (mx.map (ev φ)) m sz K .mk := rfl
theorem av_nilck (x : Opd) : avT φ σ (.nilck x) K tk = nkT σ (ev φ x) K .mk := rfl
theorem av_mnx (mn : Bool) (x y : Opd) : avT φ σ (.mnx mn x y) K tk = mnT mn (ev φ x) (ev φ y) K .mk := rfl
theorem pk_b (t : Bool) (a b : AV) : pkT (.b t) a b K tk = pickB t (K a) (K b) := rfl
theorem nt_b (t : Bool) : ntT (.b t) K tk = K (.b (!t)) := rfl
theorem cv_i (k k' : IntKind) (n : Int) : cvT k (.i k' n) K tk = K (.i k (k.wrap n)) := rfl
theorem fa_ptr (l ver o off : Nat) : faT σ (.ptr l ver o) off K tk = ob (live σ l ver) (K (.ptr l ver (o + off))) := rfl
theorem fa_ip (sz : Nat) (es : List (List AV)) (i k off : Nat) : faT σ (.ip sz es i k) off K tk = K (.ip sz es i (k + off)) := rfl
theorem ia_sl (sz' : Nat) (es : List (List AV)) (k : IntKind) (j : Int) (sz : Nat) : iaT σ (.sl sz' es) (.i k j) sz none K tk = (ob (sz' = sz) <| ob (0 ≤ j ∧ j < es.length) (K (.ip sz es j.toNat 0))) := rfl
theorem ia_sm (l ver off n sz' : Nat) (k : IntKind) (j : Int) (sz : Nat) : iaT σ (.sm l ver off n sz') (.i k j) sz none K tk = (ob (sz' = sz) <| ob (live σ l ver) <| ob (0 ≤ j ∧ j < n) (K (.ptr l ver (off + j.toNat * sz)))) := rfl
theorem ia_ptr (l ver off : Nat) (k : IntKind) (j : Int) (sz n : Nat) : iaT σ (.ptr l ver off) (.i k j) sz (some n) K tk = (ob (live σ l ver) <| ob (0 ≤ j ∧ j < n) (K (.ptr l ver (off + j.toNat * sz)))) := rfl
theorem ia_ip (sz' : Nat) (es : List (List AV)) (i' k' : Nat) (k : IntKind) (j : Int) (sz n : Nat) : iaT σ (.ip sz' es i' k') (.i k j) sz (some n) K tk = ob (0 ≤ j ∧ j < n) (K (.ip sz' es i' (k' + j.toNat * sz))) := rfl
theorem fl_n (cs : List AV) (off : Nat) : flT (.agg cs) off none K tk = obind cs[off]? K := rfl
theorem fl_s (cs : List AV) (off m : Nat) : flT (.agg cs) off (some m) K tk = K (.agg (seg cs off m)) := rfl
theorem ix_t (cs : List AV) (k : IntKind) (j : Int) (len sz : Nat) : ixT (.agg cs) (.i k j) len sz true K tk = ob (0 ≤ j ∧ j < len) (K (.agg (seg cs (j.toNat * sz) sz))) := rfl
theorem ix_f (cs : List AV) (k : IntKind) (j : Int) (len sz : Nat) : ixT (.agg cs) (.i k j) len sz false K tk = ob (0 ≤ j ∧ j < len) (obind cs[j.toNat * sz]? K) := rfl
theorem ln_sl (sz : Nat) (es : List (List AV)) : lnT σ (.sl sz es) K tk = K (.i .i64 es.length) := rfl
theorem ln_s0 (sz : Nat) : lnT σ (.s0 sz) K tk = K (.i .i64 0) := rfl
theorem ln_sm (l ver off n sz : Nat) : lnT σ (.sm l ver off n sz) K tk = ob (live σ l ver) (K (.i .i64 n)) := rfl
theorem ex_t (vs : List AV) (i : Nat) : exT (.tup vs) i K tk = obind vs[i]? K := rfl
theorem sa_ptr (l ver off : Nat) (lo hi mx : Option AV) (m sz : Nat) : saT σ (.ptr l ver off) lo hi mx m sz K tk = (ob (live σ l ver) <| ob (0 < ver ∧ off + m * sz ≤ ver) <| scT σ (.sm l ver off m sz) lo hi mx sz K .mk) := rfl
theorem nk_ptr (l ver off : Nat) : nkT σ (.ptr l ver off) K tk = ob (live σ l ver) (K (.ptr l ver off)) := rfl
theorem nk_ip (sz : Nat) (es : List (List AV)) (i k : Nat) : nkT σ (.ip sz es i k) K tk = K (.ip sz es i k) := rfl
theorem nk_fn (j : Nat) (cs : List AV) : nkT σ (.fn j cs) K tk = K (.fn j cs) := rfl
theorem mn_ii (mn : Bool) (k k' : IntKind) (a b : Int) : mnT mn (.i k a) (.i k' b) K tk = (ob (k = k') <| K (.i k (if mn = true then (if b < a then b else a) else (if a < b then b else a)))) := rfl
theorem eq_eql (t : Bool) : eqT .eql t K tk = K (.b t) := rfl
theorem eq_neq (t : Bool) : eqT .neq t K tk = K (.b (!t)) := rfl
theorem ar_add (k : IntKind) (a b : Int) : arT .add k a b K tk = K (.i k (k.wrap (a + b))) := rfl
theorem ar_sub (k : IntKind) (a b : Int) : arT .sub k a b K tk = K (.i k (k.wrap (a - b))) := rfl
theorem ar_mul (k : IntKind) (a b : Int) : arT .mul k a b K tk = K (.i k (k.wrap (a * b))) := rfl
theorem ar_quo (k : IntKind) (a b : Int) : arT .quo k a b K tk = ob (b ≠ 0) (K (.i k (k.wrap (a.tdiv b)))) := rfl
theorem ar_rem (k : IntKind) (a b : Int) : arT .rem k a b K tk = ob (b ≠ 0) (K (.i k (a.tmod b))) := rfl
theorem ar_eql (k : IntKind) (a b : Int) : arT .eql k a b K tk = K (.b (decide (a = b))) := rfl
theorem ar_neq (k : IntKind) (a b : Int) : arT .neq k a b K tk = K (.b (!decide (a = b))) := rfl
theorem ar_lss (k : IntKind) (a b : Int) : arT .lss k a b K tk = K (.b (decide (a < b))) := rfl
theorem ar_leq (k : IntKind) (a b : Int) : arT .leq k a b K tk = K (.b (decide (a ≤ b))) := rfl
theorem ar_gtr (k : IntKind) (a b : Int) : arT .gtr k a b K tk = K (.b (decide (b < a))) := rfl
theorem ar_geq (k : IntKind) (a b : Int) : arT .geq k a b K tk = K (.b (decide (b ≤ a))) := rfl
variable {op : BinOp} {ty : ETy}
theorem ab_ii (k k' : IntKind) (a b : Int) : abT σ op ty (.i k a) (.i k' b) K tk = match op with
    | .shr => ob (0 ≤ b) (K (.i k (a.fdiv (2 ^ min b.toNat k.bits))))
    | .shl => False
    | op => ob (k = k') (arT op k a b K .mk) := by unfold abT abin; cases op <;> rfl
theorem ab_bb (a b : Bool) : abT σ op ty (.b a) (.b b) K tk = ob (ty = .bool) (eqT op (decide (a = b)) K .mk) := by unfold abT abin; cases op <;> rfl
theorem ab_aa (xs ys : List AV) (ks : List Bool) : abT σ op (.flat ks) (.agg xs) (.agg ys) K tk = obind (eqC ks xs ys) fun t => eqT op t K .mk := by unfold abT abin; cases op <;> rfl
theorem ab_pn (l ver o : Nat) : abT σ op ty (.ptr l ver o) (.v (.pointer none)) K tk = ob (ty = .ptr) (ob (live σ l ver) (eqT op false K .mk)) := by unfold abT abin; cases op <;> rfl
theorem ab_nn : abT σ op .ptr (.v (.pointer none)) (.v (.pointer none)) K tk = eqT op true K .mk := by unfold abT abin; cases op <;> rfl
theorem ab_ni (sz : Nat) (es : List (List AV)) (i k : Nat) : abT σ op .ptr (.v (.pointer none)) (.ip sz es i k) K tk = eqT op false K .mk := by unfold abT abin; cases op <;> rfl
theorem ab_in (sz : Nat) (es : List (List AV)) (i k : Nat) : abT σ op .ptr (.ip sz es i k) (.v (.pointer none)) K tk = eqT op false K .mk := by unfold abT abin; cases op <;> rfl
theorem ab_fnn : abT σ op .fn (.v .nilFunc) (.v .nilFunc) K tk = eqT op true K .mk := by unfold abT abin; cases op <;> rfl
theorem ab_nf (j : Nat) (cs : List AV) : abT σ op .fn (.v .nilFunc) (.fn j cs) K tk = eqT op false K .mk := by unfold abT abin; cases op <;> rfl
theorem ab_fn (j : Nat) (cs : List AV) : abT σ op .fn (.fn j cs) (.v .nilFunc) K tk = eqT op false K .mk := by unfold abT abin; cases op <;> rfl
variable (sz' : Nat) (es : List (List AV)) (sz : Nat) (k k' : IntKind) (h lw : Int) (l ver off n : Nat)
theorem sc_00 : scT σ (.sl sz' es) none none none sz K tk = ob (sz' = sz) (K (.sl sz es)) := rfl
theorem sc_01 : scT σ (.sl sz' es) none (some (.i k h)) none sz K tk = (ob (sz' = sz) <| ob (0 ≤ h ∧ h ≤ es.length) (K (.sl sz (es.take h.toNat)))) := rfl
theorem sc_10 : scT σ (.sl sz' es) (some (.i k lw)) none none sz K tk = (ob (sz' = sz) <| ob (0 ≤ lw ∧ lw ≤ es.length) (K (.sl sz (es.drop lw.toNat)))) := rfl
theorem sc_11 : scT σ (.sl sz' es) (some (.i k lw)) (some (.i k' h)) none sz K tk = (ob (sz' = sz) <| ob (0 ≤ lw ∧ lw ≤ h ∧ h ≤ es.length) (K (.sl sz ((es.take h.toNat).drop lw.toNat)))) := rfl
theorem sm_00 : scT σ (.sm l ver off n sz') none none none sz K tk = (ob (sz' = sz) <| ob (live σ l ver) (K (.sm l ver off n sz))) := rfl
theorem sm_01 : scT σ (.sm l ver off n sz') none (some (.i k h)) none sz K tk = (ob (sz' = sz) <| ob (live σ l ver) <| ob (0 ≤ h ∧ h ≤ n) (K (.sm l ver off h.toNat sz))) := rfl
theorem sm_10 : scT σ (.sm l ver off n sz') (some (.i k lw)) none none sz K tk = (ob (sz' = sz) <| ob (live σ l ver) <| ob (0 ≤ lw ∧ lw ≤ n) (K (.sm l ver (off + lw.toNat * sz) (n - lw.toNat) sz))) := rfl
theorem sm_11 : scT σ (.sm l ver off n sz') (some (.i k lw)) (some (.i k' h)) none sz K tk = (ob (sz' = sz) <| ob (live σ l ver) <| ob (0 ≤ lw ∧ lw ≤ h ∧ h ≤ n) (K (.sm l ver (off + lw.toNat * sz) (h.toNat - lw.toNat) sz))) := rfl
theorem sl_mx (m : Int) : scT σ (.sl sz' es) none (some (.i k h)) (some (.i k' m)) sz K tk = (ob (m = 0) <| ob (some (AV.i k h) = some (.i .i64 0)) <| ob ((none : Option AV) = none) (K (.s0 sz))) := rfl
theorem s0_mx (m : Int) : scT σ (.s0 sz') none (some (.i k h)) (some (.i k' m)) sz K tk = (ob (m = 0) <| ob (some (AV.i k h) = some (.i .i64 0)) <| ob ((none : Option AV) = none) (K (.s0 sz))) := rfl
theorem sm_mx (m : Int) : scT σ (.sm l ver off n sz') none (some (.i k h)) (some (.i k' m)) sz K tk = (ob (m = 0) <| ob (some (AV.i k h) = some (.i .i64 0)) <| ob ((none : Option AV) = none) (ob (live σ l ver) (K (.s0 sz)))) := rfl
end ops

section effs
variable {P : Program} {inv : Nat → Option Nat} {w0 : World} {M : Nat → Prop} {N : Nat} {φ : List (Nat × AV)} {σ : List (Nat × AO)} {K : AF → AS → Prop} {tk : Tok K}
def opT (P : Program) (inv : Nat → Option Nat) (w0 : World) (M : Nat → Prop) (N : Nat) (o : AOp) (φ : AF) (σ : AS) (K : AF → AS → Prop) (_ : Tok K) : Prop := aop P inv w0 M N o φ σ K
def opD (P : Program) (inv : Nat → Option Nat) (w0 : World) (M : Nat → Prop) (N : Nat) (o : AOp) (φ : AF) (σ : AS) (K : AF → AS → Prop) (_ : Tok K) : Prop := aopD P inv w0 M N o φ σ K
def gdT (x : AV) (A B C : Prop) (_ : Tok A) (_ : Tok B) (_ : Tok C) : Prop := match x with | .b t => pickB t A B | .u => C | _ => False
theorem gd_b (t : Bool) (A B C : Prop) (a : Tok A) (b : Tok B) (c : Tok C) : gdT (.b t) A B C a b c = pickB t A B := rfl
theorem gd_u (A B C : Prop) (a : Tok A) (b : Tok B) (c : Tok C) : gdT .u A B C a b c = C := rfl
theorem wp_nil : awpOps P inv w0 M N [] K φ σ = K φ σ := rfl
theorem wp_o (o : AOp) (r : List GOp) : awpOps P inv w0 M N ((none, o) :: r) K φ σ = opT P inv w0 M N o φ σ (awpOps P inv w0 M N r K) .mk := rfl
theorem wp_t (s : Nat) (o : AOp) (r : List GOp) : awpOps P inv w0 M N ((some (s, true), o) :: r) K φ σ =
  gdT (fget φ s) (opT P inv w0 M N o (fref φ s (.b true)) σ (awpOps P inv w0 M N r K) .mk) (awpOps P inv w0 M N r K (putO (fref φ s (.b false)) o.dst .u) σ) (awpOps P inv w0 M N r K (putO φ o.dst .u) σ) .mk .mk .mk := rfl
theorem wp_f (s : Nat) (o : AOp) (r : List GOp) : awpOps P inv w0 M N ((some (s, false), o) :: r) K φ σ =
  gdT (fget φ s) (awpOps P inv w0 M N r K (putO (fref φ s (.b true)) o.dst .u) σ) (opT P inv w0 M N o (fref φ s (.b false)) σ (awpOps P inv w0 M N r K) .mk) (awpOps P inv w0 M N r K (putO φ o.dst .u) σ) .mk .mk .mk := rfl
theorem wd_nil : awpOpsD P inv w0 M N [] K φ σ = K φ σ := rfl
theorem wd_o (o : AOp) (r : List GOp) : awpOpsD P inv w0 M N ((none, o) :: r) K φ σ = opD P inv w0 M N o φ σ (awpOpsD P inv w0 M N r K) .mk := rfl
theorem wd_t (s : Nat) (o : AOp) (r : List GOp) : awpOpsD P inv w0 M N ((some (s, true), o) :: r) K φ σ =
  gdT (fget φ s) (opD P inv w0 M N o (fref φ s (.b true)) σ (awpOpsD P inv w0 M N r K) .mk) (awpOpsD P inv w0 M N r K (putO (fref φ s (.b false)) o.dst .u) σ) (awpOpsD P inv w0 M N r K (putO φ o.dst .u) σ) .mk .mk .mk := rfl
theorem wd_f (s : Nat) (o : AOp) (r : List GOp) : awpOpsD P inv w0 M N ((some (s, false), o) :: r) K φ σ =
  gdT (fget φ s) (awpOpsD P inv w0 M N r K (putO (fref φ s (.b true)) o.dst .u) σ) (opD P inv w0 M N o (fref φ s (.b false)) σ (awpOpsD P inv w0 M N r K) .mk) (awpOpsD P inv w0 M N r K (putO φ o.dst .u) σ) .mk .mk .mk := rfl

def nlT (σ : AS) (x : AV) (neg : Bool) (K : Bool → Prop) (_ : Tok K) : Prop := match x with
    | .sl _ es => nilK es.length neg K
    | .s0 _ => nilK 0 neg K
    | .sm l ver _ n _ => ob (live σ l ver) <| nilK n neg K
    | _ => False
def clT (o : Option AO) (K : List AV → Bool → Prop) (_ : Tok K) : Prop := match o with
    | some (.cells cs r) => K cs r
    | _ => False
theorem cl_c (cs : List AV) (r : Bool) (K : List AV → Bool → Prop) (tk : Tok K) : clT (some (.cells cs r)) K tk = K cs r := rfl
def stT (σ : AS) (a : AV) (K : Nat → Nat → Nat → List AV → Bool → Prop) (_ : Tok K) : Prop := match a with
    | .ptr l ver off => clT (sget σ l) (K l ver off) .mk
    | _ => False
theorem st_p (l ver off : Nat) (K : Nat → Nat → Nat → List AV → Bool → Prop) (tk : Tok K) : stT σ (.ptr l ver off) K tk = clT (sget σ l) (K l ver off) .mk := rfl
def srT (σ : AS) (sz : Nat) (x : AV) (K : Nat → List AV → Prop) (_ : Tok K) : Prop := asrc σ sz x K
theorem sr_0 (sz sz' : Nat) (K : Nat → List AV → Prop) (tk : Tok K) : srT σ sz (.s0 sz') K tk = K 0 [] := rfl
theorem sr_l (sz sz' : Nat) (es : List (List AV)) (K : Nat → List AV → Prop) (tk : Tok K) : srT σ sz (.sl sz' es) K tk = ob (sz' = sz) (K es.length es.flatten) := rfl
theorem sr_m (sz l ver off n sz' : Nat) (K : Nat → List AV → Prop) (tk : Tok K) : srT σ sz (.sm l ver off n sz') K tk = ob (sz' = sz) (clT (sget σ l) (fun cs _ => ob (cs.length = ver) (K n (seg cs off (n * sz)))) .mk) := rfl
def apT (φ : AF) (σ : AS) (l : Nat) (d sz : Nat) (dest : AV) (m : Nat) (new : List AV) (K : AF → AS → Prop) (_ : Tok K) : Prop := aapp φ σ l d sz dest m new K
theorem ap_0 (l d sz sz' m : Nat) (new : List AV) : apT φ σ l d sz (.s0 sz') m new K tk = (ob (m ≤ 2147483648) <| K (fput φ d (.sm l (m * sz) 0 m sz)) (sput σ l (.cells new (decide (0 < m))))) := rfl
theorem ap_m (l' d sz l ver off n sz' m : Nat) (new : List AV) : apT φ σ l' d sz (.sm l ver off n sz') m new K tk = (ob (sz' = sz) <| ob (off = 0) <| ob (n * sz = ver) <| ob (n + m ≤ 2147483648) <|
    clT (sget σ l) (fun cs r => ob (cs.length = ver) <| K (fput φ d (.sm l ((n + m) * sz) 0 (n + m) sz)) (sput σ l (.cells (cs ++ new) (r || decide (0 < m))))) .mk) := rfl
def mkT (a c : AV) (K : Int → Int → Prop) (_ : Tok K) : Prop := match a, c with
    | .i _ a, .i _ c => K a c
    | _, _ => False
theorem mk_i (k k' : IntKind) (a c : Int) (K : Int → Int → Prop) (tk : Tok K) : mkT (.i k a) (.i k' c) K tk = K a c := rfl
def fnT (f : AV) (K : Nat → List AV → Prop) (_ : Tok K) : Prop := match f with | .fn j caps => K j caps | _ => False
theorem fn_f (j : Nat) (caps : List AV) (K : Nat → List AV → Prop) (tk : Tok K) : fnT (.fn j caps) K tk = K j caps := rfl
def bB (t : Bool) (X Y : Prop) (_ : Tok X) (_ : Tok Y) : Prop := match t with | true => X | false => Y
theorem bB_t (X Y : Prop) (x : Tok X) (y : Tok Y) : bB true X Y x y = X := rfl
theorem bB_f (X Y : Prop) (x : Tok X) (y : Tok Y) : bB false X Y x y = Y := rfl
def rsT (o : Option AO) (X : Prop) (_ : Tok X) : Prop := match o with | some .rsv => X | _ => False
theorem rs_r (X : Prop) (tk : Tok X) : rsT (some .rsv) X tk = X := rfl

theorem op_set (d : Nat) (e : AVal) : opT P inv w0 M N (.set d e) φ σ K tk = avT φ σ e (fun x => K (fput φ d x) σ) .mk := rfl
theorem op_alloc (d : Nat) (zero : List (Nat × AV)) : opT P inv w0 M N (.alloc d zero) φ σ K tk = K (fput φ d (.ptr (fresh N φ σ) (runs zero).length 0)) (sput σ (fresh N φ σ) (.cells (runs zero) true)) := rfl
theorem op_box (d n : Nat) (x : Opd) : opT P inv w0 M N (.box d n x) φ σ K tk = (ob ((ev φ x).sound = true) <| ob ((ev φ x).cells.length = n) <| K (fput φ d (.ptr (fresh N φ σ) n 0)) (sput σ (fresh N φ σ) (.cells (ev φ x).cells true))) := rfl
theorem op_isnil (d : Nat) (neg : Bool) (x : Opd) : opT P inv w0 M N (.isnil d neg x) φ σ K tk = nlT σ (ev φ x) neg (fun t => K (fput φ d (.b t)) σ) .mk := by unfold opT aop nlT; rfl
theorem op_mks0 (d sz : Nat) : opT P inv w0 M N (.mks0 d sz) φ σ K tk = K (fput φ d (.s0 sz)) σ := rfl
theorem op_mksl (d sz len : Nat) (zero : List (Nat × AV)) (parts : List (Nat × Nat × Opd)) : opT P inv w0 M N (.mksl d sz len zero parts) φ σ K tk = obind (fillA φ (List.replicate len (runs zero)).flatten parts) fun cs =>
    bB (AV.bareL cs) (K (fput φ d (.sl sz (chunks sz len cs))) σ) (K (fput φ d (.sm (fresh N φ σ) (len * sz) 0 len sz)) (sput σ (fresh N φ σ) (.cells cs true))) .mk .mk := by unfold opT aop bB; rfl
theorem op_store (n : Nat) (a x : Opd) : opT P inv w0 M N (.store n a x) φ σ K tk = stT σ (ev φ a) (fun l ver off cs r => ob (cs.length = ver) <| ob ((ev φ x).sound = true) <| ob ((ev φ x).cells.length = n) <| ob (0 < n ∧ off + n ≤ ver) <| K φ (sput σ l (.cells (ovl cs off (ev φ x).cells) r))) .mk := by unfold opT aop stT clT; rfl
theorem op_app (d : Nat) (s x : Opd) (sz : Nat) : opT P inv w0 M N (.app d s x sz) φ σ K tk = srT σ sz (ev φ x) (fun m new => apT φ σ (fresh N φ σ) d sz (ev φ s) m new K .mk) .mk := rfl
theorem op_make (d : Nat) (len cap : Opd) (zero : List (Nat × AV)) (sz : Nat) : opT P inv w0 M N (.make d len cap zero sz) φ σ K tk = mkT (ev φ len) (ev φ cap) (fun a c => ob (0 ≤ a ∧ a ≤ c ∧ c ≤ 2147483648) <| K (fput φ d (.sm (fresh N φ σ) (a.toNat * sz) 0 a.toNat sz)) (sput σ (fresh N φ σ) (.cells (List.replicate a.toNat (runs zero)).flatten true))) .mk := by unfold opT aop mkT; rfl
theorem op_call (d : Option Nat) (j : Nat) (args : List Opd) : opT P inv w0 M N (.call d j args) φ σ K tk = CallK P inv w0 M N φ σ j (args.map (ev φ)) fun r σ' => K (putO φ d r) σ' := rfl
theorem op_calv (d : Option Nat) (f : Opd) (args : List Opd) : opT P inv w0 M N (.calv d f args) φ σ K tk = fnT (ev φ f) (fun j caps => CallK P inv w0 M N φ σ j (args.map (ev φ) ++ caps) fun r σ' => K (putO φ d r) σ') .mk := by unfold opT aop fnT; rfl
theorem op_callp (d j : Nat) (args : List Opd) : opT P inv w0 M N (.callp d j args) φ σ K tk = PureK P inv w0 M σ j (args.map (ev φ)) fun r => K (fput φ d r) σ := rfl
theorem op_gal (d back : Nat) (zero : List (Nat × AV)) : opT P inv w0 M N (.gal d back zero) φ σ K tk = rsT (sget σ (N - back)) (ob (0 < (runs zero).length) <| K (fput φ d (.ptr (N - back) (runs zero).length 0)) (sput σ (N - back) (.cells (runs zero) true))) .mk := by unfold opT aop rsT; rfl
theorem od_call (d : Option Nat) (j : Nat) (args : List Opd) : opD P inv w0 M N (.call d j args) φ σ K tk = CallK P inv w0 M N φ σ j (args.map (ev φ)) fun r σ' => ob (SLe σ σ') (K (putO φ d r) σ') := rfl
theorem od_calv (d : Option Nat) (f : Opd) (args : List Opd) : opD P inv w0 M N (.calv d f args) φ σ K tk = fnT (ev φ f) (fun j caps => CallK P inv w0 M N φ σ j (args.map (ev φ) ++ caps) fun r σ' => ob (SLe σ σ') (K (putO φ d r) σ')) .mk := by unfold opD aopD fnT; rfl
theorem od_app (d : Nat) (s x : Opd) (sz : Nat) : opD P inv w0 M N (.app d s x sz) φ σ K tk = opT P inv w0 M N (.app d s x sz) φ σ (fun φ' σ' => ob (SLe σ σ') (K φ' σ')) .mk := rfl
theorem od_set (d : Nat) (e : AVal) : opD P inv w0 M N (.set d e) φ σ K tk = avT φ σ e (fun x => K (fput φ d x) σ) .mk := rfl
theorem od_alloc (d : Nat) (z : List (Nat × AV)) : opD P inv w0 M N (.alloc d z) φ σ K tk = opT P inv w0 M N (.alloc d z) φ σ K .mk := rfl
theorem od_box (d n : Nat) (x : Opd) : opD P inv w0 M N (.box d n x) φ σ K tk = opT P inv w0 M N (.box d n x) φ σ K .mk := rfl
theorem od_isnil (d : Nat) (neg : Bool) (x : Opd) : opD P inv w0 M N (.isnil d neg x) φ σ K tk = opT P inv w0 M N (.isnil d neg x) φ σ K .mk := rfl
theorem od_mks0 (d sz : Nat) : opD P inv w0 M N (.mks0 d sz) φ σ K tk = opT P inv w0 M N (.mks0 d sz) φ σ K .mk := rfl
theorem od_mksl (d sz len : Nat) (z : List (Nat × AV)) (parts : List (Nat × Nat × Opd)) : opD P inv w0 M N (.mksl d sz len z parts) φ σ K tk = opT P inv w0 M N (.mksl d sz len z parts) φ σ K .mk := rfl
theorem od_store (n : Nat) (a x : Opd) : opD P inv w0 M N (.store n a x) φ σ K tk = opT P inv w0 M N (.store n a x) φ σ K .mk := rfl
theorem od_make (d : Nat) (len cap : Opd) (z : List (Nat × AV)) (sz : Nat) : opD P inv w0 M N (.make d len cap z sz) φ σ K tk = opT P inv w0 M N (.make d len cap z sz) φ σ K .mk := rfl
theorem od_callp (d j : Nat) (args : List Opd) : opD P inv w0 M N (.callp d j args) φ σ K tk = opT P inv w0 M N (.callp d j args) φ σ K .mk := rfl
theorem od_gal (d back : Nat) (z : List (Nat × AV)) : opD P inv w0 M N (.gal d back z) φ σ K tk = opT P inv w0 M N (.gal d back z) φ σ K .mk := rfl
variable {K : Bool → Prop} {tk : Tok K}
theorem nl_l (sz : Nat) (es : List (List AV)) (neg : Bool) : nlT σ (.sl sz es) neg K tk = nilK es.length neg K := rfl
theorem nl_0 (sz : Nat) (neg : Bool) : nlT σ (.s0 sz) neg K tk = nilK 0 neg K := rfl
theorem nl_m (l ver off n sz : Nat) (neg : Bool) : nlT σ (.sm l ver off n sz) neg K tk = ob (live σ l ver) (nilK n neg K) := rfl
theorem nilK_pos {n : Nat} {neg : Bool} (h : 0 < n) : nilK n neg K = K neg := by unfold nilK; exact propext ⟨fun x => x.2, fun x => ⟨fun e => absurd e (by omega), x⟩⟩
theorem nilK_mk {n : Nat} {neg : Bool} (h1 : n = 0 → K (!neg)) (h2 : K neg) : nilK n neg K := ⟨h1, h2⟩
end effs
def nth {α : Type} [Inhabited α] (l : List α) (i : Nat) : α := l[i]!
theorem nth_eq {α : Type} [Inhabited α] {l : List α} {i : Nat} (h : i < l.length) : nth l i = l[i] := getElem!_pos l i h
theorem map_get {α : Type} [Inhabited α] {f : α → List AV} {l : List α} {i : Nat} (h : i < l.length) : (l.map f)[i]? = some (f (nth l i)) := by simp [h, nth_eq]
theorem map_get1 {α : Type} [Inhabited α] {f : α → AV} {l : List α} {i : Nat} (h : i < l.length) : (l.map f)[i]? = some (f (nth l i)) := by simp [h, nth_eq]
theorem drop_at {α : Type} [Inhabited α] {l : List α} {i : Nat} (h : i < l.length) : l.drop i = nth l i :: l.drop (i + 1) := by rw [List.drop_eq_getElem_cons h, nth_eq h]
theorem take_at {α : Type} [Inhabited α] {l : List α} {i : Nat} (h : i < l.length) : l.take i ++ [nth l i] = l.take (i + 1) := by rw [nth_eq h]; simp
theorem take_get {α : Type} [Inhabited α] {l : List α} {i k : Nat} (h : i < k) : nth (l.take k) i = nth l i := by simp [nth, List.getElem?_take, h]
theorem nth_mem {α : Type} [Inhabited α] {l : List α} {i : Nat} (h : i < l.length) : nth l i ∈ l := by rw [nth_eq h]; exact List.getElem_mem h
theorem al_n (cs : List AV) (off : Nat) : aloadC cs off none = cs[off]? := rfl
theorem al_s (cs : List AV) (off m : Nat) : aloadC cs off (some m) = if 0 < m ∧ off + m ≤ cs.length then some (.agg (seg cs off m)) else none := rfl
attribute [go_sem] al_n
attribute [go_sem low] al_s
theorem fget_cons (i : Nat) (x : AV) (r : AF) (k : Nat) : fget ((i, x) :: r) k = if k = i then x else fget r k := rfl

theorem wI64 {n : Int} (h : -9223372036854775808 ≤ n ∧ n ≤ 9223372036854775807) : IntKind.wrap .i64 n = n := IntWalk.i64_in n h
theorem wU64 {n : Int} (h : 0 ≤ n ∧ n ≤ 18446744073709551615) : IntKind.wrap .u64 n = n := IntWalk.u64_in n h
theorem wU8 {n : Int} (h : 0 ≤ n ∧ n ≤ 255) : IntKind.wrap .u8 n = n := IntWalk.u8_in n h

theorem shr1 (a : Int) : a.fdiv (2 ^ min (Int.toNat 1) (IntKind.bits .u64)) = a / 2 := by
  show a.fdiv 2 = a / 2
  rw [Int.fdiv_eq_ediv_of_nonneg _ (by decide)]
theorem shr1' (a : Int) : a.fdiv (2 ^ min 1 64) = a / 2 := shr1 a

/-! ### rows of structs -/
mutual
def AV.plain : AV → Bool
  | .agg cs => AV.plainL cs
  | .i _ _ => true | .b _ => true | .v _ => true | .sl _ _ => true | .ip _ _ _ _ => true
  | _ => false
def AV.plainL : List AV → Bool
  | [] => true
  | x :: xs => x.plain && AV.plainL xs
end
mutual
theorem plain_bare : ∀ x : AV, x.plain = true → x.bare = true
  | .agg cs, h => by simp only [AV.plain] at h; simp only [AV.bare]; exact plainL_bare cs h
  | .i _ _, _ => rfl | .b _, _ => rfl | .v _, _ => rfl | .sl _ _, _ => rfl | .ip _ _ _ _, _ => rfl
  | .tup _, h => by simp [AV.plain] at h
  | .u, h => by simp [AV.plain] at h
  | .s0 _, h => by simp [AV.plain] at h
  | .ptr _ _ _, h => by simp [AV.plain] at h
  | .sm _ _ _ _ _, h => by simp [AV.plain] at h
  | .fn _ _, h => by simp [AV.plain] at h
  | .mp _, h => by simp [AV.plain] at h
  | .top, h => by simp [AV.plain] at h
theorem plainL_bare : ∀ xs : List AV, AV.plainL xs = true → AV.bareL xs = true
  | [], _ => rfl
  | x :: xs, h => by
    simp only [AV.plainL, Bool.and_eq_true] at h
    simp only [AV.bareL, plain_bare x h.1, plainL_bare xs h.2, Bool.and_self]
end
mutual
theorem plain_snap (f : Nat → Option (List AV)) : ∀ x : AV, x.plain = true → snapV f x = x
  | .agg cs, h => by simp only [AV.plain] at h; simp only [snapV, plainL_snap f cs h]
  | .i _ _, _ => rfl | .b _, _ => rfl | .v _, _ => rfl | .sl _ _, _ => rfl | .ip _ _ _ _, _ => rfl
  | .tup _, h => by simp [AV.plain] at h
  | .u, h => by simp [AV.plain] at h
  | .s0 _, h => by simp [AV.plain] at h
  | .ptr _ _ _, h => by simp [AV.plain] at h
  | .sm _ _ _ _ _, h => by simp [AV.plain] at h
  | .fn _ _, h => by simp [AV.plain] at h
  | .mp _, h => by simp [AV.plain] at h
  | .top, h => by simp [AV.plain] at h
theorem plainL_snap (f : Nat → Option (List AV)) : ∀ xs : List AV, AV.plainL xs = true → snapL f xs = xs
  | [], _ => rfl
  | x :: xs, h => by
    simp only [AV.plainL, Bool.and_eq_true] at h
    simp only [snapL, plain_snap f x h.1, plainL_snap f xs h.2]
end
theorem plainL_append : ∀ (xs ys : List AV), AV.plainL (xs ++ ys) = (AV.plainL xs && AV.plainL ys)
  | [], ys => by simp [AV.plainL]
  | x :: xs, ys => by simp [AV.plainL, plainL_append xs ys, Bool.and_assoc]
class Cells {α : Type} (c : α → List AV) (sz : outParam Nat) : Prop where
  len : ∀ a, (c a).length = sz
  plain : ∀ a, AV.plainL (c a) = true
section cells
variable {α : Type} {c : α → List AV} {sz : Nat} [h : Cells c sz]
include h
theorem flat_plain (l : List α) : AV.plainL (l.map c).flatten = true := by
  induction l with
  | nil => rfl
  | cons x l ih => simp [plainL_append, h.plain x, ih]
theorem flat_bare (l : List α) : AV.bareL (l.map c).flatten = true := plainL_bare _ (flat_plain l)
theorem flat_bound (l : List α) : AV.boundL (l.map c).flatten = 0 := bareL_bound _ (flat_bare l)
theorem flat_snap (f : Nat → Option (List AV)) (l : List α) : snapL f (l.map c).flatten = (l.map c).flatten := plainL_snap f _ (flat_plain l)
theorem flat_len (l : List α) : (l.map c).flatten.length = l.length * sz := by
  induction l with
  | nil => simp
  | cons x l ih => simp [h.len x, ih, Nat.add_mul, Nat.add_comm]
theorem flat_chunks (l : List α) : chunks sz l.length (l.map c).flatten = l.map c := by
  have := chunks_flatten sz (l.map c) (by simpa using fun a _ => h.len a)
  simpa using this
theorem flat_drop (l : List α) : ∀ k, k ≤ l.length → (l.map c).flatten.drop (k * sz) = ((l.drop k).map c).flatten
  | 0, _ => by simp
  | k + 1, hk => by
    cases l with
    | nil => simp at hk
    | cons x l =>
      simp only [List.map_cons, List.flatten_cons, List.drop_succ_cons]
      rw [List.drop_append, List.drop_eq_nil_of_le (by rw [h.len x, Nat.add_mul]; omega), List.nil_append, h.len x, show (k + 1) * sz - sz = k * sz by rw [Nat.add_mul]; omega]
      exact flat_drop l k (by simpa using hk)
theorem flat_seg (l : List α) (k : Nat) (hk : k < l.length) : seg (l.map c).flatten (k * sz) sz = c l[k] := by
  unfold seg
  rw [flat_drop l k (by omega), List.drop_eq_getElem_cons hk, List.map_cons, List.flatten_cons, List.take_append_of_le_length (by rw [h.len]; exact Nat.le_refl _), List.take_of_length_le (by rw [h.len]; exact Nat.le_refl _)]
end cells
section rep
variable {α : Type} (a : α)
theorem rep1 : List.replicate 1 a = [a] := rfl
theorem rep2 : List.replicate 2 a = [a, a] := rfl
theorem rep3 : List.replicate 3 a = [a, a, a] := rfl
theorem rep4 : List.replicate 4 a = [a, a, a, a] := rfl
theorem rep5 : List.replicate 5 a = [a, a, a, a, a] := rfl
theorem rep6 : List.replicate 6 a = [a, a, a, a, a, a] := rfl
end rep
theorem bmap_plain (l : List Bool) : AV.plainL (l.map AV.b) = true := by induction l with | nil => rfl | cons x l ih => simp [AV.plainL, AV.plain, ih]
theorem bmap_bare (l : List Bool) : AV.bareL (l.map AV.b) = true := plainL_bare _ (bmap_plain l)
theorem bmap_bound (l : List Bool) : AV.boundL (l.map AV.b) = 0 := bareL_bound _ (bmap_bare l)
theorem imap_plain (k : IntKind) (l : List Int) : AV.plainL (l.map (AV.i k)) = true := by induction l with | nil => rfl | cons x l ih => simp [AV.plainL, AV.plain, ih]
theorem imap_bare (k : IntKind) (l : List Int) : AV.bareL (l.map (AV.i k)) = true := plainL_bare _ (imap_plain k l)
theorem imap_bound (k : IntKind) (l : List Int) : AV.boundL (l.map (AV.i k)) = 0 := bareL_bound _ (imap_bare k l)
def allFrom (p : Nat → Bool) : Nat → Nat → Bool
  | _, 0 => true
  | k, m + 1 => p k && allFrom p (k + 1) m
theorem allFrom_iff (p : Nat → Bool) : ∀ (m k : Nat), allFrom p k m = true ↔ ∀ i, k ≤ i → i < k + m → p i = true
  | 0, k => by simp [allFrom]; omega
  | m + 1, k => by
    simp only [allFrom, Bool.and_eq_true, allFrom_iff p m (k + 1)]
    constructor
    · rintro ⟨h1, h2⟩ i hi hlt
      rcases Nat.lt_or_ge k i with h | h
      · exact h2 i h (by omega)
      · obtain rfl : i = k := by omega
        exact h1
    · intro h
      exact ⟨h k (by omega) (by omega), fun i h1 h2 => h i (by omega) (by omega)⟩
theorem allFrom_step {p : Nat → Bool} {k n : Nat} (h : k < n) : allFrom p k (n - k) = (p k && allFrom p (k + 1) (n - (k + 1))) := by
  rw [show n - k = (n - (k + 1)) + 1 by omega, allFrom]
theorem allFrom_end {p : Nat → Bool} {k n : Nat} (h : n ≤ k) : allFrom p k (n - k) = true := by
  rw [show n - k = 0 by omega, allFrom]
theorem ints_flat (l : List Int) : (l.map fun x => [AV.i .i64 x]).flatten = l.map (AV.i .i64) := by induction l with | nil => rfl | cons x l ih => simp only [List.map_cons, List.flatten_cons, List.cons_append, List.nil_append, ih]

attribute [go_sem] flat_bare flat_bound flat_snap flat_len flat_chunks shr1 shr1' bmap_bare bmap_bound imap_bare imap_bound
attribute [go_sem] av_mov av_pick av_bin av_not av_conv av_load av_fadr av_iadr av_fld av_idx av_len av_ext av_mkfn av_build av_slc av_slca av_nilck av_mnx pk_b nt_b cv_i fa_ptr fa_ip ia_sl ia_sm ia_ptr ia_ip fl_n fl_s ix_t ix_f ln_sl ln_s0 ln_sm ex_t sa_ptr nk_ptr nk_ip nk_fn mn_ii eq_eql eq_neq ar_add ar_sub ar_mul ar_quo ar_rem ar_eql ar_neq ar_lss ar_leq ar_gtr ar_geq ab_ii ab_bb ab_aa ab_pn ab_nn ab_ni ab_in ab_fnn ab_nf ab_fn sc_00 sc_01 sc_10 sc_11 sm_00 sm_01 sm_10 sm_11 sl_mx s0_mx sm_mx
attribute [go_sem] gd_b gd_u wp_nil wp_o wp_t wp_f wd_nil wd_o wd_t wd_f cl_c st_p sr_0 sr_l sr_m ap_0 ap_m mk_i fn_f bB_t bB_f rs_r op_set op_alloc op_box op_isnil op_mks0 op_mksl op_store op_app op_make op_call op_calv op_callp op_gal od_call od_calv od_app od_set od_alloc od_box od_isnil od_mks0 od_mksl od_store od_make od_callp od_gal nl_l nl_0 nl_m
attribute [go_sem high] ob_true
attribute [go_sem] ev fget fput fref argF Then InBlock FnPost fnRes aresL ares eqC AOp.dst putO live sget sput reserve fresh mx fbound sbound AV.bound AV.boundL AO.bound AV.sound AV.one AV.cells AV.bareL AV.bare aload seg ovl fillA runs obind_some pickB_true pickB_false SLe_refl snap snaps snapV snapL snapF AV.scalar AV.scalarL chunks fsub ssub
attribute [go_sem] List.length_cons List.length_nil List.getElem?_cons_succ List.getElem?_cons_zero List.getElem?_nil List.map_cons List.map_nil List.set_cons_zero List.set_cons_succ List.drop_zero List.drop_succ_cons List.take_zero List.take_succ_cons List.nil_append List.cons_append rep1 rep2 rep3 rep4 rep5 rep6 List.flatten_cons List.flatten_nil List.append_nil Option.map_some Option.map_none true_and and_true Bool.not_true Bool.not_false decide_true decide_false eq_self if_true if_false Nat.zero_add Nat.add_zero Nat.le_refl Nat.lt_add_one Nat.zero_lt_succ Nat.mul_one Nat.zero_mul Nat.mul_zero Nat.one_mul Int.toNat_natCast Int.toNat_zero Int.toNat_one List.length_map Option.some.injEq exists_eq_left' AV.b.injEq AV.i.injEq Bool.decide_eq_true Bool.and_true Bool.true_and Bool.false_and Bool.and_false Bool.or_true Bool.true_or Bool.false_or Bool.or_false List.length_replicate List.length_append List.length_set

def fpick : List Nat → List (Nat × AV) → List (Nat × AV)
  | [], _ => []
  | k :: r, φ => (k, fget φ k) :: fpick r φ
theorem fpick_sub (φ : AF) : ∀ ks, fsub (fpick ks φ) φ
  | [] => trivial
  | k :: r => ⟨rfl, fpick_sub φ r⟩
attribute [go_sem] fpick
def pk (ks : List Nat) (K : List (Nat × AV) → List (Nat × AO) → Prop) : List (Nat × AV) → List (Nat × AO) → Prop := fun φ σ => K (fpick ks φ) σ
theorem pk_app (ks : List Nat) (K : List (Nat × AV) → List (Nat × AO) → Prop) (φ : List (Nat × AV)) (σ : List (Nat × AO)) : pk ks K φ σ = K (fpick ks φ) σ := rfl
def lend {ι : Type} (F : ι → List (Nat × AV)) (S : ι → List (Nat × AO)) (Inv : ι → Prop) (μ : ι → Nat) (s : ι) : List (Nat × AV) → List (Nat × AO) → Prop := fun φ' σ' => ∃ s', μ s' < μ s ∧ Inv s' ∧ fsub (F s') φ' ∧ ssub (S s') σ'
theorem lend_app {ι : Type} (F : ι → List (Nat × AV)) (S : ι → List (Nat × AO)) (Inv : ι → Prop) (μ : ι → Nat) (s : ι) (φ' : List (Nat × AV)) (σ' : List (Nat × AO)) : lend F S Inv μ s φ' σ' = ∃ s', μ s' < μ s ∧ Inv s' ∧ fsub (F s') φ' ∧ ssub (S s') σ' := rfl
attribute [go_sem] pk_app lend_app
def Cont (K A : AF → AS → Prop) : Prop := ∀ φ σ, A φ σ → K φ σ
theorem Cont.go {K A : AF → AS → Prop} (h : Cont K A) {φ : AF} {σ : AS} (x : A φ σ) : K φ σ := h _ _ x
section
variable {P : Program} {inv : Nat → Option Nat} {w0 : World} {M : Nat → Prop} {n N : Nat} {φ : AF} {σ : AS}
theorem AWp.sq {x y : ACode} {Q : Exit → AF → AS → Prop} (h : ∀ K : AF → AS → Prop, Cont K (AWp P inv w0 M N n y Q) → AWp P inv w0 M N n x (Then K Q) φ σ) : AWp P inv w0 M N n (.seq x y) Q φ σ := AWp.seq fun K hK => h K hK
theorem St.fsub' {φ' : AF} {β : Nat → Nat} {a : Act} {w : World} (hs : St inv w0 M n φ σ β a w) (h : fsub φ' φ) : St inv w0 M n φ' σ β a w :=
  ⟨⟨fun i => by
    rcases fsub_get h i with e | e
    · rw [e]; simp only [rel]
    · rw [e]; exact hs.slots i, hs.mem⟩, hs.size, hs.defers⟩
theorem AWp.less {φ' : AF} {c : ACode} {Q : Exit → AF → AS → Prop} (h : AWp P inv w0 M N n c Q φ' σ) (h1 : fsub φ' φ) : AWp P inv w0 M N n c Q φ σ :=
  fun c₀ hc β a w hs => h c₀ hc β a w (hs.fsub' h1)
theorem AWp.sqp (ks : List Nat) {x y : ACode} {Q : Exit → AF → AS → Prop} (h : ∀ K : AF → AS → Prop, Cont K (AWp P inv w0 M N n y Q) → AWp P inv w0 M N n x (Then (pk ks K) Q) φ σ) : AWp P inv w0 M N n (.seq x y) Q φ σ := by
  refine AWp.seq fun K hK => ?_
  refine AWp.mono ?_ (h (fun φ σ => ∀ φ0, fsub φ φ0 → K φ0 σ) fun φ σ hx φ0 hs => hK _ _ (hx.less hs))
  intro e φ σ q
  cases e with
  | normal => exact q _ (fpick_sub φ ks)
  | exit id => exact q
  | goto l => exact q
  | ret => exact q
  | panic ch => exact q
  | outgrown => exact q
theorem AWp.loopG {ι : Type} {x : ACode} {Q : Exit → AF → AS → Prop} (F : ι → AF) (S : ι → AS) (Inv : ι → Prop) (μ : ι → Nat) (s0 : ι) (hi : Inv s0) (h1 : fsub (F s0) φ) (h2 : ssub (S s0) σ)
    (hr : ∀ s, Inv s → AWp P inv w0 M N n x (Then (lend F S Inv μ s) Q) (F s) (S s)) : AWp P inv w0 M N n (.loop x) Q φ σ := by
  refine AWp.loop (fun m φ σ => ∃ s, m = μ s ∧ Inv s ∧ φ = F s ∧ σ = S s) (μ s0) ⟨_, _, ⟨s0, rfl, hi, rfl, rfl⟩, h1, h2⟩ ?_
  rintro m φ1 σ1 ⟨s, rfl, hs, rfl, rfl⟩
  refine AWp.mono ?_ (hr s hs)
  intro e φ2 σ2 q
  cases e with
  | normal =>
    obtain ⟨s', h1, h2, h3, h4⟩ := q
    exact ⟨_, _, _, h1, ⟨s', rfl, h2, rfl, rfl⟩, h3, h4⟩
  | exit id => exact q
  | goto l => exact q
  | ret => exact q
  | panic ch => exact q
  | outgrown => exact q
theorem PC.call1 (hM : ∀ b, M b → b < w0.heap.size) {j : Nat} {args : List AV} {r : AV} (h : PC P inv j args (· = r)) {K : AV → AS → Prop} (hk : K r σ) : CallK P inv w0 M N φ σ j args K := h.callK hM fun _ e => e ▸ hk
theorem PC.snap1 (hM : ∀ b, M b → b < w0.heap.size) (k : Nat) {j : Nat} {args args' : List AV} {r : AV} (h : PC P inv j args' (· = r)) (he : snaps k σ args = args') (hs : r.scalar = true) {K : AV → AS → Prop} (hk : K r σ) : CallK P inv w0 M N φ σ j args K :=
  PC.snapK hM k (R := (· = r)) (by rw [he]; exact h) fun _ e => ⟨e ▸ hs, e ▸ hk⟩
theorem PC.introQ {j : Nat} {F : AFn} (hF : Has P inv j F) {args : List AV} {R : AV → Prop} (hl : args.length ≤ F.ntmps)
    (h : ∀ (w0 : World) (M : Nat → Prop) (Q : Exit → AF → AS → Prop), (∀ b, M b → b < w0.heap.size) → (∀ φ σ r, fnRes φ σ F.res = some r → R (snap 4 σ r) → Q .ret φ σ) → (∀ φ σ, Q .ret φ σ → Q .normal φ σ) → AWp P inv w0 M 0 F.ntmps F.body Q (argF 0 args) []) : PC P inv j args R :=
  PC.intro hF hl fun w0 M hM => h w0 M _ hM (fun _ _ r h1 h2 => ⟨r, h1, h2⟩) fun _ _ h => h
end
end Go.Eng
