/-
  THE ENGINE, PART C: operations that reckon a value: what they are made into, what they give, and that they give it.
-/
import Derived.Test.YtclilifadifkgaaEngB
import Derived.Laws.StructEq
import Derived.Laws.Entries
namespace Go.Eng
open Go.RowKit

inductive Opd where
  | t (i : Nat)
  | c (x : AV)
  deriving Inhabited
def ev (φ : List (Nat × AV)) : Opd → AV
  | .t i => fget φ i
  | .c x => x

/-- What is compared: numbers; truth values; structs of numbers and truth values; pointers or functions with nil. -/
inductive ETy where | num | bool | flat (ks : List Bool) | ptr | fn | arr (n : Nat)
  deriving DecidableEq, Inhabited

inductive AVal where
  | mov (x : Opd)
  | pick (c a b : Opd)
  | bin (op : BinOp) (ty : ETy) (x y : Opd)
  | not (x : Opd)
  | conv (k : IntKind) (x : Opd)
  | load (n : Option Nat) (a : Opd)
  | fadr (a : Opd) (off : Nat)
  | iadr (x i : Opd) (sz : Nat) (arr : Option Nat)
  | fld (x : Opd) (off : Nat) (n : Option Nat)
  | idx (x i : Opd) (len sz : Nat) (ag : Bool)
  | len (x : Opd)
  | ext (x : Opd) (i : Nat)
  | mkfn (j : Nat) (caps : List Opd)
  | build (zero : List (Nat × AV)) (parts : List (Nat × Nat × Opd))
  | slc (x : Opd) (lo hi mx : Option Opd) (sz : Nat)
  | slca (x : Opd) (lo hi mx : Option Opd) (m sz : Nat)
  | nilck (x : Opd)
  | mnx (mn : Bool) (x y : Opd)
  | cap (x : Opd)
  | look (m k : Opd)
  deriving Inhabited

/-! ### what an operation is made into -/
section compile
variable (P : Program) (inv : Nat → Option Nat)

def siz (t : TypeId) : Option Nat := (P.info? t).map (·.size)
def lay (t : TypeId) : Option (Option Nat) :=
  match P.underlying t with
  | some (.struct _) => (siz P t).map some
  | some (.array _ _) => (siz P t).map some
  | some _ => some none
  | none => none
def runs : List (Nat × AV) → List AV
  | [] => []
  | (n, x) :: r => if n = 1 then x :: runs r else List.replicate n x ++ runs r
def zmC : AV → Value → Bool
  | .i k n, .int k' n' => decide (k = k') && decide (n = n')
  | .b a, .bool b => a == b
  | .s0 _, .slice none 0 0 => true
  | .v (.pointer none), .pointer none => true
  | .v (.map none), .map none => true
  | .v .nilFunc, .nilFunc => true
  | .v .nilIface, .nilIface => true
  | _, _ => false
def zmL : List AV → List Value → Bool
  | [], [] => true
  | x :: xs, y :: ys => zmC x y && zmL xs ys
  | _, _ => false
def zcells : Nat → TypeId → Option (List (Nat × AV))
  | 0, _ => none
  | n + 1, t =>
    match P.underlying t with
    | some (.int k) => some [(1, .i k 0)]
    | some .bool => some [(1, .b false)]
    | some (.slice e) => some [(1, .s0 (P.cellsOf e))]
    | some (.pointer _) => some [(1, .v (.pointer none))]
    | some (.map _ _) => some [(1, .v (.map none))]
    | some (.func _ _ _) => some [(1, .v .nilFunc)]
    | some (.interface _) => some [(1, .v .nilIface)]
    | some (.struct fs) => fs.toList.foldr (fun f r => match zcells n f.type, r with | some a, some b => some (a ++ b) | _, _ => none) (some [])
    | some (.array m e) => match zcells n e with
      | some [(1, x)] => some [(m, x)]
      | some r => some (List.replicate m r).flatten
      | none => none
    | _ => none
def zeroOf (t : TypeId) : Option (List (Nat × AV)) :=
  match zcells P 10 t, P.info? t with
  | some r, some i => match i.zero with
    | some z => if zmL (runs r) z.cells.toList then some r else none
    | none => none
  | _, _ => none
def cav (t : TypeId) : Value → Option AV
  | .int k n => some (.i k n)
  | .bool b => some (.b b)
  | .tuple vs => if vs.isEmpty then some .u else none
  | .slice none 0 0 => match P.underlying t with | some (.slice e) => some (.s0 (P.cellsOf e)) | _ => some (.s0 0)
  | .pointer none => some (.v (.pointer none))
  | .map none => some (.v (.map none))
  | .nilFunc => some (.v .nilFunc)
  | .nilIface => some (.v .nilIface)
  | _ => none
def copd (t : TypeId) : Operand → Option Opd
  | .tmp i => some (.t i)
  | .const v => (cav P t v).map .c
  | .func f => (inv f).map fun j => .c (.fn j [])
  | .global _ => none
def copt (t : TypeId) : Option Operand → Option (Option Opd)
  | none => some none
  | some x => (copd P inv t x).map some
def copds : List (TypeId × Operand) → Option (List Opd)
  | [] => some []
  | (t, x) :: r => match copd P inv t x, copds r with | some a, some b => some (a :: b) | _, _ => none
/-- The kinds of a struct's fields, each a number (true) or a truth value, one behind the other. -/
def flatFields : Nat → List Field → Option (List Bool)
  | _, [] => some []
  | k, f :: fs => if f.name ≠ "_" ∧ f.offset = k then
      match P.underlying f.type, flatFields (k + 1) fs with
      | some (.int _), some ks => some (true :: ks)
      | some .bool, some ks => some (false :: ks)
      | _, _ => none
    else none
def ety (t : TypeId) : Option ETy :=
  match P.underlying t with
  | some (.int _) => some .num
  | some .bool => some .bool
  | some (.struct fs) => if P.stoodInHeld t || P.eqGuardType P.depth t then none else (flatFields P 0 fs.toList).map .flat
  | some (.pointer _) => some .ptr
  | some (.func _ _ _) => some .fn
  | some (.array m e) => match P.underlying e with
    | some (.int _) => if P.eqGuardType P.depth t = false ∧ siz P e = some 1 then some (.arr m) else none
    | _ => none
  | _ => none
/-- The parts of a struct's or an array's literal: where each lies, how long it is. -/
def cparts (place : Nat → Option (Nat × Nat × TypeId)) : List (Nat × Operand) → Option (List (Nat × Nat × Opd))
  | [] => some []
  | (i, x) :: r => match place i with
    | some (off, n, t) => match copd P inv t x, cparts place r with | some a, some b => some ((off, n, a) :: b) | _, _ => none
    | none => none
def structPlace (fs : Array Field) (i : Nat) : Option (Nat × Nat × TypeId) :=
  match fs[i]? with
  | some f => (siz P f.type).map fun n => (f.offset, n, f.type)
  | none => none
def allSized (fs : List Field) : Bool := fs.all fun f => (P.info? f.type).isSome

def cbuiltin (ty : TypeId) (c : Call) : Option AVal :=
  match c.callee, c.args.toList, c.argTypes.toList with
  | .builtin .len, [x], [t] => match P.underlying t, copd P inv t x with
    | some (.slice _), some x => some (.len x)
    | some (.array n _), some _ => some (.mov (.c (.i .i64 n)))
    | _, _ => none
  | .builtin .cap, [x], [t] => match P.underlying t, copd P inv t x with
    | some (.slice _), some x => some (.cap x)
    | _, _ => none
  | .builtin .min, [x, y], _ => match copd P inv ty x, copd P inv ty y with | some x, some y => some (.mnx true x y) | _, _ => none
  | .builtin .max, [x, y], _ => match copd P inv ty x, copd P inv ty y with | some x, some y => some (.mnx false x y) | _, _ => none
  | _, _, _ => none
def compileVal (o : Oper) : Option AVal :=
  match o.op with
  | .move x => (copd P inv o.type x).map .mov
  | .assign x => (copd P inv o.type x).map .mov
  | .pick c a b => match copd P inv o.type c, copd P inv o.type a, copd P inv o.type b with | some c, some a, some b => some (.pick c a b) | _, _, _ => none
  | .binOp op t x y _ => match ety P t, copd P inv t x, copd P inv t y with | some e, some a, some b => some (.bin op e a b) | _, _, _ => none
  | .unOp .not _ x => (copd P inv o.type x).map .not
  | .convert src dst x => match P.underlying src, P.underlying dst, copd P inv src x with | some _, some (.int k), some a => some (.conv k a) | _, _, _ => none
  | .load t a => match lay P t, copd P inv o.type a with | some n, some a => some (.load n a) | _, _ => none
  | .fieldAddr s x f => match P.underlying s, copd P inv o.type x with
    | some (.struct fs), some x => match fs[f]? with
      | some fd => match siz P fd.type with
        | some n => if n = 0 then none else some (.fadr x fd.offset)
        | none => none
      | none => none
    | _, _ => none
  | .indexAddr t x i => match P.underlying t, copd P inv t x, copd P inv o.type i with
    | some (.slice e), some x, some i => (siz P e).map fun n => .iadr x i n none
    | some (.array m e), some x, some i => (siz P e).map fun n => .iadr x i n (some m)
    | _, _, _ => none
  | .field t x f => match P.underlying t, copd P inv t x with
    | some (.struct fs), some x => match fs[f]? with
      | some fd => (lay P fd.type).map fun n => .fld x fd.offset n
      | none => none
    | _, _ => none
  | .index t x i => match P.underlying t, copd P inv t x, copd P inv o.type i with
    | some (.array m e), some x, some i => match lay P e, siz P e with
      | some l, some n => some (.idx x i m n l.isSome)
      | _, _ => none
    | _, _, _ => none
  | .call c => cbuiltin P inv o.type c
  | .extract x i => (copd P inv o.type x).map fun x => .ext x i
  | .makeFunc (.func f) first captured => if first.isEmpty then match inv f, copds P inv (captured.toList.map fun x => (o.type, x)) with | some j, some l => some (.mkfn j l) | _, _ => none else none
  | .build t parts => match P.underlying t, zeroOf P t with
    | some (.struct fs), some z => if allSized P fs.toList then (cparts P inv (structPlace P fs) parts.toList).map (.build z) else none
    | some (.array _ e), some z => match siz P e with
      | some n => (cparts P inv (fun i => some (i * n, n, e)) parts.toList).map (.build z)
      | none => none
    | _, _ => none
  | .slice t x lo hi mx => match P.underlying t, copd P inv t x, copt P inv o.type lo, copt P inv o.type hi, copt P inv o.type mx with
    | some (.slice e), some x, some lo, some hi, some mx => (siz P e).map fun n => .slc x lo hi mx n
    | some (.array m e), some x, some lo, some hi, some mx => (siz P e).map fun n => .slca x lo hi mx m n
    | _, _, _, _, _ => none
  | .nilCheck x => (copd P inv o.type x).map .nilck
  | .lookup t x k false => match P.underlying t with
    | some (.map kt vt) => match P.underlying kt, (P.info? vt).bind (·.zero), copd P inv t x, copd P inv kt k with
      | some (.int .i64), some (.int .i64 0), some x, some k => some (.look x k)
      | _, _, _, _ => none
    | _ => none
  | _ => none
end compile

/-! ### what it gives -/
/-- Kept from being looked into. -/
inductive Tok {α : Type} (x : α) : Type
  | mk
/-- What must be so for X to be asked for. (Its own law strikes it where it is so.) -/
def ob (p X : Prop) (_ : Tok X := .mk) : Prop := p ∧ X
theorem ob_pos {p X : Prop} (h : p) : ob p X = X := by unfold ob; simp [h]
theorem ob_true (X : Prop) : ob True X = X := by unfold ob; simp
theorem ob_mk {p X : Prop} (h : p) (x : X) : ob p X := ⟨h, x⟩
/-- Two ways. -/
def pickB (t : Bool) (X Y : Prop) (_ : Tok X := .mk) (_ : Tok Y := .mk) : Prop := (t = true → X) ∧ (t = false → Y)
theorem pickB_true (X Y : Prop) : pickB true X Y = X := by unfold pickB; simp
theorem pickB_false (X Y : Prop) : pickB false X Y = Y := by unfold pickB; simp
theorem pickB_mk {t : Bool} {X Y : Prop} (h : t = true → X) (h' : t = false → Y) : pickB t X Y := ⟨h, h'⟩
/-- Something that must be there. -/
def obind {α : Type} (x : Option α) (K : α → Prop) (_ : Tok K := .mk) : Prop := match x with | some v => K v | none => False
theorem obind_some {α : Type} (v : α) (K : α → Prop) : obind (some v) K = K v := rfl
theorem obind_elim {α : Type} {x : Option α} {K : α → Prop} (h : obind x K) : ∃ v, x = some v ∧ K v := by cases x with | none => exact h.elim | some v => exact ⟨v, rfl, h⟩
def live (σ : AS) (l ver : Nat) : Prop := match sget σ l with | some (.cells cs _) => cs.length = ver | _ => False
def seg (cs : List AV) (off n : Nat) : List AV := (cs.drop off).take n
def AV.cells : AV → List AV | .agg cs => cs | x => [x]
def AV.one : AV → Bool
  | .i _ _ => true | .b _ => true | .s0 _ => true | .sl _ _ => true | .ip _ _ _ _ => true | .ptr _ _ _ => true | .sm _ _ _ _ _ => true | .fn _ _ => true | .mp _ => true
  | .v y => y.oneCell'
  | _ => false
def AV.sound : AV → Bool | .agg _ => true | x => x.one
def ovl : List AV → Nat → List AV → List AV
  | cs, _, [] => cs
  | cs, off, x :: xs => ovl (cs.set off x) (off + 1) xs
def fillA (φ : List (Nat × AV)) (cs : List AV) : List (Nat × Nat × Opd) → Option (List AV)
  | [] => some cs
  | (off, n, x) :: r => if (ev φ x).sound = true ∧ (ev φ x).cells.length = n ∧ off + n ≤ cs.length then fillA φ (ovl cs off (ev φ x).cells) r else none
def aloadC (cs : List AV) (off : Nat) : Option Nat → Option AV
  | none => cs[off]?
  | some m => if 0 < m ∧ off + m ≤ cs.length then some (.agg (seg cs off m)) else none
def aload (σ : List (Nat × AO)) (n : Option Nat) : AV → Option AV
  | .ptr l ver off => match sget σ l with
    | some (.cells cs _) => if cs.length = ver then aloadC cs off n else none
    | _ => none
  | .ip _ es i k => match es[i]? with
    | some r => aloadC r k n
    | none => none
  | _ => none
def eqC : List Bool → List AV → List AV → Option Bool
  | [], [], [] => some true
  | true :: ks, .i k a :: xs, .i k' b :: ys => if k = k' then (eqC ks xs ys).map fun t => decide (a = b) && t else none
  | false :: ks, .b a :: xs, .b b :: ys => (eqC ks xs ys).map fun t => decide (a = b) && t
  | _, _, _ => none
def arith (op : BinOp) (k : IntKind) (a b : Int) (K : AV → Prop) : Prop :=
  match op with
  | .add => K (.i k (k.wrap (a + b)))
  | .sub => K (.i k (k.wrap (a - b)))
  | .mul => K (.i k (k.wrap (a * b)))
  | .quo => ob (b ≠ 0) (K (.i k (k.wrap (a.tdiv b))))
  | .rem => ob (b ≠ 0) (K (.i k (a.tmod b)))
  | .eql => K (.b (decide (a = b)))
  | .neq => K (.b (!decide (a = b)))
  | .lss => K (.b (decide (a < b)))
  | .leq => K (.b (decide (a ≤ b)))
  | .gtr => K (.b (decide (b < a)))
  | .geq => K (.b (decide (b ≤ a)))
  | _ => False
def isNil : ETy → AV → AV → Option Bool
  | .ptr, .v (.pointer none), .v (.pointer none) => some true
  | .ptr, .v (.pointer none), .ip _ _ _ _ => some false
  | .ptr, .ip _ _ _ _, .v (.pointer none) => some false
  | .fn, .v .nilFunc, .v .nilFunc => some true
  | .fn, .v .nilFunc, .fn _ _ => some false
  | .fn, .fn _ _, .v .nilFunc => some false
  | _, _, _ => none
def abin (σ : List (Nat × AO)) (op : BinOp) (ty : ETy) (x y : AV) (K : AV → Prop) : Prop :=
  match x, y with
  | .i k a, .i k' b => match op with
    | .shr => ob (0 ≤ b) (K (.i k (a.fdiv (2 ^ min b.toNat k.bits))))
    | .shl => False
    | op => ob (k = k') (arith op k a b K)
  | .b a, .b b => ob (ty = .bool) (match op with | .eql => K (.b (decide (a = b))) | .neq => K (.b (!decide (a = b))) | _ => False)
  | .agg xs, .agg ys => match ty with
    | .flat ks => obind (eqC ks xs ys) fun t => (match op with | .eql => K (.b t) | .neq => K (.b (!t)) | _ => False)
    | .arr n => obind (eqC (List.replicate n true) xs ys) fun t => (match op with | .eql => K (.b t) | .neq => K (.b (!t)) | _ => False)
    | _ => False
  | .ptr l ver _, .v (.pointer none) => ob (ty = .ptr) (ob (live σ l ver) (match op with | .eql => K (.b false) | .neq => K (.b true) | _ => False))
  | x, y => obind (isNil ty x y) fun t => (match op with | .eql => K (.b t) | .neq => K (.b (!t)) | _ => False)
def mget : List (Int × Int) → Int → Int
  | [], _ => 0
  | p :: r, k => if k = p.1 then p.2 else mget r k
def mset : List (Int × Int) → Int → Int → List (Int × Int)
  | [], k, v => [(k, v)]
  | p :: r, k, v => if k = p.1 then (p.1, v) :: r else p :: mset r k v
def alook (σ : List (Nat × AO)) : AV → AV → Option AV
  | .mp l, .i .i64 a => match sget σ l with | some (.imap kvs) => some (.i .i64 (mget kvs a)) | _ => none
  | _, _ => none
def aslc (σ : List (Nat × AO)) (x : AV) (lo hi mx : Option AV) (sz : Nat) (K : AV → Prop) : Prop :=
  match mx with
  | some (.i _ m) => ob (m = 0) <| ob (hi = some (.i .i64 0)) <| ob (lo = none) (match x with
    | .sl _ _ => K (.s0 sz)
    | .s0 _ => K (.s0 sz)
    | .sm l ver _ _ _ => ob (live σ l ver) (K (.s0 sz))
    | _ => False)
  | some _ => False
  | none => match x with
    | .sl sz' es => ob (sz' = sz) (match lo, hi with
      | none, none => K (.sl sz es)
      | none, some (.i _ h) => ob (0 ≤ h ∧ h ≤ es.length) (K (.sl sz (es.take h.toNat)))
      | some (.i _ l), none => ob (0 ≤ l ∧ l ≤ es.length) (K (.sl sz (es.drop l.toNat)))
      | some (.i _ l), some (.i _ h) => ob (0 ≤ l ∧ l ≤ h ∧ h ≤ es.length) (K (.sl sz ((es.take h.toNat).drop l.toNat)))
      | _, _ => False)
    | .sm l ver off n sz' => ob (sz' = sz) <| ob (live σ l ver) (match lo, hi with
      | none, none => K (.sm l ver off n sz)
      | none, some (.i _ h) => ob (0 ≤ h ∧ h ≤ n) (K (.sm l ver off h.toNat sz))
      | some (.i _ a), none => ob (0 ≤ a ∧ a ≤ n) (K (.sm l ver (off + a.toNat * sz) (n - a.toNat) sz))
      | some (.i _ a), some (.i _ h) => ob (0 ≤ a ∧ a ≤ h ∧ h ≤ n) (K (.sm l ver (off + a.toNat * sz) (h.toNat - a.toNat) sz))
      | _, _ => False)
    | .s0 _ => (match lo, hi with
      | none, none => K (.s0 sz)
      | none, some (.i _ h) => ob (h = 0) (K (.s0 sz))
      | some (.i _ a), none => ob (a = 0) (K (.s0 sz))
      | some (.i _ a), some (.i _ h) => ob (a = 0 ∧ h = 0) (K (.s0 sz))
      | _, _ => False)
    | _ => False

def aval (φ : List (Nat × AV)) (σ : List (Nat × AO)) (e : AVal) (K : AV → Prop) : Prop :=
  match e with
  | .mov x => K (ev φ x)
  | .pick c a b => match ev φ c with
    | .b t => pickB t (K (ev φ a)) (K (ev φ b))
    | _ => False
  | .bin op ty x y => abin σ op ty (ev φ x) (ev φ y) K
  | .not x => match ev φ x with
    | .b t => K (.b (!t))
    | _ => False
  | .conv k x => match ev φ x with
    | .i _ n => K (.i k (k.wrap n))
    | _ => False
  | .load n a => obind (aload σ n (ev φ a)) K
  | .fadr a off => match ev φ a with
    | .ptr l ver o => ob (live σ l ver) (K (.ptr l ver (o + off)))
    | .ip sz es i k => K (.ip sz es i (k + off))
    | _ => False
  | .iadr x i sz arr => match ev φ i with
    | .i _ j => match ev φ x, arr with
      | .sl sz' es, none => ob (sz' = sz) <| ob (0 ≤ j ∧ j < es.length) (K (.ip sz es j.toNat 0))
      | .sm l ver off n sz', none => ob (sz' = sz) <| ob (live σ l ver) <| ob (0 ≤ j ∧ j < n) (K (.ptr l ver (off + j.toNat * sz)))
      | .ptr l ver off, some n => ob (live σ l ver) <| ob (0 ≤ j ∧ j < n) (K (.ptr l ver (off + j.toNat * sz)))
      | .ip sz' es i' k, some n => ob (0 ≤ j ∧ j < n) (K (.ip sz' es i' (k + j.toNat * sz)))
      | _, _ => False
    | _ => False
  | .fld x off n => match ev φ x with
    | .agg cs => match n with
      | none => obind cs[off]? K
      | some m => K (.agg (seg cs off m))
    | _ => False
  | .idx x i len sz ag => match ev φ x, ev φ i with
    | .agg cs, .i _ j => ob (0 ≤ j ∧ j < len) (match ag with
      | true => K (.agg (seg cs (j.toNat * sz) sz))
      | false => obind cs[j.toNat * sz]? K)
    | _, _ => False
  | .len x => match ev φ x with
    | .sl _ es => K (.i .i64 es.length)
    | .s0 _ => K (.i .i64 0)
    | .sm l ver _ n _ => ob (live σ l ver) (K (.i .i64 n))
    | _ => False
  | .ext x i => match ev φ x with
    | .tup vs => obind vs[i]? K
    | _ => False
  | .mkfn j caps => K (.fn j (caps.map (ev φ)))
  | .build zero parts => obind (fillA φ (runs zero) parts) fun cs => K (.agg cs)
  | .slc x lo hi mx sz => aslc σ (ev φ x) (lo.map (ev φ)) (hi.map (ev φ)) (mx.map (ev φ)) sz K
  | .slca x lo hi mx m sz => match ev φ x with
    | .ptr l ver off => ob (live σ l ver) <| ob (0 < ver ∧ off + m * sz ≤ ver) <| aslc σ (.sm l ver off m sz) (lo.map (ev φ)) (hi.map (ev φ)) (mx.map (ev φ)) sz K
    | _ => False
  | .nilck x => match ev φ x with
    | .ptr l ver off => ob (live σ l ver) (K (.ptr l ver off))
    | .ip sz es i k => K (.ip sz es i k)
    | .fn j cs => K (.fn j cs)
    | _ => False
  | .mnx mn x y => match ev φ x, ev φ y with
    | .i k a, .i k' b => ob (k = k') <| K (.i k (if mn = true then (if b < a then b else a) else (if a < b then b else a)))
    | _, _ => False
  | .cap x => match ev φ x with
    | .s0 _ => K (.i .i64 0)
    | _ => False
  | .look m k => obind (alook σ (ev φ m) (ev φ k)) K
end Go.Eng
