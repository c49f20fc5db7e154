/-
  THE ENGINE, PART H: operations that write or make memory, calls, code, functions: what they are made into; what they come to.
-/
import Derived.Test.YtclilifadifkgaaEngG
namespace Go.Eng
open Go.RowKit

inductive AOp where
  | set (d : Nat) (e : AVal)
  | alloc (d : Nat) (zero : List (Nat × AV))
  | box (d n : Nat) (x : Opd)
  | isnil (d : Nat) (neg : Bool) (x : Opd)
  | mks0 (d sz : Nat)
  | mksl (d sz len : Nat) (zero : List (Nat × AV)) (parts : List (Nat × Nat × Opd))
  | store (n : Nat) (a x : Opd)
  | app (d : Nat) (s x : Opd) (sz : Nat)
  | make (d : Nat) (len cap : Opd) (zero : List (Nat × AV)) (sz : Nat)
  | call (d : Option Nat) (j : Nat) (args : List Opd)
  | calv (d : Option Nat) (f : Opd) (args : List Opd)
  | callp (d j : Nat) (args : List Opd)
  | gal (d back : Nat) (zero : List (Nat × AV))
  | storeA (n : Nat) (a x : Opd) (pts : List Opd)
  | bad (d : Option Nat)
  | mkmap (d : Nat)
  | mapset (m k v : Opd)
  | appz (d : Nat) (s n : Opd) (zero : List (Nat × AV)) (sz : Nat)
  | calle (d : Option Nat) (j : Nat) (args : List Opd)
  | calve (d : Option Nat) (f : Opd) (args : List Opd)
  | appe (d : Nat) (s x : Opd) (sz : Nat)
  deriving Inhabited
def AOp.dst : AOp → Option Nat
  | .set d _ => some d | .alloc d _ => some d | .box d _ _ => some d | .isnil d _ _ => some d | .mks0 d _ => some d | .mksl d _ _ _ _ => some d | .store _ _ _ => none | .app d _ _ _ => some d | .make d _ _ _ _ => some d
  | .call d _ _ => d | .calv d _ _ => d | .callp d _ _ => some d | .gal d _ _ => some d | .storeA _ _ _ _ => none | .bad d => d | .mkmap d => some d | .mapset _ _ _ => none | .appz d _ _ _ _ => some d | .calle d _ _ => d | .calve d _ _ => d | .appe d _ _ _ => some d
abbrev GOp := Option (Nat × Bool) × AOp
inductive ACode where
  | skip
  | reg (ops : List GOp)
  | regd (k : Nat) (ops : List GOp)
  | seq (x y : ACode)
  | cond (c : Opd) (x y : ACode)
  | block (id : Nat) (c : ACode)
  | loop (c : ACode)
  | exit (id : Nat)
  | ret
  | scope (c : ACode)
  | label (l : Nat)
  | goto (l : Nat)
  deriving Inhabited
inductive ARes where
  | tmp (t : Nat)
  | cell (t : Nat) (l : Option Nat)
  deriving Inhabited
structure AFn where
  ntmps : Nat
  res : List ARes
  body : ACode
  deriving Inhabited

/-! ### a region whose order is drawn: the order that is walked, what must be so of it -/
def Opd.rd : Opd → List Nat | .t i => [i] | .c _ => []
def optRd : Option Opd → List Nat | some x => x.rd | none => []
def opdsRd : List Opd → List Nat | [] => [] | x :: r => x.rd ++ opdsRd r
def partsRd : List (Nat × Nat × Opd) → List Nat | [] => [] | (_, _, x) :: r => x.rd ++ partsRd r
def AVal.rd : AVal → List Nat
  | .mov x => x.rd | .pick c a b => c.rd ++ (a.rd ++ b.rd) | .bin _ _ x y => x.rd ++ y.rd | .not x => x.rd | .conv _ x => x.rd | .load _ a => a.rd | .fadr a _ => a.rd
  | .iadr x i _ _ => x.rd ++ i.rd | .fld x _ _ => x.rd | .idx x i _ _ _ => x.rd ++ i.rd | .len x => x.rd | .ext x _ => x.rd | .mkfn _ l => opdsRd l | .build _ ps => partsRd ps
  | .slc x lo hi mx _ => x.rd ++ (optRd lo ++ (optRd hi ++ optRd mx)) | .slca x lo hi mx _ _ => x.rd ++ (optRd lo ++ (optRd hi ++ optRd mx)) | .nilck x => x.rd | .mnx _ x y => x.rd ++ y.rd | .cap x => x.rd | .look m k => m.rd ++ k.rd
def AOp.rd : AOp → List Nat
  | .set _ e => e.rd | .alloc _ _ => [] | .box _ _ x => x.rd | .isnil _ _ x => x.rd | .mks0 _ _ => [] | .mksl _ _ _ _ ps => partsRd ps | .store _ a x => a.rd ++ x.rd | .app _ s x _ => s.rd ++ x.rd | .make _ l c _ _ => l.rd ++ c.rd
  | .call _ _ l => opdsRd l | .calv _ f l => f.rd ++ opdsRd l | .callp _ _ l => opdsRd l | .gal _ _ _ => [] | .storeA _ a x _ => a.rd ++ x.rd | .bad _ => [] | .mkmap _ => [] | .mapset m k v => m.rd ++ (k.rd ++ v.rd) | .appz _ s n _ _ => s.rd ++ n.rd | .calle _ _ l => opdsRd l | .calve _ f l => f.rd ++ opdsRd l | .appe _ s x _ => s.rd ++ x.rd
def grd (g : GOp) : List Nat := match g.1 with | some (s, _) => s :: g.2.rd | none => g.2.rd
def memN : List Nat → Nat → Bool
  | [], _ => false
  | x :: r, i => Nat.beq x i || memN r i
def isVal : AOp → Bool | .set _ _ => true | .callp _ _ _ => true | _ => false
def isGal : GOp → Bool | (none, .gal _ _ _) => true | _ => false
def isStore : AOp → Bool | .store _ _ _ => true | .storeA _ _ _ _ => true | .mapset _ _ _ => true | _ => false
def isEff : AOp → Bool | .calle _ _ _ => true | .calve _ _ _ => true | .appe _ _ _ _ => true | _ => false
/-- The same, without what it must not meet. -/
def plain : AOp → AOp | .storeA n a x _ => .store n a x | o => o
def plainG (g : GOp) : GOp := (g.1, plain g.2)
def ptsOf : AOp → List Opd | .storeA _ _ _ pts => pts | _ => []
def ldPt : AOp → List Opd → Bool
  | .set _ (.load _ (.t s)), pts => pts.any fun q => match q with | .t s' => Nat.beq s s' | .c _ => false
  | _, _ => false
def isLdS : AOp → Bool | .set _ (.load _ _) => true | _ => false
def isLd : AVal → Bool | .load _ _ => true | .look _ _ => true | _ => false
def isLdO : AOp → Bool | .set _ e => isLd e | .callp _ _ _ => true | _ => false
def dstNe (a b : Option Nat) : Bool := match a, b with | some a, some b => !Nat.beq a b | _, _ => true
def dstIn (l : List Nat) (d : Option Nat) : Bool := match d with | some d => memN l d | none => false
def preds (o : Oper) : List Nat := (o.after.toList.filter fun e => Region.binds .any e).map (·.on)
def allIn (bits : Nat) : List Nat → Bool
  | [] => true
  | p :: r => bits.testBit p && allIn bits r
def gAt (gs : List GOp) (i : Nat) : GOp := gs[i]?.getD (none, .set 0 (.mov (.c .u)))
def nextOf (gs : List GOp) (prs : List (List Nat)) (bits : Nat) : Bool → List Nat → Option Nat
  | _, [] => none
  | v, i :: r => if !bits.testBit i && allIn bits (prs[i]?.getD []) && (!v || isVal (gAt gs i).2) then some i else nextOf gs prs bits v r
def canonGo (gs : List GOp) (prs : List (List Nat)) (is : List Nat) : Nat → Nat → List Nat
  | 0, _ => []
  | k + 1, bits => match nextOf gs prs bits true is with
    | some i => i :: canonGo gs prs is k (bits ||| 2 ^ i)
    | none => match nextOf gs prs bits false is with
      | some i => i :: canonGo gs prs is k (bits ||| 2 ^ i)
      | none => []
def orBits : List Nat → Nat
  | [] => 0
  | x :: r => x ||| orBits r
def predBits : List Nat → List Nat → Nat
  | _, [] => 0
  | acc, p :: r => (2 ^ p ||| (acc[p]?.getD 0)) ||| predBits acc r
def ancGo : List Nat → List (List Nat) → List Nat
  | acc, [] => acc
  | acc, ps :: r => ancGo (acc ++ [predBits acc ps]) r
def isAnc (anc : List Nat) (i a : Nat) : Bool := (anc[i]?.getD 0).testBit a
def pairOk (gs : List GOp) (anc : List Nat) (j i : Nat) : Bool :=
  !Nat.beq j i && dstNe (gAt gs j).2.dst (gAt gs i).2.dst && (!isLdS (gAt gs j).2 || !dstIn (grd (gAt gs j)) (gAt gs i).2.dst) &&
    ((ldPt (gAt gs j).2 (ptsOf (gAt gs i).2) && !isEff (gAt gs i).2 && !dstIn (grd (gAt gs i)) (gAt gs j).2.dst && !dstIn (grd (gAt gs j)) (gAt gs i).2.dst && !dstIn (grd (gAt gs j)) (gAt gs j).2.dst) || isAnc anc i j || (isGal (gAt gs j) && isGal (gAt gs i)) || (isVal (gAt gs j).2 && !isEff (gAt gs i).2 && !(isStore (gAt gs i).2 && isLdO (gAt gs j).2) && !dstIn (grd (gAt gs i)) (gAt gs j).2.dst && !dstIn (grd (gAt gs j)) (gAt gs i).2.dst))
def pairsOk (gs : List GOp) (anc : List Nat) : List Nat → Bool
  | [] => true
  | j :: r => (r.all fun i => pairOk gs anc j i) && pairsOk gs anc r
def predsOk (prs : List (List Nat)) : List Nat → List Nat → Bool
  | _, [] => true
  | pre, i :: r => ((prs[i]?.getD []).all fun p => memN pre p) && predsOk prs (i :: pre) r
def coverOk (ord : List Nat) (n : Nat) : Bool := (List.range n).all fun i => memN ord i
def ancOk (prs : List (List Nat)) (anc : List Nat) (n : Nat) : Bool := (List.range n).all fun i => (List.range n).all fun a => !isAnc anc i a || (prs[i]?.getD []).any fun p => Nat.beq p a || isAnc anc p a
def insideOk (ord : List Nat) (n : Nat) : Bool := ord.all fun i => Nat.blt i n
def drawOk (gs : List GOp) (prs : List (List Nat)) (anc ord : List Nat) (n : Nat) : Bool :=
  pairsOk gs anc ord && predsOk prs [] ord && coverOk ord n && ancOk prs anc n && insideOk ord n

section compile
variable (P : Program) (inv : Nat → Option Nat) (n : Nat)
def ccall (ty : TypeId) (d : Option Nat) (c : Call) : Option AOp :=
  match c.callee with
  | .value (.func g) => match inv g, copds P inv (c.argTypes.toList.zip c.args.toList) with
    | some j, some l => if c.argTypes.size = c.args.size then some (.call d j l) else none
    | _, _ => none
  | .value f => match copd P inv ty f, copds P inv (c.argTypes.toList.zip c.args.toList) with
    | some f, some l => if c.argTypes.size = c.args.size then some (.calv d f l) else none
    | _, _ => none
  | .builtin .append => match d, c.args.toList, c.argTypes.toList with
    | some d, [s, x], [t, u] => match P.underlying t, P.underlying u, copd P inv t s, copd P inv u x with
      | some (.slice e), some (.slice _), some s, some x => match P.info? e with
        | some i => match i.zero with
          | some z => if 0 < i.size ∧ z.cells.size = i.size ∧ i.bytes ≤ 32768 then some (.app d s x i.size) else none
          | none => none
        | none => none
      | some (.slice e), some (.int _), some s, some x => match P.info? e, zeroOf P e with
        | some i, some z => if 0 < i.size ∧ (runs z).length = i.size ∧ i.bytes ≤ 32768 then some (.appz d s x z i.size) else none
        | _, _ => none
      | _, _, _, _ => none
    | _, _, _ => none
  | _ => none
def compileEff (o : Oper) : Option AOp :=
  match o.op with
  | .alloc t => (zeroOf P t).map (.alloc (o.dst.getD 0))
  | .box t x => match siz P t, copd P inv t x with | some k, some x => some (.box (o.dst.getD 0) k x) | _, _ => none
  | .binOp op t x (.const (.slice none 0 0)) _ => match P.underlying t with
    | some (.slice _) => match op, copd P inv t x with
      | .eql, some x => some (.isnil (o.dst.getD 0) false x)
      | .neq, some x => some (.isnil (o.dst.getD 0) true x)
      | _, _ => none
    | _ => none
  | .buildSlice t len parts => if len = 0 ∧ parts.isEmpty = true then (match P.underlying t with
    | some (.slice e) => (siz P e).map (.mks0 (o.dst.getD 0))
    | _ => none) else match P.underlying t with
    | some (.slice e) => match siz P e, zeroOf P e with
      | some k, some z => match cparts P inv (fun i => some (i * k, k, e)) parts.toList with
        | some ps => if 0 < k ∧ 0 < len ∧ len * k ≤ 16777216 ∧ (runs z).length = k then some (.mksl (o.dst.getD 0) k len z ps) else none
        | none => none
      | _, _ => none
    | _ => none
  | .store t a x => match siz P t, copd P inv o.type a, copd P inv t x with | some k, some a, some x => some (.store k a x) | _, _, _ => none
  | .makeSlice t l c => match P.underlying t with
    | some (.slice e) => match P.info? e, zeroOf P e, copd P inv o.type l, copd P inv o.type c with
      | some i, some z, some l, some c => if 0 < i.size ∧ (runs z).length = i.size ∧ i.bytes ≤ 32768 then some (.make (o.dst.getD 0) l c z i.size) else none
      | _, _, _, _ => none
    | _ => none
  | .call c => ccall P inv o.type o.dst c
  | .makeMap _ none => some (.mkmap (o.dst.getD 0))
  | .mapUpdate t m k v => match P.underlying t with
    | some (.map kt vt) => match P.underlying kt, copd P inv t m, copd P inv kt k, copd P inv vt v with
      | some (.int .i64), some m, some k, some v => some (.mapset m k v)
      | _, _, _, _ => none
    | _ => none
  | _ => none
def dstOk : Option Nat → Bool
  | some d => decide (d < n)
  | none => true
def compileOp (o : Oper) : Option AOp :=
  match compileVal P inv o with
  | some e => match o.dst with
    | some d => if d < n then some (.set d e) else none
    | none => none
  | none => match compileEff P inv o with
    | some op => if op.dst = o.dst ∧ dstOk n o.dst = true then some op else none
    | none => if dstOk n o.dst = true then some (.bad o.dst) else none
def cguard (ops : Array Oper) : Option (Nat × Bool) → Option (Option (Nat × Bool))
  | none => some none
  | some (j, want) => match (ops[j]?).bind (·.dst) with
    | some s => if s < n then some (some (s, want)) else none
    | none => none
def compileOps (ops : Array Oper) : List Oper → Option (List GOp)
  | [] => some []
  | o :: r => match cguard n ops o.guard, compileOp P inv n o, compileOps ops r with
    | some g, some x, some l => some ((g, x) :: l)
    | _, _, _ => none
def nAlloc : List GOp → Nat
  | [] => 0
  | (none, .alloc _ _) :: r => nAlloc r + 1
  | _ :: r => nAlloc r
def ptsAt (gs : List GOp) (anc : List Nat) (i : Nat) : List Nat → List Opd
  | [] => []
  | j :: r => if Nat.beq j i = true then [] else match (gAt gs j).2 with
    | .set _ (.load _ p) => if isAnc anc i j = true then ptsAt gs anc i r else p :: ptsAt gs anc i r
    | _ => ptsAt gs anc i r
/-- A store that may come ahead of a load: it must not meet it. -/
def addPt (gs : List GOp) (anc ord : List Nat) (i : Nat) : GOp := match gAt gs i with
  | (g, .store n a x) => (g, .storeA n a x (ptsAt gs anc i ord))
  | g => g
def addPts (gs : List GOp) (anc ord : List Nat) : List GOp := (List.range gs.length).map (addPt gs anc ord)
def anchored (anc : List Nat) (i : Nat) (ord : List Nat) : Bool := ord.all fun k => Nat.beq k i || isAnc anc i k || isAnc anc k i
/-- A call which nothing may overtake: it may write. -/
def effOp (anc ord : List Nat) (i : Nat) (g : GOp) : GOp := match anchored anc i ord, g with
  | true, (gd, .call d j l) => (gd, .calle d j l)
  | true, (gd, .calv d f l) => (gd, .calve d f l)
  | true, (gd, .app d s x sz) => (gd, .appe d s x sz)
  | _, g => g
def effs (gs : List GOp) (anc ord : List Nat) : List GOp := (List.range gs.length).map fun i => effOp anc ord i (gAt gs i)
/-- Calls as values; new variables under names that are kept for them. -/
def pureL (k : Nat) : Nat → List GOp → List GOp
  | _, [] => []
  | c, (none, .alloc d z) :: r => (none, .gal d (k - c) z) :: pureL k (c + 1) r
  | c, (g, .call (some d) j l) :: r => (g, .callp d j l) :: pureL k c r
  | c, g :: r => g :: pureL k c r
def drawn (prs : List (List Nat)) (gs : List GOp) (k : Nat) : Option ACode :=
  let anc := ancGo [] prs
  let ord := canonGo gs prs (List.range gs.length) gs.length 0
  if drawOk (effs gs anc ord) prs anc ord gs.length then some (.regd k (ord.map (gAt (effs gs anc ord))))
  else if drawOk (addPts (effs gs anc ord) anc ord) prs anc ord gs.length then some (.regd k (ord.map (gAt (addPts (effs gs anc ord) anc ord)))) else none
def compileD (ops : Array Oper) : Option ACode :=
  match compileOps P inv n ops ops.toList with
  | some gs => match drawn (ops.toList.map preds) gs 0 with
    | some c => some c
    | none => drawn (ops.toList.map preds) (pureL (nAlloc gs) 0 gs) (nAlloc gs)
  | none => none
def compileC : Code → Option ACode
  | .skip => some .skip
  | .region _ ops false => (compileOps P inv n ops ops.toList).map .reg
  | .region _ ops true => compileD P inv n ops
  | .seq x y => match compileC x, compileC y with | some x, some y => some (.seq x y) | _, _ => none
  | .cond c x y => match copd P inv 0 c, compileC x, compileC y with | some c, some x, some y => some (.cond c x y) | _, _, _ => none
  | .block id c => (compileC c).map (.block id)
  | .loop c => (compileC c).map .loop
  | .exit id => some (.exit id)
  | .ret => some .ret
  | .scope c => (compileC c).map .scope
  | .label l => some (.label l)
  | .goto l => some (.goto l)
  | _ => none
def cres : List ResultVar → Option (List ARes)
  | [] => some []
  | .tmp t :: r => (cres r).map (.tmp t :: ·)
  | .cell t ty :: r => match lay P ty, cres r with | some l, some r => some (.cell t l :: r) | _, _ => none
def compileFn (fn : Func) : Option AFn :=
  match fn.body, cres P fn.results.toList with
  | some c, some r => (compileC P inv fn.ntmps c).map fun c => ⟨fn.ntmps, r, c⟩
  | _, _ => none
end compile

/-- The program draws each order that may be; each function that has a name here has a body. -/
def Callable (P : Program) (inv : Nat → Option Nat) : Prop := P.follows .mixedOrders = true ∧ ∀ g j, inv g = some j → ∃ fn, P.funcs[g]? = some fn ∧ fn.body.isNone = false ∧ (fn.name == "runtime.NumGoroutine") = false
/-- The function that is called j here is F. -/
def Has (P : Program) (inv : Nat → Option Nat) (j : Nat) (F : AFn) : Prop := ∀ g, inv g = some j → ∃ fn, P.funcs[g]? = some fn ∧ compileFn P inv fn = some F

/-! ### what it comes to -/
section
variable (P : Program) (inv : Nat → Option Nat) (w0 : World) (M : Nat → Prop)

/-- A call of the function j: whoever has names below N keeps them. -/
def AC (N : Nat) (j : Nat) (args : List AV) (σ : AS) (R : AV → AS → Prop) : Prop :=
  ∀ g, inv g = some j → ∀ (β : Nat → Nat) (w : World) (vs : Array Value), Mem inv w0 M σ β w → relL (ctx inv M σ β w) args vs.toList →
    Calls P g vs w fun e w' => ∃ v r σ' β', e = .returned v ∧ R r σ' ∧ Mem inv w0 M σ' β' w' ∧ Ext N (ctx inv M σ β w) (ctx inv M σ' β' w') ∧ rel (ctx inv M σ' β' w') r v
def CallK (N : Nat) (φ : AF) (σ : AS) (j : Nat) (args : List AV) (R : AV → AS → Prop) (_ : Tok R := .mk) : Prop := ∃ N', N ≤ N' ∧ fbound φ ≤ N' ∧ AC P inv w0 M N' j args σ R
def putO (φ : AF) (d : Option Nat) (x : AV) : AF := match d with | some d => fput φ d x | none => φ

/-- What is put behind: how many elements, their cells. -/
def asrc (σ : AS) (sz : Nat) : AV → (Nat → List AV → Prop) → Prop
  | .s0 _, K => K 0 []
  | .sl sz' es, K => ob (sz' = sz) (K es.length es.flatten)
  | .sm l ver off n sz', K => ob (sz' = sz) (match sget σ l with
    | some (.cells cs _) => ob (cs.length = ver) (K n (seg cs off (n * sz)))
    | _ => False)
  | _, _ => False
def aapp (φ : AF) (σ : AS) (l : Nat) (d sz : Nat) (dest : AV) (m : Nat) (new : List AV) (K : AF → AS → Prop) : Prop :=
  match dest with
  | .s0 _ => ob (m ≤ 2147483648) <| K (fput φ d (.sm l (m * sz) 0 m sz)) (sput σ l (.cells new (decide (0 < m))))
  | .sm l ver off n sz' => ob (sz' = sz) <| ob (off = 0) <| ob (n * sz = ver) <| ob (n + m ≤ 2147483648) (match sget σ l with
    | some (.cells cs r) => ob (cs.length = ver) <| K (fput φ d (.sm l ((n + m) * sz) 0 (n + m) sz)) (sput σ l (.cells (cs ++ new) (r || decide (0 < m))))
    | _ => False)
  | _ => False
/-- All that was there is there. -/
def SLe (σ σ' : List (Nat × AO)) : Prop := ∀ l o, sget σ l = some o → o ≠ .rsv → sget σ' l = some o
/-- A call whose answer is the same whenever it is made. -/
def PureK (σ : AS) (j : Nat) (args : List AV) (K : AV → Prop) (_ : Tok K := .mk) : Prop := ∃ r, (∀ N' φ' σ', SLe σ σ' → CallK P inv w0 M N' φ' σ' j args fun r' σ'' => r' = r ∧ σ'' = σ') ∧ K r
/-- Names are kept for what is to come. -/
def reserve (b : Nat) : Nat → List (Nat × AO) → List (Nat × AO)
  | 0, σ => σ
  | k + 1, σ => sput (reserve b k σ) (b + k) .rsv
/-- Whether there is nothing: of no elements it is not known. -/
def nilK (n : Nat) (neg : Bool) (K : Bool → Prop) (_ : Tok K := .mk) : Prop := (n = 0 → K (!neg)) ∧ K neg
def awayV (l : Nat) : AV → Bool | .ptr l' _ _ => !Nat.beq l' l | _ => true
def awayL (φ : AF) (l : Nat) (pts : List Opd) : Bool := pts.all fun p => awayV l (ev φ p)
def aop (N : Nat) (o : AOp) (φ : AF) (σ : AS) (K : AF → AS → Prop) : Prop :=
  match o with
  | .set d e => aval φ σ e fun x => K (fput φ d x) σ
  | .alloc d zero => K (fput φ d (.ptr (fresh N φ σ) (runs zero).length 0)) (sput σ (fresh N φ σ) (.cells (runs zero) true))
  | .box d n x => ob ((ev φ x).sound = true) <| ob ((ev φ x).cells.length = n) <| K (fput φ d (.ptr (fresh N φ σ) n 0)) (sput σ (fresh N φ σ) (.cells (ev φ x).cells true))
  | .isnil d neg x => match ev φ x with
    | .sl _ es => nilK es.length neg fun t => K (fput φ d (.b t)) σ
    | .s0 _ => nilK 0 neg fun t => K (fput φ d (.b t)) σ
    | .sm l ver _ n _ => ob (live σ l ver) <| nilK n neg fun t => K (fput φ d (.b t)) σ
    | _ => False
  | .mks0 d sz => K (fput φ d (.s0 sz)) σ
  | .mksl d sz len zero parts => obind (fillA φ (List.replicate len (runs zero)).flatten parts) fun cs =>
    match AV.bareL cs with
    | true => K (fput φ d (.sl sz (chunks sz len cs))) σ
    | false => K (fput φ d (.sm (fresh N φ σ) (len * sz) 0 len sz)) (sput σ (fresh N φ σ) (.cells cs true))
  | .store n a x => match ev φ a with
    | .ptr l ver off => match sget σ l with
      | some (.cells cs r) => ob (cs.length = ver) <| ob ((ev φ x).sound = true) <| ob ((ev φ x).cells.length = n) <| ob (0 < n ∧ off + n ≤ ver) <| K φ (sput σ l (.cells (ovl cs off (ev φ x).cells) r))
      | _ => False
    | _ => False
  | .app d s x sz => asrc σ sz (ev φ x) fun m new => aapp φ σ (fresh N φ σ) d sz (ev φ s) m new K
  | .make d len cap zero sz => match ev φ len, ev φ cap with
    | .i _ a, .i _ c => ob (0 ≤ a ∧ a ≤ c ∧ c ≤ 2147483648) <| K (fput φ d (.sm (fresh N φ σ) (a.toNat * sz) 0 a.toNat sz)) (sput σ (fresh N φ σ) (.cells (List.replicate a.toNat (runs zero)).flatten true))
    | _, _ => False
  | .call d j args => CallK P inv w0 M N φ σ j (args.map (ev φ)) fun r σ' => K (putO φ d r) σ'
  | .calv d f args => match ev φ f with
    | .fn j caps => CallK P inv w0 M N φ σ j (args.map (ev φ) ++ caps) fun r σ' => K (putO φ d r) σ'
    | _ => False
  | .callp d j args => PureK P inv w0 M σ j (args.map (ev φ)) fun r => K (fput φ d r) σ
  | .gal d back zero => match sget σ (N - back) with
    | some .rsv => ob (0 < (runs zero).length) <| K (fput φ d (.ptr (N - back) (runs zero).length 0)) (sput σ (N - back) (.cells (runs zero) true))
    | _ => False
  | .storeA n a x pts => match ev φ a with
    | .ptr l ver off => ob (awayL φ l pts = true) (match sget σ l with
      | some (.cells cs r) => ob (cs.length = ver) <| ob ((ev φ x).sound = true) <| ob ((ev φ x).cells.length = n) <| ob (0 < n ∧ off + n ≤ ver) <| K φ (sput σ l (.cells (ovl cs off (ev φ x).cells) r))
      | _ => False)
    | _ => False
  | .bad _ => False
  | .calle d j args => CallK P inv w0 M N φ σ j (args.map (ev φ)) fun r σ' => K (putO φ d r) σ'
  | .calve d f args => match ev φ f with
    | .fn j caps => CallK P inv w0 M N φ σ j (args.map (ev φ) ++ caps) fun r σ' => K (putO φ d r) σ'
    | _ => False
  | .appe d s x sz => asrc σ sz (ev φ x) fun m new => aapp φ σ (fresh N φ σ) d sz (ev φ s) m new K
  | .mkmap d => K (fput φ d (.mp (fresh N φ σ))) (sput σ (fresh N φ σ) (.imap []))
  | .mapset m k v => match ev φ m, ev φ k, ev φ v with
    | .mp l, .i .i64 a, .i .i64 b => (match sget σ l with
      | some (.imap kvs) => K φ (sput σ l (.imap (mset kvs a b)))
      | _ => False)
    | _, _, _ => False
  | .appz d s n zero sz => match ev φ s, ev φ n with
    | .s0 _, .i .i64 a => ob (0 ≤ a ∧ a ≤ 2147483648) <| K (fput φ d (.sm (fresh N φ σ) (a.toNat * sz) 0 a.toNat sz)) (sput σ (fresh N φ σ) (.cells (List.replicate a.toNat (runs zero)).flatten (decide (0 < a.toNat))))
    | _, _ => False
def awpOps (N : Nat) : List GOp → (AF → AS → Prop) → AF → AS → Prop
  | [], K, φ, σ => K φ σ
  | (none, o) :: r, K, φ, σ => aop P inv w0 M N o φ σ (awpOps N r K)
  | (some (s, true), o) :: r, K, φ, σ => match fget φ s with
    | .b t => pickB t (aop P inv w0 M N o (fref φ s (.b true)) σ (awpOps N r K)) (awpOps N r K (putO (fref φ s (.b false)) o.dst .u) σ)
    | .u => awpOps N r K (putO φ o.dst .u) σ
    | _ => False
  | (some (s, false), o) :: r, K, φ, σ => match fget φ s with
    | .b t => pickB t (awpOps N r K (putO (fref φ s (.b true)) o.dst .u) σ) (aop P inv w0 M N o (fref φ s (.b false)) σ (awpOps N r K))
    | .u => awpOps N r K (putO φ o.dst .u) σ
    | _ => False

def aopD (N : Nat) (o : AOp) (φ : AF) (σ : AS) (K : AF → AS → Prop) : Prop :=
  match o with
  | .call d j args => CallK P inv w0 M N φ σ j (args.map (ev φ)) fun r σ' => ob (SLe σ σ') (K (putO φ d r) σ')
  | .calv d f args => match ev φ f with
    | .fn j caps => CallK P inv w0 M N φ σ j (args.map (ev φ) ++ caps) fun r σ' => ob (SLe σ σ') (K (putO φ d r) σ')
    | _ => False
  | .app d s x sz => aop P inv w0 M N (.app d s x sz) φ σ fun φ' σ' => ob (SLe σ σ') (K φ' σ')
  | o => aop P inv w0 M N o φ σ K
def awpOpsD (N : Nat) : List GOp → (AF → AS → Prop) → AF → AS → Prop
  | [], K, φ, σ => K φ σ
  | (none, o) :: r, K, φ, σ => aopD P inv w0 M N o φ σ (awpOpsD N r K)
  | (some (s, true), o) :: r, K, φ, σ => match fget φ s with
    | .b t => pickB t (aopD P inv w0 M N o (fref φ s (.b true)) σ (awpOpsD N r K)) (awpOpsD N r K (putO (fref φ s (.b false)) o.dst .u) σ)
    | .u => awpOpsD N r K (putO φ o.dst .u) σ
    | _ => False
  | (some (s, false), o) :: r, K, φ, σ => match fget φ s with
    | .b t => pickB t (awpOpsD N r K (putO (fref φ s (.b true)) o.dst .u) σ) (aopD P inv w0 M N o (fref φ s (.b false)) σ (awpOpsD N r K))
    | .u => awpOpsD N r K (putO φ o.dst .u) σ
    | _ => False

/-- What is known of a run's frame and memory, all of it. -/
structure St (n : Nat) (φ : AF) (σ : AS) (β : Nat → Nat) (a : Act) (w : World) : Prop extends Knows inv w0 M φ σ β a w where
  size : a.tmps.size = n
  defers : a.defers = []
def AWp (N n : Nat) (c : ACode) (Q : Exit → AF → AS → Prop) (φ : AF) (σ : AS) : Prop :=
  ∀ c₀, compileC P inv n c₀ = some c → ∀ β a w, St inv w0 M n φ σ β a w →
    c₀.wp P (fun e a' w' => ∃ φ' σ' β', Q e φ' σ' ∧ St inv w0 M n φ' σ' β' a' w' ∧ Ext N (ctx inv M σ β w) (ctx inv M σ' β' w')) a w
end

def ares (φ : AF) (σ : AS) : ARes → Option AV
  | .tmp t => some (fget φ t)
  | .cell t l => aload σ l (fget φ t)
def aresL (φ : AF) (σ : AS) : List ARes → Option (List AV)
  | [] => some []
  | r :: rs => match ares φ σ r, aresL φ σ rs with | some x, some l => some (x :: l) | _, _ => none
def fnRes (φ : AF) (σ : AS) (rs : List ARes) : Option AV :=
  match aresL φ σ rs with
  | some [x] => some x
  | some l => some (.tup l)
  | none => none
def argF : Nat → List AV → List (Nat × AV)
  | _, [] => []
  | k, x :: xs => (k, x) :: argF (k + 1) xs
end Go.Eng
