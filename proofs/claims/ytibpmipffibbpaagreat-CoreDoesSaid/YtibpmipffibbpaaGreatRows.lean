/-
  No cell of these rows narrows 'for every input' (looked for: loops, veiled, ifaces, maps, wideKeys, modest, calm, conditions, laid).
  DERIVED. THE GIVEN ROWS OF THIS SEAT. 5 by the template 'for every input the law returns true; each argument reads behind the call as it read before'; 0 by the template 'total and deterministic' (their statements: YtibpmipffibbpaaGreatTotals.lean).
  GIVEN WITH THE SEED: the statements are not yours to turn. If you find one false, say at which input.
  Laid BY PROGRAM, IN A SANDBOX (cutbox-rows.mjs): the forced cells as the released guide's own fill.sh prints them over the translation 1cf7452349b11571… (all of the seat's roots in one cut). By AI agents, Wed Nov 11 2026. No macro, syntax, notation, axiom, sorry.
-/
import Derived.Test.YtibpmipffibbpaaGreatChecked
import GoSem.Claim
import GoSem.ClaimJoined
import GoSem.ClaimMapViews
import Derived.JoinedTies
import Derived.KernelRfl
namespace Go.Proofs.YtibpmipffibbpaaGreat
/- THE CELL 'sum', in the pinned program and in every row, IS THE sha256 OF THE DUMP (.gsa) THAT YtibpmipffibbpaaGreatProg.lean LOADS. Nothing in Lean hashes anything: it is a label: what it is worth is what the hold of that sum in a sandbox is worth. -/
noncomputable def Tryz.pinned : Pinned := { name := "ytibpmipffibbpaagreat", sum := "1cf7452349b11571a9a87819488c16a27358f0f98ac0f0f33b38143ac3a8fc30", checked := Tryz.checked }
namespace Rows
def none {H : Type} : Left H := { results := [], args := [] }

/-- 'leverframelaw21.PassSettles': WHATEVER THE INPUT: true; the input reads as it did. -/
def passSettlesSpec : ChangeSpec := { name := "passSettles", fn := fun _ => fun
  | [d1, d2] => { results := [.lit (.bool true)], args := [d1, d2] }
  | _ => none }
def passSettlesRow : OpenClaim := { program := "ytibpmipffibbpaagreat", sum := "1cf7452349b11571a9a87819488c16a27358f0f98ac0f0f33b38143ac3a8fc30", func := "leverframe/leverframelaw21.PassSettles", spec := "passSettles", unfollowed := true, recurses := true, apart := false }
def PassSettlesSaid : Prop := passSettlesRow.holds Tryz.pinned (OpenSpec.ofChange passSettlesSpec)

/-- ITS FALSE NEIGHBOUR: 'it returns false'. Refute it at one input. -/
def passSettlesWrong : ChangeSpec := { name := "passSettles", fn := fun _ => fun
  | [d1, d2] => { results := [.lit (.bool false)], args := [d1, d2] }
  | _ => none }
def PassSettlesWrongFalsely : Prop := passSettlesRow.holds Tryz.pinned (OpenSpec.ofChange passSettlesWrong)

/-- 'leverframelaw22.CancelDoes': WHATEVER THE INPUT: true; the input reads as it did. -/
def cancelDoesSpec : ChangeSpec := { name := "cancelDoes", fn := fun _ => fun
  | [d1, d2, d3] => { results := [.lit (.bool true)], args := [d1, d2, d3] }
  | _ => none }
def cancelDoesRow : OpenClaim := { program := "ytibpmipffibbpaagreat", sum := "1cf7452349b11571a9a87819488c16a27358f0f98ac0f0f33b38143ac3a8fc30", func := "leverframe/leverframelaw22.CancelDoes", spec := "cancelDoes", unfollowed := true, recurses := true, apart := false }
def CancelDoesSaid : Prop := cancelDoesRow.holds Tryz.pinned (OpenSpec.ofChange cancelDoesSpec)

/-- ITS FALSE NEIGHBOUR: 'it returns false'. Refute it at one input. -/
def cancelDoesWrong : ChangeSpec := { name := "cancelDoes", fn := fun _ => fun
  | [d1, d2, d3] => { results := [.lit (.bool false)], args := [d1, d2, d3] }
  | _ => none }
def CancelDoesWrongFalsely : Prop := cancelDoesRow.holds Tryz.pinned (OpenSpec.ofChange cancelDoesWrong)

/-- 'leverframelaw21.PassGives': WHATEVER THE INPUT: true; the input reads as it did. -/
def passGivesSpec : ChangeSpec := { name := "passGives", fn := fun _ => fun
  | [d1, d2, d3] => { results := [.lit (.bool true)], args := [d1, d2, d3] }
  | _ => none }
def passGivesRow : OpenClaim := { program := "ytibpmipffibbpaagreat", sum := "1cf7452349b11571a9a87819488c16a27358f0f98ac0f0f33b38143ac3a8fc30", func := "leverframe/leverframelaw21.PassGives", spec := "passGives", unfollowed := true, recurses := true, apart := false }
def PassGivesSaid : Prop := passGivesRow.holds Tryz.pinned (OpenSpec.ofChange passGivesSpec)

/-- ITS FALSE NEIGHBOUR: 'it returns false'. Refute it at one input. -/
def passGivesWrong : ChangeSpec := { name := "passGives", fn := fun _ => fun
  | [d1, d2, d3] => { results := [.lit (.bool false)], args := [d1, d2, d3] }
  | _ => none }
def PassGivesWrongFalsely : Prop := passGivesRow.holds Tryz.pinned (OpenSpec.ofChange passGivesWrong)

/-- 'leverframelaw19.ProveSafe': WHATEVER THE INPUT: true; the input reads as it did. -/
def proveSafeSpec : ChangeSpec := { name := "proveSafe", fn := fun _ => fun
  | [d1, d2, d3] => { results := [.lit (.bool true)], args := [d1, d2, d3] }
  | _ => none }
def proveSafeRow : OpenClaim := { program := "ytibpmipffibbpaagreat", sum := "1cf7452349b11571a9a87819488c16a27358f0f98ac0f0f33b38143ac3a8fc30", func := "leverframe/leverframelaw19.ProveSafe", spec := "proveSafe", unfollowed := true, recurses := true, apart := false }
def ProveSafeSaid : Prop := proveSafeRow.holds Tryz.pinned (OpenSpec.ofChange proveSafeSpec)

/-- ITS FALSE NEIGHBOUR: 'it returns false'. Refute it at one input. -/
def proveSafeWrong : ChangeSpec := { name := "proveSafe", fn := fun _ => fun
  | [d1, d2, d3] => { results := [.lit (.bool false)], args := [d1, d2, d3] }
  | _ => none }
def ProveSafeWrongFalsely : Prop := proveSafeRow.holds Tryz.pinned (OpenSpec.ofChange proveSafeWrong)

/-- 'leverframelaw23.CoreDoes': WHATEVER THE INPUT: true; the input reads as it did. -/
def coreDoesSpec : ChangeSpec := { name := "coreDoes", fn := fun _ => fun
  | [d1, d2, d3] => { results := [.lit (.bool true)], args := [d1, d2, d3] }
  | _ => none }
def coreDoesRow : OpenClaim := { program := "ytibpmipffibbpaagreat", sum := "1cf7452349b11571a9a87819488c16a27358f0f98ac0f0f33b38143ac3a8fc30", func := "leverframe/leverframelaw23.CoreDoes", spec := "coreDoes", unfollowed := true, recurses := true, apart := false }
def CoreDoesSaid : Prop := coreDoesRow.holds Tryz.pinned (OpenSpec.ofChange coreDoesSpec)

/-- ITS FALSE NEIGHBOUR: 'it returns false'. Refute it at one input. -/
def coreDoesWrong : ChangeSpec := { name := "coreDoes", fn := fun _ => fun
  | [d1, d2, d3] => { results := [.lit (.bool false)], args := [d1, d2, d3] }
  | _ => none }
def CoreDoesWrongFalsely : Prop := coreDoesRow.holds Tryz.pinned (OpenSpec.ofChange coreDoesWrong)

/- THE SECOND FORM. 'bulk': how many values and letters a reading holds, each counted each time it is reached (what is shared counts as often as it is met; a slice's spare places count too). A statement '..UptoSaid' is the law's where the arguments, and the package variables that the reading takes, are together of bulk at most 1048576: NARROWER than '..Said'. Prove '..Said' where nothing that the law and all that it calls make is longer than what came in: it says more and counts as full. Else prove '..UptoSaid'. A law counts once. -/
mutual
def uptoBulk {H : Type} : DataW H → Nat
  | .lit (.string bytes) => bytes.length + 1
  | .lit _ => 1
  | .nil => 1
  | .ptr d => uptoBulk d + 1
  | .slice elems spare => uptoBulkAll elems + uptoBulkAll spare + 1
  | .agg parts => uptoBulkAll parts + 1
  | .iface _ d => uptoBulk d + 1
  | .map entries => uptoBulkEntries entries + 1
  | .held _ => 1
def uptoBulkAll {H : Type} : List (DataW H) → Nat
  | [] => 0
  | d :: r => uptoBulk d + uptoBulkAll r
def uptoBulkEntries {H : Type} : List (Lit × DataW H) → Nat
  | [] => 0
  | x :: r => uptoBulkEntry x + uptoBulkEntries r
def uptoBulkEntry {H : Type} : Lit × DataW H → Nat
  | (.string bytes, d) => bytes.length + uptoBulk d + 1
  | (_, d) => uptoBulk d + 1
 end
def uptoSmall : (H : Type) → List (DataW H) → Bool := fun _ ds => decide (uptoBulkAll ds ≤ 1048576)
def OpenSpec.upto (s : _root_.Go.ChangeSpec) : _root_.Go.OpenSpec := { _root_.Go.OpenSpec.ofChange s with cond := some uptoSmall }

/-- 'leverframelaw21.PassSettles', WHERE WHAT IT READS IS OF BULK AT MOST 1048576: true; the input reads as it did. -/
def passSettlesUptoRow : OpenClaim := { program := "ytibpmipffibbpaagreat", sum := "1cf7452349b11571a9a87819488c16a27358f0f98ac0f0f33b38143ac3a8fc30", func := "leverframe/leverframelaw21.PassSettles", spec := "passSettles", unfollowed := true, recurses := true, apart := false, narrowed := true }
def PassSettlesUptoSaid : Prop := passSettlesUptoRow.holds Tryz.pinned (OpenSpec.upto passSettlesSpec)

/-- 'leverframelaw22.CancelDoes', WHERE WHAT IT READS IS OF BULK AT MOST 1048576: true; the input reads as it did. -/
def cancelDoesUptoRow : OpenClaim := { program := "ytibpmipffibbpaagreat", sum := "1cf7452349b11571a9a87819488c16a27358f0f98ac0f0f33b38143ac3a8fc30", func := "leverframe/leverframelaw22.CancelDoes", spec := "cancelDoes", unfollowed := true, recurses := true, apart := false, narrowed := true }
def CancelDoesUptoSaid : Prop := cancelDoesUptoRow.holds Tryz.pinned (OpenSpec.upto cancelDoesSpec)

/-- 'leverframelaw21.PassGives', WHERE WHAT IT READS IS OF BULK AT MOST 1048576: true; the input reads as it did. -/
def passGivesUptoRow : OpenClaim := { program := "ytibpmipffibbpaagreat", sum := "1cf7452349b11571a9a87819488c16a27358f0f98ac0f0f33b38143ac3a8fc30", func := "leverframe/leverframelaw21.PassGives", spec := "passGives", unfollowed := true, recurses := true, apart := false, narrowed := true }
def PassGivesUptoSaid : Prop := passGivesUptoRow.holds Tryz.pinned (OpenSpec.upto passGivesSpec)

/-- 'leverframelaw19.ProveSafe', WHERE WHAT IT READS IS OF BULK AT MOST 1048576: true; the input reads as it did. -/
def proveSafeUptoRow : OpenClaim := { program := "ytibpmipffibbpaagreat", sum := "1cf7452349b11571a9a87819488c16a27358f0f98ac0f0f33b38143ac3a8fc30", func := "leverframe/leverframelaw19.ProveSafe", spec := "proveSafe", unfollowed := true, recurses := true, apart := false, narrowed := true }
def ProveSafeUptoSaid : Prop := proveSafeUptoRow.holds Tryz.pinned (OpenSpec.upto proveSafeSpec)

/-- 'leverframelaw23.CoreDoes', WHERE WHAT IT READS IS OF BULK AT MOST 1048576: true; the input reads as it did. -/
def coreDoesUptoRow : OpenClaim := { program := "ytibpmipffibbpaagreat", sum := "1cf7452349b11571a9a87819488c16a27358f0f98ac0f0f33b38143ac3a8fc30", func := "leverframe/leverframelaw23.CoreDoes", spec := "coreDoes", unfollowed := true, recurses := true, apart := false, narrowed := true }
def CoreDoesUptoSaid : Prop := coreDoesUptoRow.holds Tryz.pinned (OpenSpec.upto coreDoesSpec)

end Rows
end Go.Proofs.YtibpmipffibbpaaGreat
