/-
  No cell of these rows narrows 'for every input' (looked for: loops, veiled, ifaces, maps, wideKeys, modest, calm, conditions, laid).
  DERIVED. THE GIVEN ROWS OF THIS SEAT. 4 by the template 'for every input the law returns true; each argument reads behind the call as it read before'; 0 by the template 'total and deterministic' (their statements: YtcpgcgandpofiaaGreatTotals.lean).
  GIVEN WITH THE SEED: the statements are not yours to turn. If you find one false, say at which input.
  Laid BY PROGRAM, IN A SANDBOX (cutbox-rows.mjs): the forced cells as the released guide's own fill.sh prints them over the translation ba1ff3ae1492ec6f… (all of the seat's roots in one cut). By AI agents, Wed Nov 11 2026. No macro, syntax, notation, axiom, sorry.
-/
import Derived.Test.YtcpgcgandpofiaaGreatChecked
import GoSem.Claim
import GoSem.ClaimJoined
import GoSem.ClaimMapViews
import Derived.JoinedTies
import Derived.KernelRfl
namespace Go.Proofs.YtcpgcgandpofiaaGreat
/- THE CELL 'sum', in the pinned program and in every row, IS THE sha256 OF THE DUMP (.gsa) THAT YtcpgcgandpofiaaGreatProg.lean LOADS. Nothing in Lean hashes anything: it is a label: what it is worth is what the hold of that sum in a sandbox is worth. -/
noncomputable def Tryz.pinned : Pinned := { name := "ytcpgcgandpofiaagreat", sum := "ba1ff3ae1492ec6fd4c90d023664e282afc841cb28ece39220acdeb866b0ad78", checked := Tryz.checked }
namespace Rows
def none {H : Type} : Left H := { results := [], args := [] }

/-- 'leverframelaw17.PointCalls': WHATEVER THE INPUT: true; the input reads as it did. -/
def pointCallsSpec : ChangeSpec := { name := "pointCalls", fn := fun _ => fun
  | [d1, d2, d3, d4] => { results := [.lit (.bool true)], args := [d1, d2, d3, d4] }
  | _ => none }
def pointCallsRow : OpenClaim := { program := "ytcpgcgandpofiaagreat", sum := "ba1ff3ae1492ec6fd4c90d023664e282afc841cb28ece39220acdeb866b0ad78", func := "leverframe/leverframelaw17.PointCalls", spec := "pointCalls", unfollowed := true, recurses := true, apart := false }
def PointCallsSaid : Prop := pointCallsRow.holds Tryz.pinned (OpenSpec.ofChange pointCallsSpec)

/-- ITS FALSE NEIGHBOUR: 'it returns false'. Refute it at one input. -/
def pointCallsWrong : ChangeSpec := { name := "pointCalls", fn := fun _ => fun
  | [d1, d2, d3, d4] => { results := [.lit (.bool false)], args := [d1, d2, d3, d4] }
  | _ => none }
def PointCallsWrongFalsely : Prop := pointCallsRow.holds Tryz.pinned (OpenSpec.ofChange pointCallsWrong)

/-- 'leverframelaw18.LockSets': WHATEVER THE INPUT: true; the input reads as it did. -/
def lockSetsSpec : ChangeSpec := { name := "lockSets", fn := fun _ => fun
  | [d1, d2, d3] => { results := [.lit (.bool true)], args := [d1, d2, d3] }
  | _ => none }
def lockSetsRow : OpenClaim := { program := "ytcpgcgandpofiaagreat", sum := "ba1ff3ae1492ec6fd4c90d023664e282afc841cb28ece39220acdeb866b0ad78", func := "leverframe/leverframelaw18.LockSets", spec := "lockSets", unfollowed := true, recurses := true, apart := false }
def LockSetsSaid : Prop := lockSetsRow.holds Tryz.pinned (OpenSpec.ofChange lockSetsSpec)

/-- ITS FALSE NEIGHBOUR: 'it returns false'. Refute it at one input. -/
def lockSetsWrong : ChangeSpec := { name := "lockSets", fn := fun _ => fun
  | [d1, d2, d3] => { results := [.lit (.bool false)], args := [d1, d2, d3] }
  | _ => none }
def LockSetsWrongFalsely : Prop := lockSetsRow.holds Tryz.pinned (OpenSpec.ofChange lockSetsWrong)

/-- 'leverframelaw18.LockHolds': WHATEVER THE INPUT: true; the input reads as it did. -/
def lockHoldsSpec : ChangeSpec := { name := "lockHolds", fn := fun _ => fun
  | [d1, d2, d3] => { results := [.lit (.bool true)], args := [d1, d2, d3] }
  | _ => none }
def lockHoldsRow : OpenClaim := { program := "ytcpgcgandpofiaagreat", sum := "ba1ff3ae1492ec6fd4c90d023664e282afc841cb28ece39220acdeb866b0ad78", func := "leverframe/leverframelaw18.LockHolds", spec := "lockHolds", unfollowed := true, recurses := true, apart := false }
def LockHoldsSaid : Prop := lockHoldsRow.holds Tryz.pinned (OpenSpec.ofChange lockHoldsSpec)

/-- ITS FALSE NEIGHBOUR: 'it returns false'. Refute it at one input. -/
def lockHoldsWrong : ChangeSpec := { name := "lockHolds", fn := fun _ => fun
  | [d1, d2, d3] => { results := [.lit (.bool false)], args := [d1, d2, d3] }
  | _ => none }
def LockHoldsWrongFalsely : Prop := lockHoldsRow.holds Tryz.pinned (OpenSpec.ofChange lockHoldsWrong)

/-- 'leverframelaw18.LockErrors': WHATEVER THE INPUT: true; the input reads as it did. -/
def lockErrorsSpec : ChangeSpec := { name := "lockErrors", fn := fun _ => fun
  | [d1, d2, d3] => { results := [.lit (.bool true)], args := [d1, d2, d3] }
  | _ => none }
def lockErrorsRow : OpenClaim := { program := "ytcpgcgandpofiaagreat", sum := "ba1ff3ae1492ec6fd4c90d023664e282afc841cb28ece39220acdeb866b0ad78", func := "leverframe/leverframelaw18.LockErrors", spec := "lockErrors", unfollowed := true, recurses := true, apart := false }
def LockErrorsSaid : Prop := lockErrorsRow.holds Tryz.pinned (OpenSpec.ofChange lockErrorsSpec)

/-- ITS FALSE NEIGHBOUR: 'it returns false'. Refute it at one input. -/
def lockErrorsWrong : ChangeSpec := { name := "lockErrors", fn := fun _ => fun
  | [d1, d2, d3] => { results := [.lit (.bool false)], args := [d1, d2, d3] }
  | _ => none }
def LockErrorsWrongFalsely : Prop := lockErrorsRow.holds Tryz.pinned (OpenSpec.ofChange lockErrorsWrong)

/- THE SECOND FORM. 'bulk': how many values and letters a reading holds, each counted each time it is reached (what is shared counts as often as it is met; a slice's spare places count too). A statement '..UptoSaid' is the law's where the arguments, and the package variables that the reading takes, are together of bulk at most 1048576: NARROWER than '..Said'. Prove '..Said' where nothing that the law and all that it calls make is longer than what came in: it says more and counts as full. Else prove '..UptoSaid'. A law counts once. -/
mutual
def uptoBulk {H : Type} : DataW H → Nat
  | .lit (.string bytes) => bytes.length + 1
  | .lit _ => 1
  | .nil => 1
  | .ptr d => uptoBulk d + 1
  | .slice elems spare => uptoBulkAll elems + uptoBulkAll spare + 1
  | .agg parts => uptoBulkAll parts + 1
  | .iface _ d => uptoBulk d + 1
  | .map entries => uptoBulkEntries entries + 1
  | .held _ => 1
def uptoBulkAll {H : Type} : List (DataW H) → Nat
  | [] => 0
  | d :: r => uptoBulk d + uptoBulkAll r
def uptoBulkEntries {H : Type} : List (Lit × DataW H) → Nat
  | [] => 0
  | x :: r => uptoBulkEntry x + uptoBulkEntries r
def uptoBulkEntry {H : Type} : Lit × DataW H → Nat
  | (.string bytes, d) => bytes.length + uptoBulk d + 1
  | (_, d) => uptoBulk d + 1
 end
def uptoSmall : (H : Type) → List (DataW H) → Bool := fun _ ds => decide (uptoBulkAll ds ≤ 1048576)
def OpenSpec.upto (s : _root_.Go.ChangeSpec) : _root_.Go.OpenSpec := { _root_.Go.OpenSpec.ofChange s with cond := some uptoSmall }

/-- 'leverframelaw17.PointCalls', WHERE WHAT IT READS IS OF BULK AT MOST 1048576: true; the input reads as it did. -/
def pointCallsUptoRow : OpenClaim := { program := "ytcpgcgandpofiaagreat", sum := "ba1ff3ae1492ec6fd4c90d023664e282afc841cb28ece39220acdeb866b0ad78", func := "leverframe/leverframelaw17.PointCalls", spec := "pointCalls", unfollowed := true, recurses := true, apart := false, narrowed := true }
def PointCallsUptoSaid : Prop := pointCallsUptoRow.holds Tryz.pinned (OpenSpec.upto pointCallsSpec)

/-- 'leverframelaw18.LockSets', WHERE WHAT IT READS IS OF BULK AT MOST 1048576: true; the input reads as it did. -/
def lockSetsUptoRow : OpenClaim := { program := "ytcpgcgandpofiaagreat", sum := "ba1ff3ae1492ec6fd4c90d023664e282afc841cb28ece39220acdeb866b0ad78", func := "leverframe/leverframelaw18.LockSets", spec := "lockSets", unfollowed := true, recurses := true, apart := false, narrowed := true }
def LockSetsUptoSaid : Prop := lockSetsUptoRow.holds Tryz.pinned (OpenSpec.upto lockSetsSpec)

/-- 'leverframelaw18.LockHolds', WHERE WHAT IT READS IS OF BULK AT MOST 1048576: true; the input reads as it did. -/
def lockHoldsUptoRow : OpenClaim := { program := "ytcpgcgandpofiaagreat", sum := "ba1ff3ae1492ec6fd4c90d023664e282afc841cb28ece39220acdeb866b0ad78", func := "leverframe/leverframelaw18.LockHolds", spec := "lockHolds", unfollowed := true, recurses := true, apart := false, narrowed := true }
def LockHoldsUptoSaid : Prop := lockHoldsUptoRow.holds Tryz.pinned (OpenSpec.upto lockHoldsSpec)

/-- 'leverframelaw18.LockErrors', WHERE WHAT IT READS IS OF BULK AT MOST 1048576: true; the input reads as it did. -/
def lockErrorsUptoRow : OpenClaim := { program := "ytcpgcgandpofiaagreat", sum := "ba1ff3ae1492ec6fd4c90d023664e282afc841cb28ece39220acdeb866b0ad78", func := "leverframe/leverframelaw18.LockErrors", spec := "lockErrors", unfollowed := true, recurses := true, apart := false, narrowed := true }
def LockErrorsUptoSaid : Prop := lockErrorsUptoRow.holds Tryz.pinned (OpenSpec.upto lockErrorsSpec)

end Rows
end Go.Proofs.YtcpgcgandpofiaaGreat
