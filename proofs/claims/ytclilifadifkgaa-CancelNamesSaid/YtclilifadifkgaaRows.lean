/-
  No cell of these rows narrows 'for every input' (looked for: loops, veiled, ifaces, maps, wideKeys, modest, calm, conditions, laid).
  DERIVED. THE GIVEN ROWS OF THIS SEAT. 6 by the template 'for every input the law returns true; each argument reads behind the call as it read before'; 0 by the template 'total and deterministic' (their statements: YtclilifadifkgaaTotals.lean).
  GIVEN WITH THE SEED: the statements are not yours to turn. If you find one false, say at which input.
  Laid BY PROGRAM, IN A SANDBOX (cutbox-rows.mjs): the forced cells as the released guide's own fill.sh prints them over the translation 18d452013d7bb694… (all of the seat's roots in one cut). By AI agents, Wed Nov 11 2026. No macro, syntax, notation, axiom, sorry.
-/
import Derived.Test.YtclilifadifkgaaChecked
import GoSem.Claim
import GoSem.ClaimJoined
import GoSem.ClaimMapViews
import Derived.JoinedTies
import Derived.KernelRfl
namespace Go.Proofs.Ytclilifadifkgaa
/- THE CELL 'sum', in the pinned program and in every row, IS THE sha256 OF THE DUMP (.gsa) THAT YtclilifadifkgaaProg.lean LOADS. Nothing in Lean hashes anything: it is a label: what it is worth is what the hold of that sum in a sandbox is worth. -/
noncomputable def Try.pinned : Pinned := { name := "ytclilifadifkgaa", sum := "18d452013d7bb694253d129a3555e1cc906df967f9098f2cdac6fff51758d157", checked := Try.checked }
namespace Rows
def none {H : Type} : Left H := { results := [], args := [] }

/-- 'leverframelaw15.StateNames': WHATEVER THE INPUT: true; the input reads as it did. -/
def stateNamesSpec : ChangeSpec := { name := "stateNames", fn := fun _ => fun
  | [] => { results := [.lit (.bool true)], args := [] }
  | _ => none }
def stateNamesRow : OpenClaim := { program := "ytclilifadifkgaa", sum := "18d452013d7bb694253d129a3555e1cc906df967f9098f2cdac6fff51758d157", func := "leverframe/leverframelaw15.StateNames", spec := "stateNames", unfollowed := true, recurses := true, apart := false }
def StateNamesSaid : Prop := stateNamesRow.holds Try.pinned (OpenSpec.ofChange stateNamesSpec)

/-- ITS FALSE NEIGHBOUR: 'it returns false'. Refute it at one input. -/
def stateNamesWrong : ChangeSpec := { name := "stateNames", fn := fun _ => fun
  | [] => { results := [.lit (.bool false)], args := [] }
  | _ => none }
def StateNamesWrongFalsely : Prop := stateNamesRow.holds Try.pinned (OpenSpec.ofChange stateNamesWrong)

/-- 'leverframelaw16.InputNames': WHATEVER THE INPUT: true; the input reads as it did. -/
def inputNamesSpec : ChangeSpec := { name := "inputNames", fn := fun _ => fun
  | [] => { results := [.lit (.bool true)], args := [] }
  | _ => none }
def inputNamesRow : OpenClaim := { program := "ytclilifadifkgaa", sum := "18d452013d7bb694253d129a3555e1cc906df967f9098f2cdac6fff51758d157", func := "leverframe/leverframelaw16.InputNames", spec := "inputNames", unfollowed := true, recurses := true, apart := false }
def InputNamesSaid : Prop := inputNamesRow.holds Try.pinned (OpenSpec.ofChange inputNamesSpec)

/-- ITS FALSE NEIGHBOUR: 'it returns false'. Refute it at one input. -/
def inputNamesWrong : ChangeSpec := { name := "inputNames", fn := fun _ => fun
  | [] => { results := [.lit (.bool false)], args := [] }
  | _ => none }
def InputNamesWrongFalsely : Prop := inputNamesRow.holds Try.pinned (OpenSpec.ofChange inputNamesWrong)

/-- 'leverframelaw17.PointNames': WHATEVER THE INPUT: true; the input reads as it did. -/
def pointNamesSpec : ChangeSpec := { name := "pointNames", fn := fun _ => fun
  | [] => { results := [.lit (.bool true)], args := [] }
  | _ => none }
def pointNamesRow : OpenClaim := { program := "ytclilifadifkgaa", sum := "18d452013d7bb694253d129a3555e1cc906df967f9098f2cdac6fff51758d157", func := "leverframe/leverframelaw17.PointNames", spec := "pointNames", unfollowed := true, recurses := true, apart := false }
def PointNamesSaid : Prop := pointNamesRow.holds Try.pinned (OpenSpec.ofChange pointNamesSpec)

/-- ITS FALSE NEIGHBOUR: 'it returns false'. Refute it at one input. -/
def pointNamesWrong : ChangeSpec := { name := "pointNames", fn := fun _ => fun
  | [] => { results := [.lit (.bool false)], args := [] }
  | _ => none }
def PointNamesWrongFalsely : Prop := pointNamesRow.holds Try.pinned (OpenSpec.ofChange pointNamesWrong)

/-- 'leverframelaw18.LockNames': WHATEVER THE INPUT: true; the input reads as it did. -/
def lockNamesSpec : ChangeSpec := { name := "lockNames", fn := fun _ => fun
  | [] => { results := [.lit (.bool true)], args := [] }
  | _ => none }
def lockNamesRow : OpenClaim := { program := "ytclilifadifkgaa", sum := "18d452013d7bb694253d129a3555e1cc906df967f9098f2cdac6fff51758d157", func := "leverframe/leverframelaw18.LockNames", spec := "lockNames", unfollowed := true, recurses := true, apart := false }
def LockNamesSaid : Prop := lockNamesRow.holds Try.pinned (OpenSpec.ofChange lockNamesSpec)

/-- ITS FALSE NEIGHBOUR: 'it returns false'. Refute it at one input. -/
def lockNamesWrong : ChangeSpec := { name := "lockNames", fn := fun _ => fun
  | [] => { results := [.lit (.bool false)], args := [] }
  | _ => none }
def LockNamesWrongFalsely : Prop := lockNamesRow.holds Try.pinned (OpenSpec.ofChange lockNamesWrong)

/-- 'leverframelaw22.CancelNames': WHATEVER THE INPUT: true; the input reads as it did. -/
def cancelNamesSpec : ChangeSpec := { name := "cancelNames", fn := fun _ => fun
  | [] => { results := [.lit (.bool true)], args := [] }
  | _ => none }
def cancelNamesRow : OpenClaim := { program := "ytclilifadifkgaa", sum := "18d452013d7bb694253d129a3555e1cc906df967f9098f2cdac6fff51758d157", func := "leverframe/leverframelaw22.CancelNames", spec := "cancelNames", unfollowed := true, recurses := true, apart := false }
def CancelNamesSaid : Prop := cancelNamesRow.holds Try.pinned (OpenSpec.ofChange cancelNamesSpec)

/-- ITS FALSE NEIGHBOUR: 'it returns false'. Refute it at one input. -/
def cancelNamesWrong : ChangeSpec := { name := "cancelNames", fn := fun _ => fun
  | [] => { results := [.lit (.bool false)], args := [] }
  | _ => none }
def CancelNamesWrongFalsely : Prop := cancelNamesRow.holds Try.pinned (OpenSpec.ofChange cancelNamesWrong)

/-- 'leverframelaw21.PassNames': WHATEVER THE INPUT: true; the input reads as it did. -/
def passNamesSpec : ChangeSpec := { name := "passNames", fn := fun _ => fun
  | [] => { results := [.lit (.bool true)], args := [] }
  | _ => none }
def passNamesRow : OpenClaim := { program := "ytclilifadifkgaa", sum := "18d452013d7bb694253d129a3555e1cc906df967f9098f2cdac6fff51758d157", func := "leverframe/leverframelaw21.PassNames", spec := "passNames", unfollowed := true, recurses := true, apart := false }
def PassNamesSaid : Prop := passNamesRow.holds Try.pinned (OpenSpec.ofChange passNamesSpec)

/-- ITS FALSE NEIGHBOUR: 'it returns false'. Refute it at one input. -/
def passNamesWrong : ChangeSpec := { name := "passNames", fn := fun _ => fun
  | [] => { results := [.lit (.bool false)], args := [] }
  | _ => none }
def PassNamesWrongFalsely : Prop := passNamesRow.holds Try.pinned (OpenSpec.ofChange passNamesWrong)

/- THE SECOND FORM. 'bulk': how many values and letters a reading holds, each counted each time it is reached (what is shared counts as often as it is met; a slice's spare places count too). A statement '..UptoSaid' is the law's where the arguments, and the package variables that the reading takes, are together of bulk at most 1048576: NARROWER than '..Said'. Prove '..Said' where nothing that the law and all that it calls make is longer than what came in: it says more and counts as full. Else prove '..UptoSaid'. A law counts once. -/
mutual
def uptoBulk {H : Type} : DataW H → Nat
  | .lit (.string bytes) => bytes.length + 1
  | .lit _ => 1
  | .nil => 1
  | .ptr d => uptoBulk d + 1
  | .slice elems spare => uptoBulkAll elems + uptoBulkAll spare + 1
  | .agg parts => uptoBulkAll parts + 1
  | .iface _ d => uptoBulk d + 1
  | .map entries => uptoBulkEntries entries + 1
  | .held _ => 1
def uptoBulkAll {H : Type} : List (DataW H) → Nat
  | [] => 0
  | d :: r => uptoBulk d + uptoBulkAll r
def uptoBulkEntries {H : Type} : List (Lit × DataW H) → Nat
  | [] => 0
  | x :: r => uptoBulkEntry x + uptoBulkEntries r
def uptoBulkEntry {H : Type} : Lit × DataW H → Nat
  | (.string bytes, d) => bytes.length + uptoBulk d + 1
  | (_, d) => uptoBulk d + 1
 end
def uptoSmall : (H : Type) → List (DataW H) → Bool := fun _ ds => decide (uptoBulkAll ds ≤ 1048576)
def OpenSpec.upto (s : _root_.Go.ChangeSpec) : _root_.Go.OpenSpec := { _root_.Go.OpenSpec.ofChange s with cond := some uptoSmall }

/-- 'leverframelaw15.StateNames', WHERE WHAT IT READS IS OF BULK AT MOST 1048576: true; the input reads as it did. -/
def stateNamesUptoRow : OpenClaim := { program := "ytclilifadifkgaa", sum := "18d452013d7bb694253d129a3555e1cc906df967f9098f2cdac6fff51758d157", func := "leverframe/leverframelaw15.StateNames", spec := "stateNames", unfollowed := true, recurses := true, apart := false, narrowed := true }
def StateNamesUptoSaid : Prop := stateNamesUptoRow.holds Try.pinned (OpenSpec.upto stateNamesSpec)

/-- 'leverframelaw16.InputNames', WHERE WHAT IT READS IS OF BULK AT MOST 1048576: true; the input reads as it did. -/
def inputNamesUptoRow : OpenClaim := { program := "ytclilifadifkgaa", sum := "18d452013d7bb694253d129a3555e1cc906df967f9098f2cdac6fff51758d157", func := "leverframe/leverframelaw16.InputNames", spec := "inputNames", unfollowed := true, recurses := true, apart := false, narrowed := true }
def InputNamesUptoSaid : Prop := inputNamesUptoRow.holds Try.pinned (OpenSpec.upto inputNamesSpec)

/-- 'leverframelaw17.PointNames', WHERE WHAT IT READS IS OF BULK AT MOST 1048576: true; the input reads as it did. -/
def pointNamesUptoRow : OpenClaim := { program := "ytclilifadifkgaa", sum := "18d452013d7bb694253d129a3555e1cc906df967f9098f2cdac6fff51758d157", func := "leverframe/leverframelaw17.PointNames", spec := "pointNames", unfollowed := true, recurses := true, apart := false, narrowed := true }
def PointNamesUptoSaid : Prop := pointNamesUptoRow.holds Try.pinned (OpenSpec.upto pointNamesSpec)

/-- 'leverframelaw18.LockNames', WHERE WHAT IT READS IS OF BULK AT MOST 1048576: true; the input reads as it did. -/
def lockNamesUptoRow : OpenClaim := { program := "ytclilifadifkgaa", sum := "18d452013d7bb694253d129a3555e1cc906df967f9098f2cdac6fff51758d157", func := "leverframe/leverframelaw18.LockNames", spec := "lockNames", unfollowed := true, recurses := true, apart := false, narrowed := true }
def LockNamesUptoSaid : Prop := lockNamesUptoRow.holds Try.pinned (OpenSpec.upto lockNamesSpec)

/-- 'leverframelaw22.CancelNames', WHERE WHAT IT READS IS OF BULK AT MOST 1048576: true; the input reads as it did. -/
def cancelNamesUptoRow : OpenClaim := { program := "ytclilifadifkgaa", sum := "18d452013d7bb694253d129a3555e1cc906df967f9098f2cdac6fff51758d157", func := "leverframe/leverframelaw22.CancelNames", spec := "cancelNames", unfollowed := true, recurses := true, apart := false, narrowed := true }
def CancelNamesUptoSaid : Prop := cancelNamesUptoRow.holds Try.pinned (OpenSpec.upto cancelNamesSpec)

/-- 'leverframelaw21.PassNames', WHERE WHAT IT READS IS OF BULK AT MOST 1048576: true; the input reads as it did. -/
def passNamesUptoRow : OpenClaim := { program := "ytclilifadifkgaa", sum := "18d452013d7bb694253d129a3555e1cc906df967f9098f2cdac6fff51758d157", func := "leverframe/leverframelaw21.PassNames", spec := "passNames", unfollowed := true, recurses := true, apart := false, narrowed := true }
def PassNamesUptoSaid : Prop := passNamesUptoRow.holds Try.pinned (OpenSpec.upto passNamesSpec)

end Rows
end Go.Proofs.Ytclilifadifkgaa
