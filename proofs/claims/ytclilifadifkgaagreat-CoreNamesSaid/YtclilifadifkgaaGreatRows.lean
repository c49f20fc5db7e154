/-
  No cell of these rows narrows 'for every input' (looked for: loops, veiled, ifaces, maps, wideKeys, modest, calm, conditions, laid).
  DERIVED. THE GIVEN ROWS OF THIS SEAT. 4 by the template 'for every input the law returns true; each argument reads behind the call as it read before'; 0 by the template 'total and deterministic' (their statements: YtclilifadifkgaaGreatTotals.lean).
  GIVEN WITH THE SEED: the statements are not yours to turn. If you find one false, say at which input.
  Laid BY PROGRAM, IN A SANDBOX (cutbox-rows.mjs): the forced cells as the released guide's own fill.sh prints them over the translation 97b589c3bcd0faba… (all of the seat's roots in one cut). By AI agents, Wed Nov 11 2026. No macro, syntax, notation, axiom, sorry.
-/
import Derived.Test.YtclilifadifkgaaGreatChecked
import GoSem.Claim
import GoSem.ClaimJoined
import GoSem.ClaimMapViews
import Derived.JoinedTies
import Derived.KernelRfl
namespace Go.Proofs.YtclilifadifkgaaGreat
/- THE CELL 'sum', in the pinned program and in every row, IS THE sha256 OF THE DUMP (.gsa) THAT YtclilifadifkgaaGreatProg.lean LOADS. Nothing in Lean hashes anything: it is a label: what it is worth is what the hold of that sum in a sandbox is worth. -/
noncomputable def Tryz.pinned : Pinned := { name := "ytclilifadifkgaagreat", sum := "97b589c3bcd0faba4414018bc42c4e3a24d5c3c521c983c671d5d78987846651", checked := Tryz.checked }
namespace Rows
def none {H : Type} : Left H := { results := [], args := [] }

/-- 'leverframelaw19.ProveNames': WHATEVER THE INPUT: true; the input reads as it did. -/
def proveNamesSpec : ChangeSpec := { name := "proveNames", fn := fun _ => fun
  | [] => { results := [.lit (.bool true)], args := [] }
  | _ => none }
def proveNamesRow : OpenClaim := { program := "ytclilifadifkgaagreat", sum := "97b589c3bcd0faba4414018bc42c4e3a24d5c3c521c983c671d5d78987846651", func := "leverframe/leverframelaw19.ProveNames", spec := "proveNames", unfollowed := true, recurses := true, apart := false }
def ProveNamesSaid : Prop := proveNamesRow.holds Tryz.pinned (OpenSpec.ofChange proveNamesSpec)

/-- ITS FALSE NEIGHBOUR: 'it returns false'. Refute it at one input. -/
def proveNamesWrong : ChangeSpec := { name := "proveNames", fn := fun _ => fun
  | [] => { results := [.lit (.bool false)], args := [] }
  | _ => none }
def ProveNamesWrongFalsely : Prop := proveNamesRow.holds Tryz.pinned (OpenSpec.ofChange proveNamesWrong)

/-- 'leverframelaw20.AspectNames': WHATEVER THE INPUT: true; the input reads as it did. -/
def aspectNamesSpec : ChangeSpec := { name := "aspectNames", fn := fun _ => fun
  | [] => { results := [.lit (.bool true)], args := [] }
  | _ => none }
def aspectNamesRow : OpenClaim := { program := "ytclilifadifkgaagreat", sum := "97b589c3bcd0faba4414018bc42c4e3a24d5c3c521c983c671d5d78987846651", func := "leverframe/leverframelaw20.AspectNames", spec := "aspectNames", unfollowed := true, recurses := true, apart := false }
def AspectNamesSaid : Prop := aspectNamesRow.holds Tryz.pinned (OpenSpec.ofChange aspectNamesSpec)

/-- ITS FALSE NEIGHBOUR: 'it returns false'. Refute it at one input. -/
def aspectNamesWrong : ChangeSpec := { name := "aspectNames", fn := fun _ => fun
  | [] => { results := [.lit (.bool false)], args := [] }
  | _ => none }
def AspectNamesWrongFalsely : Prop := aspectNamesRow.holds Tryz.pinned (OpenSpec.ofChange aspectNamesWrong)

/-- 'leverframelaw23.CoreNames': WHATEVER THE INPUT: true; the input reads as it did. -/
def coreNamesSpec : ChangeSpec := { name := "coreNames", fn := fun _ => fun
  | [] => { results := [.lit (.bool true)], args := [] }
  | _ => none }
def coreNamesRow : OpenClaim := { program := "ytclilifadifkgaagreat", sum := "97b589c3bcd0faba4414018bc42c4e3a24d5c3c521c983c671d5d78987846651", func := "leverframe/leverframelaw23.CoreNames", spec := "coreNames", unfollowed := true, recurses := true, apart := false }
def CoreNamesSaid : Prop := coreNamesRow.holds Tryz.pinned (OpenSpec.ofChange coreNamesSpec)

/-- ITS FALSE NEIGHBOUR: 'it returns false'. Refute it at one input. -/
def coreNamesWrong : ChangeSpec := { name := "coreNames", fn := fun _ => fun
  | [] => { results := [.lit (.bool false)], args := [] }
  | _ => none }
def CoreNamesWrongFalsely : Prop := coreNamesRow.holds Tryz.pinned (OpenSpec.ofChange coreNamesWrong)

/-- 'leverframelaw31.TrainNames': WHATEVER THE INPUT: true; the input reads as it did. -/
def trainNamesSpec : ChangeSpec := { name := "trainNames", fn := fun _ => fun
  | [] => { results := [.lit (.bool true)], args := [] }
  | _ => none }
def trainNamesRow : OpenClaim := { program := "ytclilifadifkgaagreat", sum := "97b589c3bcd0faba4414018bc42c4e3a24d5c3c521c983c671d5d78987846651", func := "leverframe/leverframelaw31.TrainNames", spec := "trainNames", inPlace := ["slices.overlaps[leverframe/api.Train]", "slices.overlaps[int]"], unfollowed := true, recurses := true, apart := false }
def TrainNamesSaid : Prop := trainNamesRow.holds Tryz.pinned (OpenSpec.ofChange trainNamesSpec)

/-- ITS FALSE NEIGHBOUR: 'it returns false'. Refute it at one input. -/
def trainNamesWrong : ChangeSpec := { name := "trainNames", fn := fun _ => fun
  | [] => { results := [.lit (.bool false)], args := [] }
  | _ => none }
def TrainNamesWrongFalsely : Prop := trainNamesRow.holds Tryz.pinned (OpenSpec.ofChange trainNamesWrong)

/- THE SECOND FORM. 'bulk': how many values and letters a reading holds, each counted each time it is reached (what is shared counts as often as it is met; a slice's spare places count too). A statement '..UptoSaid' is the law's where the arguments, and the package variables that the reading takes, are together of bulk at most 1048576: NARROWER than '..Said'. Prove '..Said' where nothing that the law and all that it calls make is longer than what came in: it says more and counts as full. Else prove '..UptoSaid'. A law counts once. -/
mutual
def uptoBulk {H : Type} : DataW H → Nat
  | .lit (.string bytes) => bytes.length + 1
  | .lit _ => 1
  | .nil => 1
  | .ptr d => uptoBulk d + 1
  | .slice elems spare => uptoBulkAll elems + uptoBulkAll spare + 1
  | .agg parts => uptoBulkAll parts + 1
  | .iface _ d => uptoBulk d + 1
  | .map entries => uptoBulkEntries entries + 1
  | .held _ => 1
def uptoBulkAll {H : Type} : List (DataW H) → Nat
  | [] => 0
  | d :: r => uptoBulk d + uptoBulkAll r
def uptoBulkEntries {H : Type} : List (Lit × DataW H) → Nat
  | [] => 0
  | x :: r => uptoBulkEntry x + uptoBulkEntries r
def uptoBulkEntry {H : Type} : Lit × DataW H → Nat
  | (.string bytes, d) => bytes.length + uptoBulk d + 1
  | (_, d) => uptoBulk d + 1
 end
def uptoSmall : (H : Type) → List (DataW H) → Bool := fun _ ds => decide (uptoBulkAll ds ≤ 1048576)
def OpenSpec.upto (s : _root_.Go.ChangeSpec) : _root_.Go.OpenSpec := { _root_.Go.OpenSpec.ofChange s with cond := some uptoSmall }

/-- 'leverframelaw19.ProveNames', WHERE WHAT IT READS IS OF BULK AT MOST 1048576: true; the input reads as it did. -/
def proveNamesUptoRow : OpenClaim := { program := "ytclilifadifkgaagreat", sum := "97b589c3bcd0faba4414018bc42c4e3a24d5c3c521c983c671d5d78987846651", func := "leverframe/leverframelaw19.ProveNames", spec := "proveNames", unfollowed := true, recurses := true, apart := false, narrowed := true }
def ProveNamesUptoSaid : Prop := proveNamesUptoRow.holds Tryz.pinned (OpenSpec.upto proveNamesSpec)

/-- 'leverframelaw20.AspectNames', WHERE WHAT IT READS IS OF BULK AT MOST 1048576: true; the input reads as it did. -/
def aspectNamesUptoRow : OpenClaim := { program := "ytclilifadifkgaagreat", sum := "97b589c3bcd0faba4414018bc42c4e3a24d5c3c521c983c671d5d78987846651", func := "leverframe/leverframelaw20.AspectNames", spec := "aspectNames", unfollowed := true, recurses := true, apart := false, narrowed := true }
def AspectNamesUptoSaid : Prop := aspectNamesUptoRow.holds Tryz.pinned (OpenSpec.upto aspectNamesSpec)

/-- 'leverframelaw23.CoreNames', WHERE WHAT IT READS IS OF BULK AT MOST 1048576: true; the input reads as it did. -/
def coreNamesUptoRow : OpenClaim := { program := "ytclilifadifkgaagreat", sum := "97b589c3bcd0faba4414018bc42c4e3a24d5c3c521c983c671d5d78987846651", func := "leverframe/leverframelaw23.CoreNames", spec := "coreNames", unfollowed := true, recurses := true, apart := false, narrowed := true }
def CoreNamesUptoSaid : Prop := coreNamesUptoRow.holds Tryz.pinned (OpenSpec.upto coreNamesSpec)

/-- 'leverframelaw31.TrainNames', WHERE WHAT IT READS IS OF BULK AT MOST 1048576: true; the input reads as it did. -/
def trainNamesUptoRow : OpenClaim := { program := "ytclilifadifkgaagreat", sum := "97b589c3bcd0faba4414018bc42c4e3a24d5c3c521c983c671d5d78987846651", func := "leverframe/leverframelaw31.TrainNames", spec := "trainNames", inPlace := ["slices.overlaps[leverframe/api.Train]", "slices.overlaps[int]"], unfollowed := true, recurses := true, apart := false, narrowed := true }
def TrainNamesUptoSaid : Prop := trainNamesUptoRow.holds Tryz.pinned (OpenSpec.upto trainNamesSpec)

end Rows
end Go.Proofs.YtclilifadifkgaaGreat
