/-
  No cell of these rows narrows 'for every input' (looked for: loops, veiled, ifaces, maps, wideKeys, modest, calm, conditions, laid).
  DERIVED. THE GIVEN ROWS OF THIS SEAT. 4 by the template 'for every input the law returns true; each argument reads behind the call as it read before'; 0 by the template 'total and deterministic' (their statements: YthjfjbajmhkbbaaGreatTotals.lean).
  GIVEN WITH THE SEED: the statements are not yours to turn. If you find one false, say at which input.
  Laid BY PROGRAM, IN A SANDBOX (cutbox-rows.mjs): the forced cells as the released guide's own fill.sh prints them over the translation fb1de080ddf85f44… (all of the seat's roots in one cut). By AI agents, Wed Nov 11 2026. No macro, syntax, notation, axiom, sorry.
-/
import Derived.Test.YthjfjbajmhkbbaaGreatChecked
import GoSem.Claim
import GoSem.ClaimJoined
import GoSem.ClaimMapViews
import Derived.JoinedTies
import Derived.KernelRfl
namespace Go.Proofs.YthjfjbajmhkbbaaGreat
/- THE CELL 'sum', in the pinned program and in every row, IS THE sha256 OF THE DUMP (.gsa) THAT YthjfjbajmhkbbaaGreatProg.lean LOADS. Nothing in Lean hashes anything: it is a label: what it is worth is what the hold of that sum in a sandbox is worth. -/
noncomputable def Tryz.pinned : Pinned := { name := "ythjfjbajmhkbbaagreat", sum := "fb1de080ddf85f44d5c026a37b6cd8367bcbf4ce9b038d1af5451adab817aa4e", checked := Tryz.checked }
namespace Rows
def none {H : Type} : Left H := { results := [], args := [] }

/-- 'leverframelaw17.PointCalls': WHATEVER THE INPUT: true; the input reads as it did. -/
def pointCallsSpec : ChangeSpec := { name := "pointCalls", fn := fun _ => fun
  | [d1, d2, d3, d4] => { results := [.lit (.bool true)], args := [d1, d2, d3, d4] }
  | _ => none }
def pointCallsRow : OpenClaim := { program := "ythjfjbajmhkbbaagreat", sum := "fb1de080ddf85f44d5c026a37b6cd8367bcbf4ce9b038d1af5451adab817aa4e", func := "leverframe/leverframelaw17.PointCalls", spec := "pointCalls", unfollowed := true, recurses := true, apart := false }
def PointCallsSaid : Prop := pointCallsRow.holds Tryz.pinned (OpenSpec.ofChange pointCallsSpec)

/-- ITS FALSE NEIGHBOUR: 'it returns false'. Refute it at one input. -/
def pointCallsWrong : ChangeSpec := { name := "pointCalls", fn := fun _ => fun
  | [d1, d2, d3, d4] => { results := [.lit (.bool false)], args := [d1, d2, d3, d4] }
  | _ => none }
def PointCallsWrongFalsely : Prop := pointCallsRow.holds Tryz.pinned (OpenSpec.ofChange pointCallsWrong)

/-- 'leverframelaw16.InputTells': WHATEVER THE INPUT: true; the input reads as it did. -/
def inputTellsSpec : ChangeSpec := { name := "inputTells", fn := fun _ => fun
  | [d1, d2, d3, d4] => { results := [.lit (.bool true)], args := [d1, d2, d3, d4] }
  | _ => none }
def inputTellsRow : OpenClaim := { program := "ythjfjbajmhkbbaagreat", sum := "fb1de080ddf85f44d5c026a37b6cd8367bcbf4ce9b038d1af5451adab817aa4e", func := "leverframe/leverframelaw16.InputTells", spec := "inputTells", unfollowed := true, recurses := true, apart := false }
def InputTellsSaid : Prop := inputTellsRow.holds Tryz.pinned (OpenSpec.ofChange inputTellsSpec)

/-- ITS FALSE NEIGHBOUR: 'it returns false'. Refute it at one input. -/
def inputTellsWrong : ChangeSpec := { name := "inputTells", fn := fun _ => fun
  | [d1, d2, d3, d4] => { results := [.lit (.bool false)], args := [d1, d2, d3, d4] }
  | _ => none }
def InputTellsWrongFalsely : Prop := inputTellsRow.holds Tryz.pinned (OpenSpec.ofChange inputTellsWrong)

/-- 'leverframelaw15.StateTells': WHATEVER THE INPUT: true; the input reads as it did. -/
def stateTellsSpec : ChangeSpec := { name := "stateTells", fn := fun _ => fun
  | [d1, d2, d3, d4] => { results := [.lit (.bool true)], args := [d1, d2, d3, d4] }
  | _ => none }
def stateTellsRow : OpenClaim := { program := "ythjfjbajmhkbbaagreat", sum := "fb1de080ddf85f44d5c026a37b6cd8367bcbf4ce9b038d1af5451adab817aa4e", func := "leverframe/leverframelaw15.StateTells", spec := "stateTells", unfollowed := true, recurses := true, apart := false }
def StateTellsSaid : Prop := stateTellsRow.holds Tryz.pinned (OpenSpec.ofChange stateTellsSpec)

/-- ITS FALSE NEIGHBOUR: 'it returns false'. Refute it at one input. -/
def stateTellsWrong : ChangeSpec := { name := "stateTells", fn := fun _ => fun
  | [d1, d2, d3, d4] => { results := [.lit (.bool false)], args := [d1, d2, d3, d4] }
  | _ => none }
def StateTellsWrongFalsely : Prop := stateTellsRow.holds Tryz.pinned (OpenSpec.ofChange stateTellsWrong)

/-- 'leverframelaw18.LockSets': WHATEVER THE INPUT: true; the input reads as it did. -/
def lockSetsSpec : ChangeSpec := { name := "lockSets", fn := fun _ => fun
  | [d1, d2, d3] => { results := [.lit (.bool true)], args := [d1, d2, d3] }
  | _ => none }
def lockSetsRow : OpenClaim := { program := "ythjfjbajmhkbbaagreat", sum := "fb1de080ddf85f44d5c026a37b6cd8367bcbf4ce9b038d1af5451adab817aa4e", func := "leverframe/leverframelaw18.LockSets", spec := "lockSets", unfollowed := true, recurses := true, apart := false }
def LockSetsSaid : Prop := lockSetsRow.holds Tryz.pinned (OpenSpec.ofChange lockSetsSpec)

/-- ITS FALSE NEIGHBOUR: 'it returns false'. Refute it at one input. -/
def lockSetsWrong : ChangeSpec := { name := "lockSets", fn := fun _ => fun
  | [d1, d2, d3] => { results := [.lit (.bool false)], args := [d1, d2, d3] }
  | _ => none }
def LockSetsWrongFalsely : Prop := lockSetsRow.holds Tryz.pinned (OpenSpec.ofChange lockSetsWrong)

/- THE SECOND FORM. 'bulk': how many values and letters a reading holds, each counted each time it is reached (what is shared counts as often as it is met; a slice's spare places count too). A statement '..UptoSaid' is the law's where the arguments, and the package variables that the reading takes, are together of bulk at most 1048576: NARROWER than '..Said'. Prove '..Said' where nothing that the law and all that it calls make is longer than what came in: it says more and counts as full. Else prove '..UptoSaid'. A law counts once. -/
mutual
def uptoBulk {H : Type} : DataW H → Nat
  | .lit (.string bytes) => bytes.length + 1
  | .lit _ => 1
  | .nil => 1
  | .ptr d => uptoBulk d + 1
  | .slice elems spare => uptoBulkAll elems + uptoBulkAll spare + 1
  | .agg parts => uptoBulkAll parts + 1
  | .iface _ d => uptoBulk d + 1
  | .map entries => uptoBulkEntries entries + 1
  | .held _ => 1
def uptoBulkAll {H : Type} : List (DataW H) → Nat
  | [] => 0
  | d :: r => uptoBulk d + uptoBulkAll r
def uptoBulkEntries {H : Type} : List (Lit × DataW H) → Nat
  | [] => 0
  | x :: r => uptoBulkEntry x + uptoBulkEntries r
def uptoBulkEntry {H : Type} : Lit × DataW H → Nat
  | (.string bytes, d) => bytes.length + uptoBulk d + 1
  | (_, d) => uptoBulk d + 1
 end
def uptoSmall : (H : Type) → List (DataW H) → Bool := fun _ ds => decide (uptoBulkAll ds ≤ 1048576)
def OpenSpec.upto (s : _root_.Go.ChangeSpec) : _root_.Go.OpenSpec := { _root_.Go.OpenSpec.ofChange s with cond := some uptoSmall }

/-- 'leverframelaw17.PointCalls', WHERE WHAT IT READS IS OF BULK AT MOST 1048576: true; the input reads as it did. -/
def pointCallsUptoRow : OpenClaim := { program := "ythjfjbajmhkbbaagreat", sum := "fb1de080ddf85f44d5c026a37b6cd8367bcbf4ce9b038d1af5451adab817aa4e", func := "leverframe/leverframelaw17.PointCalls", spec := "pointCalls", unfollowed := true, recurses := true, apart := false, narrowed := true }
def PointCallsUptoSaid : Prop := pointCallsUptoRow.holds Tryz.pinned (OpenSpec.upto pointCallsSpec)

/-- 'leverframelaw16.InputTells', WHERE WHAT IT READS IS OF BULK AT MOST 1048576: true; the input reads as it did. -/
def inputTellsUptoRow : OpenClaim := { program := "ythjfjbajmhkbbaagreat", sum := "fb1de080ddf85f44d5c026a37b6cd8367bcbf4ce9b038d1af5451adab817aa4e", func := "leverframe/leverframelaw16.InputTells", spec := "inputTells", unfollowed := true, recurses := true, apart := false, narrowed := true }
def InputTellsUptoSaid : Prop := inputTellsUptoRow.holds Tryz.pinned (OpenSpec.upto inputTellsSpec)

/-- 'leverframelaw15.StateTells', WHERE WHAT IT READS IS OF BULK AT MOST 1048576: true; the input reads as it did. -/
def stateTellsUptoRow : OpenClaim := { program := "ythjfjbajmhkbbaagreat", sum := "fb1de080ddf85f44d5c026a37b6cd8367bcbf4ce9b038d1af5451adab817aa4e", func := "leverframe/leverframelaw15.StateTells", spec := "stateTells", unfollowed := true, recurses := true, apart := false, narrowed := true }
def StateTellsUptoSaid : Prop := stateTellsUptoRow.holds Tryz.pinned (OpenSpec.upto stateTellsSpec)

/-- 'leverframelaw18.LockSets', WHERE WHAT IT READS IS OF BULK AT MOST 1048576: true; the input reads as it did. -/
def lockSetsUptoRow : OpenClaim := { program := "ythjfjbajmhkbbaagreat", sum := "fb1de080ddf85f44d5c026a37b6cd8367bcbf4ce9b038d1af5451adab817aa4e", func := "leverframe/leverframelaw18.LockSets", spec := "lockSets", unfollowed := true, recurses := true, apart := false, narrowed := true }
def LockSetsUptoSaid : Prop := lockSetsUptoRow.holds Tryz.pinned (OpenSpec.upto lockSetsSpec)

end Rows
end Go.Proofs.YthjfjbajmhkbbaaGreat
