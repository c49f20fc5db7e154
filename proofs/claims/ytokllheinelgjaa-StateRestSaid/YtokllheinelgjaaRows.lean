/-
  No cell of these rows narrows 'for every input' (looked for: loops, veiled, ifaces, maps, wideKeys, modest, calm, conditions, laid).
  DERIVED. THE GIVEN ROWS OF THIS SEAT. 7 by the template 'for every input the law returns true; each argument reads behind the call as it read before'; 0 by the template 'total and deterministic' (their statements: YtokllheinelgjaaTotals.lean).
  GIVEN WITH THE SEED: the statements are not yours to turn. If you find one false, say at which input.
  Laid BY PROGRAM, IN A SANDBOX (cutbox-rows.mjs): the forced cells as the released guide's own fill.sh prints them over the translation 9721bde572721772… (all of the seat's roots in one cut). By AI agents, Wed Nov 11 2026. No macro, syntax, notation, axiom, sorry.
-/
import Derived.Test.YtokllheinelgjaaChecked
import GoSem.Claim
import GoSem.ClaimJoined
import GoSem.ClaimMapViews
import Derived.JoinedTies
import Derived.KernelRfl
namespace Go.Proofs.Ytokllheinelgjaa
/- THE CELL 'sum', in the pinned program and in every row, IS THE sha256 OF THE DUMP (.gsa) THAT YtokllheinelgjaaProg.lean LOADS. Nothing in Lean hashes anything: it is a label: what it is worth is what the hold of that sum in a sandbox is worth. -/
noncomputable def Try.pinned : Pinned := { name := "ytokllheinelgjaa", sum := "9721bde572721772b1eeb6b740e78c6062f0aa6250dbe171b72a70f360d1be7b", checked := Try.checked }
namespace Rows
def none {H : Type} : Left H := { results := [], args := [] }

/-- 'leverframelaw15.StateKeeps': WHATEVER THE INPUT: true; the input reads as it did. -/
def stateKeepsSpec : ChangeSpec := { name := "stateKeeps", fn := fun _ => fun
  | [d1, d2, d3, d4] => { results := [.lit (.bool true)], args := [d1, d2, d3, d4] }
  | _ => none }
def stateKeepsRow : OpenClaim := { program := "ytokllheinelgjaa", sum := "9721bde572721772b1eeb6b740e78c6062f0aa6250dbe171b72a70f360d1be7b", func := "leverframe/leverframelaw15.StateKeeps", spec := "stateKeeps", unfollowed := true, recurses := true, apart := false }
def StateKeepsSaid : Prop := stateKeepsRow.holds Try.pinned (OpenSpec.ofChange stateKeepsSpec)

/-- ITS FALSE NEIGHBOUR: 'it returns false'. Refute it at one input. -/
def stateKeepsWrong : ChangeSpec := { name := "stateKeeps", fn := fun _ => fun
  | [d1, d2, d3, d4] => { results := [.lit (.bool false)], args := [d1, d2, d3, d4] }
  | _ => none }
def StateKeepsWrongFalsely : Prop := stateKeepsRow.holds Try.pinned (OpenSpec.ofChange stateKeepsWrong)

/-- 'leverframelaw16.InputBounds': WHATEVER THE INPUT: true; the input reads as it did. -/
def inputBoundsSpec : ChangeSpec := { name := "inputBounds", fn := fun _ => fun
  | [d1, d2, d3, d4] => { results := [.lit (.bool true)], args := [d1, d2, d3, d4] }
  | _ => none }
def inputBoundsRow : OpenClaim := { program := "ytokllheinelgjaa", sum := "9721bde572721772b1eeb6b740e78c6062f0aa6250dbe171b72a70f360d1be7b", func := "leverframe/leverframelaw16.InputBounds", spec := "inputBounds", unfollowed := true, recurses := true, apart := false }
def InputBoundsSaid : Prop := inputBoundsRow.holds Try.pinned (OpenSpec.ofChange inputBoundsSpec)

/-- ITS FALSE NEIGHBOUR: 'it returns false'. Refute it at one input. -/
def inputBoundsWrong : ChangeSpec := { name := "inputBounds", fn := fun _ => fun
  | [d1, d2, d3, d4] => { results := [.lit (.bool false)], args := [d1, d2, d3, d4] }
  | _ => none }
def InputBoundsWrongFalsely : Prop := inputBoundsRow.holds Try.pinned (OpenSpec.ofChange inputBoundsWrong)

/-- 'leverframelaw15.StateHolds': WHATEVER THE INPUT: true; the input reads as it did. -/
def stateHoldsSpec : ChangeSpec := { name := "stateHolds", fn := fun _ => fun
  | [d1, d2, d3] => { results := [.lit (.bool true)], args := [d1, d2, d3] }
  | _ => none }
def stateHoldsRow : OpenClaim := { program := "ytokllheinelgjaa", sum := "9721bde572721772b1eeb6b740e78c6062f0aa6250dbe171b72a70f360d1be7b", func := "leverframe/leverframelaw15.StateHolds", spec := "stateHolds", unfollowed := true, recurses := true, apart := false }
def StateHoldsSaid : Prop := stateHoldsRow.holds Try.pinned (OpenSpec.ofChange stateHoldsSpec)

/-- ITS FALSE NEIGHBOUR: 'it returns false'. Refute it at one input. -/
def stateHoldsWrong : ChangeSpec := { name := "stateHolds", fn := fun _ => fun
  | [d1, d2, d3] => { results := [.lit (.bool false)], args := [d1, d2, d3] }
  | _ => none }
def StateHoldsWrongFalsely : Prop := stateHoldsRow.holds Try.pinned (OpenSpec.ofChange stateHoldsWrong)

/-- 'leverframelaw15.StateRest': WHATEVER THE INPUT: true; the input reads as it did. -/
def stateRestSpec : ChangeSpec := { name := "stateRest", fn := fun _ => fun
  | [d1, d2] => { results := [.lit (.bool true)], args := [d1, d2] }
  | _ => none }
def stateRestRow : OpenClaim := { program := "ytokllheinelgjaa", sum := "9721bde572721772b1eeb6b740e78c6062f0aa6250dbe171b72a70f360d1be7b", func := "leverframe/leverframelaw15.StateRest", spec := "stateRest", unfollowed := true, recurses := true, apart := false }
def StateRestSaid : Prop := stateRestRow.holds Try.pinned (OpenSpec.ofChange stateRestSpec)

/-- ITS FALSE NEIGHBOUR: 'it returns false'. Refute it at one input. -/
def stateRestWrong : ChangeSpec := { name := "stateRest", fn := fun _ => fun
  | [d1, d2] => { results := [.lit (.bool false)], args := [d1, d2] }
  | _ => none }
def StateRestWrongFalsely : Prop := stateRestRow.holds Try.pinned (OpenSpec.ofChange stateRestWrong)

/-- 'leverframelaw16.InputApart': WHATEVER THE INPUT: true; the input reads as it did. -/
def inputApartSpec : ChangeSpec := { name := "inputApart", fn := fun _ => fun
  | [d1, d2] => { results := [.lit (.bool true)], args := [d1, d2] }
  | _ => none }
def inputApartRow : OpenClaim := { program := "ytokllheinelgjaa", sum := "9721bde572721772b1eeb6b740e78c6062f0aa6250dbe171b72a70f360d1be7b", func := "leverframe/leverframelaw16.InputApart", spec := "inputApart", unfollowed := true, recurses := true, apart := false }
def InputApartSaid : Prop := inputApartRow.holds Try.pinned (OpenSpec.ofChange inputApartSpec)

/-- ITS FALSE NEIGHBOUR: 'it returns false'. Refute it at one input. -/
def inputApartWrong : ChangeSpec := { name := "inputApart", fn := fun _ => fun
  | [d1, d2] => { results := [.lit (.bool false)], args := [d1, d2] }
  | _ => none }
def InputApartWrongFalsely : Prop := inputApartRow.holds Try.pinned (OpenSpec.ofChange inputApartWrong)

/-- 'leverframelaw15.StateImages': WHATEVER THE INPUT: true; the input reads as it did. -/
def stateImagesSpec : ChangeSpec := { name := "stateImages", fn := fun _ => fun
  | [d1, d2, d3, d4] => { results := [.lit (.bool true)], args := [d1, d2, d3, d4] }
  | _ => none }
def stateImagesRow : OpenClaim := { program := "ytokllheinelgjaa", sum := "9721bde572721772b1eeb6b740e78c6062f0aa6250dbe171b72a70f360d1be7b", func := "leverframe/leverframelaw15.StateImages", spec := "stateImages", unfollowed := true, recurses := true, apart := false }
def StateImagesSaid : Prop := stateImagesRow.holds Try.pinned (OpenSpec.ofChange stateImagesSpec)

/-- ITS FALSE NEIGHBOUR: 'it returns false'. Refute it at one input. -/
def stateImagesWrong : ChangeSpec := { name := "stateImages", fn := fun _ => fun
  | [d1, d2, d3, d4] => { results := [.lit (.bool false)], args := [d1, d2, d3, d4] }
  | _ => none }
def StateImagesWrongFalsely : Prop := stateImagesRow.holds Try.pinned (OpenSpec.ofChange stateImagesWrong)

/-- 'leverframelaw16.InputLast': WHATEVER THE INPUT: true; the input reads as it did. -/
def inputLastSpec : ChangeSpec := { name := "inputLast", fn := fun _ => fun
  | [d1, d2, d3, d4, d5] => { results := [.lit (.bool true)], args := [d1, d2, d3, d4, d5] }
  | _ => none }
def inputLastRow : OpenClaim := { program := "ytokllheinelgjaa", sum := "9721bde572721772b1eeb6b740e78c6062f0aa6250dbe171b72a70f360d1be7b", func := "leverframe/leverframelaw16.InputLast", spec := "inputLast", unfollowed := true, recurses := true, apart := false }
def InputLastSaid : Prop := inputLastRow.holds Try.pinned (OpenSpec.ofChange inputLastSpec)

/-- ITS FALSE NEIGHBOUR: 'it returns false'. Refute it at one input. -/
def inputLastWrong : ChangeSpec := { name := "inputLast", fn := fun _ => fun
  | [d1, d2, d3, d4, d5] => { results := [.lit (.bool false)], args := [d1, d2, d3, d4, d5] }
  | _ => none }
def InputLastWrongFalsely : Prop := inputLastRow.holds Try.pinned (OpenSpec.ofChange inputLastWrong)

/- THE SECOND FORM. 'bulk': how many values and letters a reading holds, each counted each time it is reached (what is shared counts as often as it is met; a slice's spare places count too). A statement '..UptoSaid' is the law's where the arguments, and the package variables that the reading takes, are together of bulk at most 1048576: NARROWER than '..Said'. Prove '..Said' where nothing that the law and all that it calls make is longer than what came in: it says more and counts as full. Else prove '..UptoSaid'. A law counts once. -/
mutual
def uptoBulk {H : Type} : DataW H → Nat
  | .lit (.string bytes) => bytes.length + 1
  | .lit _ => 1
  | .nil => 1
  | .ptr d => uptoBulk d + 1
  | .slice elems spare => uptoBulkAll elems + uptoBulkAll spare + 1
  | .agg parts => uptoBulkAll parts + 1
  | .iface _ d => uptoBulk d + 1
  | .map entries => uptoBulkEntries entries + 1
  | .held _ => 1
def uptoBulkAll {H : Type} : List (DataW H) → Nat
  | [] => 0
  | d :: r => uptoBulk d + uptoBulkAll r
def uptoBulkEntries {H : Type} : List (Lit × DataW H) → Nat
  | [] => 0
  | x :: r => uptoBulkEntry x + uptoBulkEntries r
def uptoBulkEntry {H : Type} : Lit × DataW H → Nat
  | (.string bytes, d) => bytes.length + uptoBulk d + 1
  | (_, d) => uptoBulk d + 1
 end
def uptoSmall : (H : Type) → List (DataW H) → Bool := fun _ ds => decide (uptoBulkAll ds ≤ 1048576)
def OpenSpec.upto (s : _root_.Go.ChangeSpec) : _root_.Go.OpenSpec := { _root_.Go.OpenSpec.ofChange s with cond := some uptoSmall }

/-- 'leverframelaw15.StateKeeps', WHERE WHAT IT READS IS OF BULK AT MOST 1048576: true; the input reads as it did. -/
def stateKeepsUptoRow : OpenClaim := { program := "ytokllheinelgjaa", sum := "9721bde572721772b1eeb6b740e78c6062f0aa6250dbe171b72a70f360d1be7b", func := "leverframe/leverframelaw15.StateKeeps", spec := "stateKeeps", unfollowed := true, recurses := true, apart := false, narrowed := true }
def StateKeepsUptoSaid : Prop := stateKeepsUptoRow.holds Try.pinned (OpenSpec.upto stateKeepsSpec)

/-- 'leverframelaw16.InputBounds', WHERE WHAT IT READS IS OF BULK AT MOST 1048576: true; the input reads as it did. -/
def inputBoundsUptoRow : OpenClaim := { program := "ytokllheinelgjaa", sum := "9721bde572721772b1eeb6b740e78c6062f0aa6250dbe171b72a70f360d1be7b", func := "leverframe/leverframelaw16.InputBounds", spec := "inputBounds", unfollowed := true, recurses := true, apart := false, narrowed := true }
def InputBoundsUptoSaid : Prop := inputBoundsUptoRow.holds Try.pinned (OpenSpec.upto inputBoundsSpec)

/-- 'leverframelaw15.StateHolds', WHERE WHAT IT READS IS OF BULK AT MOST 1048576: true; the input reads as it did. -/
def stateHoldsUptoRow : OpenClaim := { program := "ytokllheinelgjaa", sum := "9721bde572721772b1eeb6b740e78c6062f0aa6250dbe171b72a70f360d1be7b", func := "leverframe/leverframelaw15.StateHolds", spec := "stateHolds", unfollowed := true, recurses := true, apart := false, narrowed := true }
def StateHoldsUptoSaid : Prop := stateHoldsUptoRow.holds Try.pinned (OpenSpec.upto stateHoldsSpec)

/-- 'leverframelaw15.StateRest', WHERE WHAT IT READS IS OF BULK AT MOST 1048576: true; the input reads as it did. -/
def stateRestUptoRow : OpenClaim := { program := "ytokllheinelgjaa", sum := "9721bde572721772b1eeb6b740e78c6062f0aa6250dbe171b72a70f360d1be7b", func := "leverframe/leverframelaw15.StateRest", spec := "stateRest", unfollowed := true, recurses := true, apart := false, narrowed := true }
def StateRestUptoSaid : Prop := stateRestUptoRow.holds Try.pinned (OpenSpec.upto stateRestSpec)

/-- 'leverframelaw16.InputApart', WHERE WHAT IT READS IS OF BULK AT MOST 1048576: true; the input reads as it did. -/
def inputApartUptoRow : OpenClaim := { program := "ytokllheinelgjaa", sum := "9721bde572721772b1eeb6b740e78c6062f0aa6250dbe171b72a70f360d1be7b", func := "leverframe/leverframelaw16.InputApart", spec := "inputApart", unfollowed := true, recurses := true, apart := false, narrowed := true }
def InputApartUptoSaid : Prop := inputApartUptoRow.holds Try.pinned (OpenSpec.upto inputApartSpec)

/-- 'leverframelaw15.StateImages', WHERE WHAT IT READS IS OF BULK AT MOST 1048576: true; the input reads as it did. -/
def stateImagesUptoRow : OpenClaim := { program := "ytokllheinelgjaa", sum := "9721bde572721772b1eeb6b740e78c6062f0aa6250dbe171b72a70f360d1be7b", func := "leverframe/leverframelaw15.StateImages", spec := "stateImages", unfollowed := true, recurses := true, apart := false, narrowed := true }
def StateImagesUptoSaid : Prop := stateImagesUptoRow.holds Try.pinned (OpenSpec.upto stateImagesSpec)

/-- 'leverframelaw16.InputLast', WHERE WHAT IT READS IS OF BULK AT MOST 1048576: true; the input reads as it did. -/
def inputLastUptoRow : OpenClaim := { program := "ytokllheinelgjaa", sum := "9721bde572721772b1eeb6b740e78c6062f0aa6250dbe171b72a70f360d1be7b", func := "leverframe/leverframelaw16.InputLast", spec := "inputLast", unfollowed := true, recurses := true, apart := false, narrowed := true }
def InputLastUptoSaid : Prop := inputLastUptoRow.holds Try.pinned (OpenSpec.upto inputLastSpec)

end Rows
end Go.Proofs.Ytokllheinelgjaa
