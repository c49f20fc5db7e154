/-
  No cell of these rows narrows 'for every input' (looked for: loops, veiled, ifaces, maps, wideKeys, modest, calm, conditions, laid).
  DERIVED. THE GIVEN ROWS OF THIS SEAT. 8 by the template 'for every input the law returns true; each argument reads behind the call as it read before'; 0 by the template 'total and deterministic' (their statements: YtfccjknloajclaaGreatTotals.lean).
  GIVEN WITH THE SEED: the statements are not yours to turn. If you find one false, say at which input.
  Laid BY PROGRAM, IN A SANDBOX (cutbox-rows.mjs): the forced cells as the released guide's own fill.sh prints them over the translation 980e639ad43f859a… (all of the seat's roots in one cut). By AI agents, Wed Nov 11 2026. No macro, syntax, notation, axiom, sorry.
-/
import Derived.Test.YtfccjknloajclaaGreatChecked
import GoSem.Claim
import GoSem.ClaimJoined
import GoSem.ClaimMapViews
import Derived.JoinedTies
import Derived.KernelRfl
namespace Go.Proofs.YtfccjknloajclaaGreat
/- THE CELL 'sum', in the pinned program and in every row, IS THE sha256 OF THE DUMP (.gsa) THAT YtfccjknloajclaaGreatProg.lean LOADS. Nothing in Lean hashes anything: it is a label: what it is worth is what the hold of that sum in a sandbox is worth. -/
noncomputable def Tryz.pinned : Pinned := { name := "ytfccjknloajclaagreat", sum := "980e639ad43f859aa15d231281e417dc0cf53e9bd36eddc25f885f6a3c0660fb", checked := Tryz.checked }
namespace Rows
def none {H : Type} : Left H := { results := [], args := [] }

/-- 'leverframelaw19.ProveTells': WHATEVER THE INPUT: true; the input reads as it did. -/
def proveTellsSpec : ChangeSpec := { name := "proveTells", fn := fun _ => fun
  | [d1, d2, d3] => { results := [.lit (.bool true)], args := [d1, d2, d3] }
  | _ => none }
def proveTellsRow : OpenClaim := { program := "ytfccjknloajclaagreat", sum := "980e639ad43f859aa15d231281e417dc0cf53e9bd36eddc25f885f6a3c0660fb", func := "leverframe/leverframelaw19.ProveTells", spec := "proveTells", unfollowed := true, recurses := true, apart := false }
def ProveTellsSaid : Prop := proveTellsRow.holds Tryz.pinned (OpenSpec.ofChange proveTellsSpec)

/-- ITS FALSE NEIGHBOUR: 'it returns false'. Refute it at one input. -/
def proveTellsWrong : ChangeSpec := { name := "proveTells", fn := fun _ => fun
  | [d1, d2, d3] => { results := [.lit (.bool false)], args := [d1, d2, d3] }
  | _ => none }
def ProveTellsWrongFalsely : Prop := proveTellsRow.holds Tryz.pinned (OpenSpec.ofChange proveTellsWrong)

/-- 'leverframelaw20.AspectShows': WHATEVER THE INPUT: true; the input reads as it did. -/
def aspectShowsSpec : ChangeSpec := { name := "aspectShows", fn := fun _ => fun
  | [d1, d2] => { results := [.lit (.bool true)], args := [d1, d2] }
  | _ => none }
def aspectShowsRow : OpenClaim := { program := "ytfccjknloajclaagreat", sum := "980e639ad43f859aa15d231281e417dc0cf53e9bd36eddc25f885f6a3c0660fb", func := "leverframe/leverframelaw20.AspectShows", spec := "aspectShows", unfollowed := true, recurses := true, apart := false }
def AspectShowsSaid : Prop := aspectShowsRow.holds Tryz.pinned (OpenSpec.ofChange aspectShowsSpec)

/-- ITS FALSE NEIGHBOUR: 'it returns false'. Refute it at one input. -/
def aspectShowsWrong : ChangeSpec := { name := "aspectShows", fn := fun _ => fun
  | [d1, d2] => { results := [.lit (.bool false)], args := [d1, d2] }
  | _ => none }
def AspectShowsWrongFalsely : Prop := aspectShowsRow.holds Tryz.pinned (OpenSpec.ofChange aspectShowsWrong)

/-- 'leverframelaw19.ProveJust': WHATEVER THE INPUT: true; the input reads as it did. -/
def proveJustSpec : ChangeSpec := { name := "proveJust", fn := fun _ => fun
  | [d1, d2, d3] => { results := [.lit (.bool true)], args := [d1, d2, d3] }
  | _ => none }
def proveJustRow : OpenClaim := { program := "ytfccjknloajclaagreat", sum := "980e639ad43f859aa15d231281e417dc0cf53e9bd36eddc25f885f6a3c0660fb", func := "leverframe/leverframelaw19.ProveJust", spec := "proveJust", unfollowed := true, recurses := true, apart := false }
def ProveJustSaid : Prop := proveJustRow.holds Tryz.pinned (OpenSpec.ofChange proveJustSpec)

/-- ITS FALSE NEIGHBOUR: 'it returns false'. Refute it at one input. -/
def proveJustWrong : ChangeSpec := { name := "proveJust", fn := fun _ => fun
  | [d1, d2, d3] => { results := [.lit (.bool false)], args := [d1, d2, d3] }
  | _ => none }
def ProveJustWrongFalsely : Prop := proveJustRow.holds Tryz.pinned (OpenSpec.ofChange proveJustWrong)

/-- 'leverframelaw20.AspectFalls': WHATEVER THE INPUT: true; the input reads as it did. -/
def aspectFallsSpec : ChangeSpec := { name := "aspectFalls", fn := fun _ => fun
  | [d1, d2, d3, d4] => { results := [.lit (.bool true)], args := [d1, d2, d3, d4] }
  | _ => none }
def aspectFallsRow : OpenClaim := { program := "ytfccjknloajclaagreat", sum := "980e639ad43f859aa15d231281e417dc0cf53e9bd36eddc25f885f6a3c0660fb", func := "leverframe/leverframelaw20.AspectFalls", spec := "aspectFalls", unfollowed := true, recurses := true, apart := false }
def AspectFallsSaid : Prop := aspectFallsRow.holds Tryz.pinned (OpenSpec.ofChange aspectFallsSpec)

/-- ITS FALSE NEIGHBOUR: 'it returns false'. Refute it at one input. -/
def aspectFallsWrong : ChangeSpec := { name := "aspectFalls", fn := fun _ => fun
  | [d1, d2, d3, d4] => { results := [.lit (.bool false)], args := [d1, d2, d3, d4] }
  | _ => none }
def AspectFallsWrongFalsely : Prop := aspectFallsRow.holds Tryz.pinned (OpenSpec.ofChange aspectFallsWrong)

/-- 'leverframelaw19.ProveFalls': WHATEVER THE INPUT: true; the input reads as it did. -/
def proveFallsSpec : ChangeSpec := { name := "proveFalls", fn := fun _ => fun
  | [d1, d2, d3, d4, d5] => { results := [.lit (.bool true)], args := [d1, d2, d3, d4, d5] }
  | _ => none }
def proveFallsRow : OpenClaim := { program := "ytfccjknloajclaagreat", sum := "980e639ad43f859aa15d231281e417dc0cf53e9bd36eddc25f885f6a3c0660fb", func := "leverframe/leverframelaw19.ProveFalls", spec := "proveFalls", unfollowed := true, recurses := true, apart := false }
def ProveFallsSaid : Prop := proveFallsRow.holds Tryz.pinned (OpenSpec.ofChange proveFallsSpec)

/-- ITS FALSE NEIGHBOUR: 'it returns false'. Refute it at one input. -/
def proveFallsWrong : ChangeSpec := { name := "proveFalls", fn := fun _ => fun
  | [d1, d2, d3, d4, d5] => { results := [.lit (.bool false)], args := [d1, d2, d3, d4, d5] }
  | _ => none }
def ProveFallsWrongFalsely : Prop := proveFallsRow.holds Tryz.pinned (OpenSpec.ofChange proveFallsWrong)

/-- 'leverframelaw19.ProveSafe': WHATEVER THE INPUT: true; the input reads as it did. -/
def proveSafeSpec : ChangeSpec := { name := "proveSafe", fn := fun _ => fun
  | [d1, d2, d3] => { results := [.lit (.bool true)], args := [d1, d2, d3] }
  | _ => none }
def proveSafeRow : OpenClaim := { program := "ytfccjknloajclaagreat", sum := "980e639ad43f859aa15d231281e417dc0cf53e9bd36eddc25f885f6a3c0660fb", func := "leverframe/leverframelaw19.ProveSafe", spec := "proveSafe", unfollowed := true, recurses := true, apart := false }
def ProveSafeSaid : Prop := proveSafeRow.holds Tryz.pinned (OpenSpec.ofChange proveSafeSpec)

/-- ITS FALSE NEIGHBOUR: 'it returns false'. Refute it at one input. -/
def proveSafeWrong : ChangeSpec := { name := "proveSafe", fn := fun _ => fun
  | [d1, d2, d3] => { results := [.lit (.bool false)], args := [d1, d2, d3] }
  | _ => none }
def ProveSafeWrongFalsely : Prop := proveSafeRow.holds Tryz.pinned (OpenSpec.ofChange proveSafeWrong)

/-- 'leverframelaw20.AspectProceeds': WHATEVER THE INPUT: true; the input reads as it did. -/
def aspectProceedsSpec : ChangeSpec := { name := "aspectProceeds", fn := fun _ => fun
  | [d1, d2] => { results := [.lit (.bool true)], args := [d1, d2] }
  | _ => none }
def aspectProceedsRow : OpenClaim := { program := "ytfccjknloajclaagreat", sum := "980e639ad43f859aa15d231281e417dc0cf53e9bd36eddc25f885f6a3c0660fb", func := "leverframe/leverframelaw20.AspectProceeds", spec := "aspectProceeds", unfollowed := true, recurses := true, apart := false }
def AspectProceedsSaid : Prop := aspectProceedsRow.holds Tryz.pinned (OpenSpec.ofChange aspectProceedsSpec)

/-- ITS FALSE NEIGHBOUR: 'it returns false'. Refute it at one input. -/
def aspectProceedsWrong : ChangeSpec := { name := "aspectProceeds", fn := fun _ => fun
  | [d1, d2] => { results := [.lit (.bool false)], args := [d1, d2] }
  | _ => none }
def AspectProceedsWrongFalsely : Prop := aspectProceedsRow.holds Tryz.pinned (OpenSpec.ofChange aspectProceedsWrong)

/-- 'leverframelaw20.AspectCalls': WHATEVER THE INPUT: true; the input reads as it did. -/
def aspectCallsSpec : ChangeSpec := { name := "aspectCalls", fn := fun _ => fun
  | [d1, d2, d3, d4] => { results := [.lit (.bool true)], args := [d1, d2, d3, d4] }
  | _ => none }
def aspectCallsRow : OpenClaim := { program := "ytfccjknloajclaagreat", sum := "980e639ad43f859aa15d231281e417dc0cf53e9bd36eddc25f885f6a3c0660fb", func := "leverframe/leverframelaw20.AspectCalls", spec := "aspectCalls", unfollowed := true, recurses := true, apart := false }
def AspectCallsSaid : Prop := aspectCallsRow.holds Tryz.pinned (OpenSpec.ofChange aspectCallsSpec)

/-- ITS FALSE NEIGHBOUR: 'it returns false'. Refute it at one input. -/
def aspectCallsWrong : ChangeSpec := { name := "aspectCalls", fn := fun _ => fun
  | [d1, d2, d3, d4] => { results := [.lit (.bool false)], args := [d1, d2, d3, d4] }
  | _ => none }
def AspectCallsWrongFalsely : Prop := aspectCallsRow.holds Tryz.pinned (OpenSpec.ofChange aspectCallsWrong)

/- THE SECOND FORM. 'bulk': how many values and letters a reading holds, each counted each time it is reached (what is shared counts as often as it is met; a slice's spare places count too). A statement '..UptoSaid' is the law's where the arguments, and the package variables that the reading takes, are together of bulk at most 1048576: NARROWER than '..Said'. Prove '..Said' where nothing that the law and all that it calls make is longer than what came in: it says more and counts as full. Else prove '..UptoSaid'. A law counts once. -/
mutual
def uptoBulk {H : Type} : DataW H → Nat
  | .lit (.string bytes) => bytes.length + 1
  | .lit _ => 1
  | .nil => 1
  | .ptr d => uptoBulk d + 1
  | .slice elems spare => uptoBulkAll elems + uptoBulkAll spare + 1
  | .agg parts => uptoBulkAll parts + 1
  | .iface _ d => uptoBulk d + 1
  | .map entries => uptoBulkEntries entries + 1
  | .held _ => 1
def uptoBulkAll {H : Type} : List (DataW H) → Nat
  | [] => 0
  | d :: r => uptoBulk d + uptoBulkAll r
def uptoBulkEntries {H : Type} : List (Lit × DataW H) → Nat
  | [] => 0
  | x :: r => uptoBulkEntry x + uptoBulkEntries r
def uptoBulkEntry {H : Type} : Lit × DataW H → Nat
  | (.string bytes, d) => bytes.length + uptoBulk d + 1
  | (_, d) => uptoBulk d + 1
 end
def uptoSmall : (H : Type) → List (DataW H) → Bool := fun _ ds => decide (uptoBulkAll ds ≤ 1048576)
def OpenSpec.upto (s : _root_.Go.ChangeSpec) : _root_.Go.OpenSpec := { _root_.Go.OpenSpec.ofChange s with cond := some uptoSmall }

/-- 'leverframelaw19.ProveTells', WHERE WHAT IT READS IS OF BULK AT MOST 1048576: true; the input reads as it did. -/
def proveTellsUptoRow : OpenClaim := { program := "ytfccjknloajclaagreat", sum := "980e639ad43f859aa15d231281e417dc0cf53e9bd36eddc25f885f6a3c0660fb", func := "leverframe/leverframelaw19.ProveTells", spec := "proveTells", unfollowed := true, recurses := true, apart := false, narrowed := true }
def ProveTellsUptoSaid : Prop := proveTellsUptoRow.holds Tryz.pinned (OpenSpec.upto proveTellsSpec)

/-- 'leverframelaw20.AspectShows', WHERE WHAT IT READS IS OF BULK AT MOST 1048576: true; the input reads as it did. -/
def aspectShowsUptoRow : OpenClaim := { program := "ytfccjknloajclaagreat", sum := "980e639ad43f859aa15d231281e417dc0cf53e9bd36eddc25f885f6a3c0660fb", func := "leverframe/leverframelaw20.AspectShows", spec := "aspectShows", unfollowed := true, recurses := true, apart := false, narrowed := true }
def AspectShowsUptoSaid : Prop := aspectShowsUptoRow.holds Tryz.pinned (OpenSpec.upto aspectShowsSpec)

/-- 'leverframelaw19.ProveJust', WHERE WHAT IT READS IS OF BULK AT MOST 1048576: true; the input reads as it did. -/
def proveJustUptoRow : OpenClaim := { program := "ytfccjknloajclaagreat", sum := "980e639ad43f859aa15d231281e417dc0cf53e9bd36eddc25f885f6a3c0660fb", func := "leverframe/leverframelaw19.ProveJust", spec := "proveJust", unfollowed := true, recurses := true, apart := false, narrowed := true }
def ProveJustUptoSaid : Prop := proveJustUptoRow.holds Tryz.pinned (OpenSpec.upto proveJustSpec)

/-- 'leverframelaw20.AspectFalls', WHERE WHAT IT READS IS OF BULK AT MOST 1048576: true; the input reads as it did. -/
def aspectFallsUptoRow : OpenClaim := { program := "ytfccjknloajclaagreat", sum := "980e639ad43f859aa15d231281e417dc0cf53e9bd36eddc25f885f6a3c0660fb", func := "leverframe/leverframelaw20.AspectFalls", spec := "aspectFalls", unfollowed := true, recurses := true, apart := false, narrowed := true }
def AspectFallsUptoSaid : Prop := aspectFallsUptoRow.holds Tryz.pinned (OpenSpec.upto aspectFallsSpec)

/-- 'leverframelaw19.ProveFalls', WHERE WHAT IT READS IS OF BULK AT MOST 1048576: true; the input reads as it did. -/
def proveFallsUptoRow : OpenClaim := { program := "ytfccjknloajclaagreat", sum := "980e639ad43f859aa15d231281e417dc0cf53e9bd36eddc25f885f6a3c0660fb", func := "leverframe/leverframelaw19.ProveFalls", spec := "proveFalls", unfollowed := true, recurses := true, apart := false, narrowed := true }
def ProveFallsUptoSaid : Prop := proveFallsUptoRow.holds Tryz.pinned (OpenSpec.upto proveFallsSpec)

/-- 'leverframelaw19.ProveSafe', WHERE WHAT IT READS IS OF BULK AT MOST 1048576: true; the input reads as it did. -/
def proveSafeUptoRow : OpenClaim := { program := "ytfccjknloajclaagreat", sum := "980e639ad43f859aa15d231281e417dc0cf53e9bd36eddc25f885f6a3c0660fb", func := "leverframe/leverframelaw19.ProveSafe", spec := "proveSafe", unfollowed := true, recurses := true, apart := false, narrowed := true }
def ProveSafeUptoSaid : Prop := proveSafeUptoRow.holds Tryz.pinned (OpenSpec.upto proveSafeSpec)

/-- 'leverframelaw20.AspectProceeds', WHERE WHAT IT READS IS OF BULK AT MOST 1048576: true; the input reads as it did. -/
def aspectProceedsUptoRow : OpenClaim := { program := "ytfccjknloajclaagreat", sum := "980e639ad43f859aa15d231281e417dc0cf53e9bd36eddc25f885f6a3c0660fb", func := "leverframe/leverframelaw20.AspectProceeds", spec := "aspectProceeds", unfollowed := true, recurses := true, apart := false, narrowed := true }
def AspectProceedsUptoSaid : Prop := aspectProceedsUptoRow.holds Tryz.pinned (OpenSpec.upto aspectProceedsSpec)

/-- 'leverframelaw20.AspectCalls', WHERE WHAT IT READS IS OF BULK AT MOST 1048576: true; the input reads as it did. -/
def aspectCallsUptoRow : OpenClaim := { program := "ytfccjknloajclaagreat", sum := "980e639ad43f859aa15d231281e417dc0cf53e9bd36eddc25f885f6a3c0660fb", func := "leverframe/leverframelaw20.AspectCalls", spec := "aspectCalls", unfollowed := true, recurses := true, apart := false, narrowed := true }
def AspectCallsUptoSaid : Prop := aspectCallsUptoRow.holds Tryz.pinned (OpenSpec.upto aspectCallsSpec)

end Rows
end Go.Proofs.YtfccjknloajclaaGreat
