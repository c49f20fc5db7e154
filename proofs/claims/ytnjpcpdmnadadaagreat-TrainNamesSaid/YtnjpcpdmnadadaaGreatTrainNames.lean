/-
  The law TrainNames of layer 31 answers true, and never panics. Conditions: none.
-/
import Derived.Test.YtnjpcpdmnadadaaGreatRows
import Derived.Test.YtnjpcpdmnadadaaGreatSeat
import Derived.Test.YtnjpcpdmnadadaaGreatIds
import Derived.Test.YtnjpcpdmnadadaaGreatIns
import Derived.Test.YtnjpcpdmnadadaaGreatE1
namespace Go.Proofs.YtnjpcpdmnadadaaGreat
open Go.ChangeShapes Go.WideShapes Go.ChangeAt Go.RowKit Go.Eng Go.Lev
theorem own : ownKnob Tryz.prog.godebug = none := by kernel_rfl
theorem laid : laidOutB Tryz.prog = true := by kernel_rfl
def shapes : List Sh := []
theorem trainNames_pcd (ds : List D) (hds : zdE shapes ds) : PC Tryz.prog Go.Eng.Tryz.inv 194 (zml shapes ds) (fun r => r = .b true) := by
  have hH := Go.Eng.Tryz.all
  have hI := Go.Eng.Tryz.ids
  have hIn := Go.Eng.Tryz.insAll
  obtain rfl := zda hds
  exact Go.Lev.trainNames_pc hH hI hIn
set_option maxRecDepth 100000 in
theorem trainNames_lifted (os : Os) (started : os.Started) (H : Type) (enc : TypeId × Value → H) :
    ReturnsInHanded {} Tryz.checked os 4 .any (Rows.trainNamesSpec.pre6 enc Tryz.prog Tryz.f4 Rows.trainNamesRow.domain false) (Rows.trainNamesSpec.post enc Tryz.prog Tryz.f4 false true false false) := by
  refine returnsInHanded_of_change (C := Tryz.checked) own started (by kernel_rfl) Tryz.func4
    (ChangeSpec.witness6 (enc := enc) (C := Tryz.checked) false ⟨#[], #[], []⟩ 8 (by kernel_rfl) (by kernel_rfl) (by kernel_rfl) (by kernel_rfl)) ?_
  intro W base args ds gs before hval hW _ _
  exact law_of_pc (fn := Tryz.f4) (s := Rows.trainNamesSpec) (inv := Go.Eng.Tryz.inv) (n := 40) (tb := 4) (Ss := shapes) rfl laid (by kernel_rfl) (by kernel_rfl) (by kernel_rfl) (by kernel_rfl) rfl
    (fun l hl => by rcases l with _ | ⟨z, l⟩ <;> first | rfl | (simp [shapes] at hl; done)) trainNames_pcd W base args ds gs before hval hW
theorem trainNames_n : Tryz.checked.prog.funcNamed Rows.trainNamesRow.func = some 4 := by kernel_rfl
theorem trainNames_c : joinedFacts Tryz.checked.prog 4 Tryz.f4 Rows.trainNamesSpec Rows.trainNamesRow = true := by kernel_rfl
theorem trainNames_i : Tryz.f4.isInstance Tryz.checked.prog Rows.trainNamesRow.origin Rows.trainNamesRow.targs := of_decide_eq_true (by kernel_rfl)
theorem trainNames_w : Tryz.f4.isWrapper Tryz.checked.prog Rows.trainNamesRow.wrapper Rows.trainNamesRow.mainSum := by unfold Func.isWrapper; first | (rw [if_pos (by decide +kernel)]; kernel_rfl) | (rw [if_neg (by decide +kernel)]; exact ⟨rfl, rfl⟩)
theorem trainNames_holds : Rows.TrainNamesSaid :=
  OpenClaim.holds_of_wide 4 Tryz.f4 rfl rfl rfl rfl rfl rfl rfl ⟨rfl, rfl, rfl, rfl, rfl⟩ rfl rfl rfl rfl rfl trainNames_n Tryz.func4 trainNames_c trainNames_i trainNames_w
    (fun os started H enc _ => trainNames_lifted os started H enc)
end Go.Proofs.YtnjpcpdmnadadaaGreat
