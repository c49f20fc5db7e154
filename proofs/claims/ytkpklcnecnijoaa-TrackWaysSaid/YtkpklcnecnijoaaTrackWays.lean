/-
  For every section leverframelaw07.TrackWays returns true, and its argument reads as it did. No condition.
-/
import Derived.Test.YtkpklcnecnijoaaRows
import Derived.Test.YtkpklcnecnijoaaSeat
import Derived.Test.YtkpklcnecnijoaaEngY12
import Derived.Test.YtkpklcnecnijoaaEngX2
namespace Go.Proofs.Ytkpklcnecnijoaa
open Go.ChangeShapes Go.WideShapes Go.ChangeAt Go.RowKit Go.Eng Go.Lev
theorem own : ownKnob Try.prog.godebug = none := by kernel_rfl
theorem laid : laidOutB Try.prog = true := by kernel_rfl
def shapes : List Sh := [shSection]
theorem trackWays_pcd (ds : List D) (hds : Sh.okL shapes ds) : PC Try.prog Go.Eng.Try.inv 7 (Sh.args shapes ds) (fun r => r = .b true) := by
  have hH := Go.Eng.Try.all
  obtain ⟨d1, ds, rfl, h1, hds⟩ := of_cons hds
  obtain rfl := of_nil hds
  obtain ⟨s, e1, _⟩ := arg_section h1
  simp only [shapes, Sh.args, e1]
  exact Go.Lev.trackWays_pc hH s
set_option maxRecDepth 100000 in
theorem trackWays_lifted (os : Os) (started : os.Started) (H : Type) (enc : TypeId × Value → H) :
    ReturnsInHanded {} Try.checked os 10 .any (Rows.trackWaysSpec.pre6 enc Try.prog Try.f10 Rows.trackWaysRow.domain false) (Rows.trackWaysSpec.post enc Try.prog Try.f10 false true false false) := by
  refine returnsInHanded_of_change (C := Try.checked) own started (by kernel_rfl) Try.func10
    (ChangeSpec.witness6 (enc := enc) (C := Try.checked) false ⟨#[], #[.agg #[.int .i64 0, .int .i64 0, .slice none 0 0]], []⟩ 8 (by kernel_rfl) (by kernel_rfl) (by kernel_rfl) (by kernel_rfl)) ?_
  intro W base args ds gs before hval hW _ _
  exact law_of_pc (fn := Try.f10) (s := Rows.trackWaysSpec) (inv := Go.Eng.Try.inv) (n := 9) (tb := 4) (Ss := shapes) rfl laid (by kernel_rfl) (by kernel_rfl) (by kernel_rfl) (by kernel_rfl) rfl
    (fun l hl => by rcases l with _ | ⟨a0, _ | ⟨z, l⟩⟩ <;> first | rfl | (simp [shapes] at hl; done)) trackWays_pcd W base args ds gs before hval hW
theorem trackWays_holds : Rows.TrackWaysSaid :=
  OpenClaim.holds_of_wide 10 Try.f10 rfl rfl rfl rfl rfl rfl rfl ⟨rfl, rfl, rfl, rfl, rfl⟩ rfl rfl rfl rfl rfl (by kernel_rfl) Try.func10 (by kernel_rfl)
    (of_decide_eq_true (by kernel_rfl)) (by unfold Func.isWrapper; first | (rw [if_pos (by decide +kernel)]; kernel_rfl) | (rw [if_neg (by decide +kernel)]; exact ⟨rfl, rfl⟩))
    (fun os started H enc _ => trackWays_lifted os started H enc)
end Go.Proofs.Ytkpklcnecnijoaa
