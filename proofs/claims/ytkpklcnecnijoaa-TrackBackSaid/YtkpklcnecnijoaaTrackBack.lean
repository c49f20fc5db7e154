/-
  For every list of sections leverframelaw07.TrackBack returns true, and its argument reads as it did. No condition.
-/
import Derived.Test.YtkpklcnecnijoaaRows
import Derived.Test.YtkpklcnecnijoaaSeat
import Derived.Test.YtkpklcnecnijoaaEngY17
import Derived.Test.YtkpklcnecnijoaaEngX2
namespace Go.Proofs.Ytkpklcnecnijoaa
open Go.ChangeShapes Go.WideShapes Go.ChangeAt Go.RowKit Go.Eng Go.Lev
theorem own : ownKnob Try.prog.godebug = none := by kernel_rfl
theorem laid : laidOutB Try.prog = true := by kernel_rfl
def shapes : List Sh := [.s 3 shSection]
theorem trackBack_pcd (ds : List D) (hds : Sh.okL shapes ds) : PC Try.prog Go.Eng.Try.inv 3 (Sh.args shapes ds) (fun r => r = .b true) := by
  have hH := Go.Eng.Try.all
  obtain ⟨d1, ds, rfl, h1, hds⟩ := of_cons hds
  obtain rfl := of_nil hds
  obtain ⟨l, e1, _⟩ := arg_list of_section h1
  simp only [shapes, Sh.args, e1]
  exact Go.Lev.trackBack_pc hH l
set_option maxRecDepth 100000 in
theorem trackBack_lifted (os : Os) (started : os.Started) (H : Type) (enc : TypeId × Value → H) :
    ReturnsInHanded {} Try.checked os 6 .any (Rows.trackBackSpec.pre6 enc Try.prog Try.f6 Rows.trackBackRow.domain false) (Rows.trackBackSpec.post enc Try.prog Try.f6 false true false false) := by
  refine returnsInHanded_of_change (C := Try.checked) own started (by kernel_rfl) Try.func6
    (ChangeSpec.witness6 (enc := enc) (C := Try.checked) false ⟨#[], #[.slice none 0 0], []⟩ 8 (by kernel_rfl) (by kernel_rfl) (by kernel_rfl) (by kernel_rfl)) ?_
  intro W base args ds gs before hval hW _ _
  exact law_of_pc (fn := Try.f6) (s := Rows.trackBackSpec) (inv := Go.Eng.Try.inv) (n := 40) (tb := 4) (Ss := shapes) rfl laid (by kernel_rfl) (by kernel_rfl) (by kernel_rfl) (by kernel_rfl) rfl
    (fun l hl => by rcases l with _ | ⟨a0, _ | ⟨z, l⟩⟩ <;> first | rfl | (simp [shapes] at hl; done)) trackBack_pcd W base args ds gs before hval hW
theorem trackBack_holds : Rows.TrackBackSaid :=
  OpenClaim.holds_of_wide 6 Try.f6 rfl rfl rfl rfl rfl rfl rfl ⟨rfl, rfl, rfl, rfl, rfl⟩ rfl rfl rfl rfl rfl (by kernel_rfl) Try.func6 (by kernel_rfl)
    (of_decide_eq_true (by kernel_rfl)) (by unfold Func.isWrapper; first | (rw [if_pos (by decide +kernel)]; kernel_rfl) | (rw [if_neg (by decide +kernel)]; exact ⟨rfl, rfl⟩))
    (fun os started H enc _ => trackBack_lifted os started H enc)
end Go.Proofs.Ytkpklcnecnijoaa
