/-
  For every list of sections, number and end leverframelaw07.TrackTells returns true, and its arguments read as they did. No condition.
-/
import Derived.Test.YtkpklcnecnijoaaRows
import Derived.Test.YtkpklcnecnijoaaSeat
import Derived.Test.YtkpklcnecnijoaaEngY19
import Derived.Test.YtkpklcnecnijoaaEngX2
namespace Go.Proofs.Ytkpklcnecnijoaa
open Go.ChangeShapes Go.WideShapes Go.ChangeAt Go.RowKit Go.Eng Go.Lev
theorem own : ownKnob Try.prog.godebug = none := by kernel_rfl
theorem laid : laidOutB Try.prog = true := by kernel_rfl
def shapes : List Sh := [.s 3 shSection, .i .i64, .i .i64]
theorem trackTells_pcd (ds : List D) (hds : Sh.okL shapes ds) : PC Try.prog Go.Eng.Try.inv 2 (Sh.args shapes ds) (fun r => r = .b true) := by
  have hH := Go.Eng.Try.all
  obtain ⟨d1, ds, rfl, h1, hds⟩ := of_cons hds
  obtain ⟨d2, ds, rfl, h2, hds⟩ := of_cons hds
  obtain ⟨d3, ds, rfl, h3, hds⟩ := of_cons hds
  obtain rfl := of_nil hds
  obtain ⟨l, e1, _, hl⟩ := arg_list of_section h1
  obtain ⟨a, e2, _⟩ := arg_i64 h2
  obtain ⟨b, e3, _⟩ := arg_i64 h3
  simp only [shapes, Sh.args, e1, e2, e3]
  exact Go.Lev.trackTells_pc hH l hl a b
set_option maxRecDepth 100000 in
theorem trackTells_lifted (os : Os) (started : os.Started) (H : Type) (enc : TypeId × Value → H) :
    ReturnsInHanded {} Try.checked os 5 .any (Rows.trackTellsSpec.pre6 enc Try.prog Try.f5 Rows.trackTellsRow.domain false) (Rows.trackTellsSpec.post enc Try.prog Try.f5 false true false false) := by
  refine returnsInHanded_of_change (C := Try.checked) own started (by kernel_rfl) Try.func5
    (ChangeSpec.witness6 (enc := enc) (C := Try.checked) false ⟨#[], #[.slice none 0 0, .int .i64 0, .int .i64 0], []⟩ 8 (by kernel_rfl) (by kernel_rfl) (by kernel_rfl) (by kernel_rfl)) ?_
  intro W base args ds gs before hval hW _ _
  exact law_of_pc (fn := Try.f5) (s := Rows.trackTellsSpec) (inv := Go.Eng.Try.inv) (n := 40) (tb := 4) (Ss := shapes) rfl laid (by kernel_rfl) (by kernel_rfl) (by kernel_rfl) (by kernel_rfl) rfl
    (fun l hl => by rcases l with _ | ⟨a0, _ | ⟨a1, _ | ⟨a2, _ | ⟨z, l⟩⟩⟩⟩ <;> first | rfl | (simp [shapes] at hl; done)) trackTells_pcd W base args ds gs before hval hW
theorem trackTells_holds : Rows.TrackTellsSaid :=
  OpenClaim.holds_of_wide 5 Try.f5 rfl rfl rfl rfl rfl rfl rfl ⟨rfl, rfl, rfl, rfl, rfl⟩ rfl rfl rfl rfl rfl (by kernel_rfl) Try.func5 (by kernel_rfl)
    (of_decide_eq_true (by kernel_rfl)) (by unfold Func.isWrapper; first | (rw [if_pos (by decide +kernel)]; kernel_rfl) | (rw [if_neg (by decide +kernel)]; exact ⟨rfl, rfl⟩))
    (fun os started H enc _ => trackTells_lifted os started H enc)
end Go.Proofs.Ytkpklcnecnijoaa
