/-
  For every section and every three numbers leverframelaw07.TrackThrough returns true, and its arguments read as they did. No condition.
-/
import Derived.Test.YtkpklcnecnijoaaRows
import Derived.Test.YtkpklcnecnijoaaSeat
import Derived.Test.YtkpklcnecnijoaaEngY5
import Derived.Test.YtkpklcnecnijoaaEngX2
namespace Go.Proofs.Ytkpklcnecnijoaa
open Go.ChangeShapes Go.WideShapes Go.ChangeAt Go.RowKit Go.Eng Go.Lev
theorem own : ownKnob Try.prog.godebug = none := by kernel_rfl
theorem laid : laidOutB Try.prog = true := by kernel_rfl
def shapes : List Sh := [shSection, .i .i64, .i .i64, .i .i64]
theorem trackThrough_pcd (ds : List D) (hds : Sh.okL shapes ds) : PC Try.prog Go.Eng.Try.inv 1 (Sh.args shapes ds) (fun r => r = .b true) := by
  have hH := Go.Eng.Try.all
  obtain ⟨d1, ds, rfl, h1, hds⟩ := of_cons hds
  obtain ⟨d2, ds, rfl, h2, hds⟩ := of_cons hds
  obtain ⟨d3, ds, rfl, h3, hds⟩ := of_cons hds
  obtain ⟨d4, ds, rfl, h4, hds⟩ := of_cons hds
  obtain rfl := of_nil hds
  obtain ⟨s, e1, _⟩ := arg_section h1
  obtain ⟨f, e2, _⟩ := arg_i64 h2
  obtain ⟨t, e3, _⟩ := arg_i64 h3
  obtain ⟨l, e4, _⟩ := arg_i64 h4
  simp only [shapes, Sh.args, e1, e2, e3, e4]
  exact trackThrough_pc hH s f t l
set_option maxRecDepth 100000 in
theorem trackThrough_lifted (os : Os) (started : os.Started) (H : Type) (enc : TypeId × Value → H) :
    ReturnsInHanded {} Try.checked os 4 .any (Rows.trackThroughSpec.pre6 enc Try.prog Try.f4 Rows.trackThroughRow.domain false) (Rows.trackThroughSpec.post enc Try.prog Try.f4 false true false false) := by
  refine returnsInHanded_of_change (C := Try.checked) own started (by kernel_rfl) Try.func4
    (ChangeSpec.witness6 (enc := enc) (C := Try.checked) false ⟨#[], #[.agg #[.int .i64 0, .int .i64 0, .slice none 0 0], .int .i64 0, .int .i64 0, .int .i64 0], []⟩ 8 (by kernel_rfl) (by kernel_rfl) (by kernel_rfl) (by kernel_rfl)) ?_
  intro W base args ds gs before hval hW _ _
  exact law_of_pc (fn := Try.f4) (s := Rows.trackThroughSpec) (inv := Go.Eng.Try.inv) (n := 9) (tb := 4) (Ss := shapes) rfl laid (by kernel_rfl) (by kernel_rfl) (by kernel_rfl) (by kernel_rfl) rfl
    (fun l hl => by rcases l with _ | ⟨a0, _ | ⟨a1, _ | ⟨a2, _ | ⟨a3, _ | ⟨z, l⟩⟩⟩⟩⟩ <;> first | rfl | (simp [shapes] at hl; done)) trackThrough_pcd W base args ds gs before hval hW
theorem trackThrough_holds : Rows.TrackThroughSaid :=
  OpenClaim.holds_of_wide 4 Try.f4 rfl rfl rfl rfl rfl rfl rfl ⟨rfl, rfl, rfl, rfl, rfl⟩ rfl rfl rfl rfl rfl (by kernel_rfl) Try.func4 (by kernel_rfl)
    (of_decide_eq_true (by kernel_rfl)) (by unfold Func.isWrapper; first | (rw [if_pos (by decide +kernel)]; kernel_rfl) | (rw [if_neg (by decide +kernel)]; exact ⟨rfl, rfl⟩))
    (fun os started H enc _ => trackThrough_lifted os started H enc)
end Go.Proofs.Ytkpklcnecnijoaa
