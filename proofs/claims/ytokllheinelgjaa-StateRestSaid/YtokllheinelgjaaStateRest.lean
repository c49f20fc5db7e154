/-
  The law StateRest of layer 15 answers true for every plan and place of a route, and never panics. Conditions: none.
-/
import Derived.Test.YtokllheinelgjaaRows
import Derived.Test.YtokllheinelgjaaSeat
import Derived.Test.YtokllheinelgjaaIds
import Derived.Test.YtokllheinelgjaaL9
namespace Go.Proofs.Ytokllheinelgjaa
open Go.ChangeShapes Go.WideShapes Go.ChangeAt Go.RowKit Go.Eng Go.Lev
theorem own : ownKnob Try.prog.godebug = none := by kernel_rfl
theorem laid : laidOutB Try.prog = true := by kernel_rfl
def shapes : List Sh := [shPln, .i .i64]
theorem stateRest_pcd (ds : List D) (hds : zcJ shapes ds) : PC Try.prog Go.Eng.Try.inv 61 (zjZ shapes ds) (fun r => r = .b true) := by
  have hH := Go.Eng.Try.all
  have hI := Go.Eng.Try.ids
  obtain ⟨d0, ds, rfl, h0, hds⟩ := zaG hds
  obtain ⟨d1, ds, rfl, h1, hds⟩ := zaG hds
  obtain rfl := zdc hds
  obtain ⟨x0, e0, hx0⟩ := arg_plan h0
  obtain ⟨x1, e1, hx1⟩ := arg_i64 h1
  simp only [shapes, zjZ, e0, e1]
  exact Go.Lev.stateRest_pc hH hI x0 hx0 x1
set_option maxRecDepth 100000 in
theorem stateRest_lifted (os : Os) (started : os.Started) (H : Type) (enc : TypeId × Value → H) :
    ReturnsInHanded {} Try.checked os 6 .any (Rows.stateRestSpec.pre6 enc Try.prog Try.f6 Rows.stateRestRow.domain false) (Rows.stateRestSpec.post enc Try.prog Try.f6 false true false false) := by
  refine returnsInHanded_of_change (C := Try.checked) own started (by kernel_rfl) Try.func6
    (ChangeSpec.witness6 (enc := enc) (C := Try.checked) false ⟨#[], #[.agg #[.int .i64 0, .int .i64 0, .slice none 0 0, .slice none 0 0, .slice none 0 0, .slice none 0 0], .int .i64 0], []⟩ 8 (by kernel_rfl) (by kernel_rfl) (by kernel_rfl) (by kernel_rfl)) ?_
  intro W base args ds gs before hval hW _ _
  exact law_of_pc (fn := Try.f6) (s := Rows.stateRestSpec) (inv := Go.Eng.Try.inv) (n := 40) (tb := 4) (Ss := shapes) rfl laid (by kernel_rfl) (by kernel_rfl) (by kernel_rfl) (by kernel_rfl) rfl
    (fun l hl => by rcases l with _ | ⟨a0, _ | ⟨a1, _ | ⟨z, l⟩⟩⟩ <;> first | rfl | (simp [shapes] at hl; done)) stateRest_pcd W base args ds gs before hval hW
theorem stateRest_holds : Rows.StateRestSaid :=
  OpenClaim.holds_of_wide 6 Try.f6 rfl rfl rfl rfl rfl rfl rfl ⟨rfl, rfl, rfl, rfl, rfl⟩ rfl rfl rfl rfl rfl (by kernel_rfl) Try.func6 (by kernel_rfl)
    (of_decide_eq_true (by kernel_rfl)) (by unfold Func.isWrapper; first | (rw [if_pos (by decide +kernel)]; kernel_rfl) | (rw [if_neg (by decide +kernel)]; exact ⟨rfl, rfl⟩))
    (fun os started H enc _ => stateRest_lifted os started H enc)
end Go.Proofs.Ytokllheinelgjaa
