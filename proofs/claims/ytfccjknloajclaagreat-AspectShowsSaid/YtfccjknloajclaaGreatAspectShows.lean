/-
  The law AspectShows of layer 20 answers true for every plan and state, and never panics. Conditions: none.
-/
import Derived.Test.YtfccjknloajclaaGreatRows
import Derived.Test.YtfccjknloajclaaGreatSeat
import Derived.Test.YtfccjknloajclaaGreatIds
import Derived.Test.YtfccjknloajclaaGreatB3
namespace Go.Proofs.YtfccjknloajclaaGreat
open Go.ChangeShapes Go.WideShapes Go.ChangeAt Go.RowKit Go.Eng Go.Lev
theorem own : ownKnob Tryz.prog.godebug = none := by kernel_rfl
theorem laid : laidOutB Tryz.prog = true := by kernel_rfl
def shapes : List Sh := [shPln, zmh]
theorem aspectShows_pcd (ds : List D) (hds : zdF shapes ds) : PC Tryz.prog Go.Eng.Tryz.inv 337 (zm1 shapes ds) (fun r => r = .b true) := by
  have hH := Go.Eng.Tryz.all
  have hI := Go.Eng.Tryz.ids
  obtain ⟨d0, ds, rfl, h0, hds⟩ := zaL hds
  obtain ⟨d1, ds, rfl, h1, hds⟩ := zaL hds
  obtain rfl := zek hds
  obtain ⟨x0, e0, hx0⟩ := arg_plan h0
  obtain ⟨x1, e1, hx1⟩ := arg_state h1
  simp only [shapes, zm1, e0, e1]
  exact Go.Lev.aspectShows_pc hH hI x0 hx0 x1
set_option maxRecDepth 100000 in
theorem aspectShows_lifted (os : Os) (started : os.Started) (H : Type) (enc : TypeId × Value → H) :
    ReturnsInHanded {} Tryz.checked os 4 .any (Rows.aspectShowsSpec.pre6 enc Tryz.prog Tryz.f4 Rows.aspectShowsRow.domain false) (Rows.aspectShowsSpec.post enc Tryz.prog Tryz.f4 false true false false) := by
  refine returnsInHanded_of_change (C := Tryz.checked) own started (by kernel_rfl) Tryz.func4
    (ChangeSpec.witness6 (enc := enc) (C := Tryz.checked) false ⟨#[], #[.agg #[.int .i64 0, .int .i64 0, .slice none 0 0, .slice none 0 0, .slice none 0 0, .slice none 0 0], .agg #[.slice none 0 0, .slice none 0 0, .slice none 0 0]], []⟩ 8 (by kernel_rfl) (by kernel_rfl) (by kernel_rfl) (by kernel_rfl)) ?_
  intro W base args ds gs before hval hW _ _
  exact law_of_pc (fn := Tryz.f4) (s := Rows.aspectShowsSpec) (inv := Go.Eng.Tryz.inv) (n := 40) (tb := 4) (Ss := shapes) rfl laid (by kernel_rfl) (by kernel_rfl) (by kernel_rfl) (by kernel_rfl) rfl
    (fun l hl => by rcases l with _ | ⟨a0, _ | ⟨a1, _ | ⟨z, l⟩⟩⟩ <;> first | rfl | (simp [shapes] at hl; done)) aspectShows_pcd W base args ds gs before hval hW
theorem aspectShows_holds : Rows.AspectShowsSaid :=
  OpenClaim.holds_of_wide 4 Tryz.f4 rfl rfl rfl rfl rfl rfl rfl ⟨rfl, rfl, rfl, rfl, rfl⟩ rfl rfl rfl rfl rfl (by kernel_rfl) Tryz.func4 (by kernel_rfl)
    (of_decide_eq_true (by kernel_rfl)) (by unfold Func.isWrapper; first | (rw [if_pos (by decide +kernel)]; kernel_rfl) | (rw [if_neg (by decide +kernel)]; exact ⟨rfl, rfl⟩))
    (fun os started H enc _ => aspectShows_lifted os started H enc)
end Go.Proofs.YtfccjknloajclaaGreat
