/-
  The law PassSettles of layer 21 answers true for every plan and state, and never panics. Conditions: none.
-/
import Derived.Test.YtibpmipffibbpaaGreatRows
import Derived.Test.YtibpmipffibbpaaGreatSeat
import Derived.Test.YtibpmipffibbpaaGreatIds
import Derived.Test.YtibpmipffibbpaaGreatA1
namespace Go.Proofs.YtibpmipffibbpaaGreat
open Go.ChangeShapes Go.WideShapes Go.ChangeAt Go.RowKit Go.Eng Go.Lev
theorem own : ownKnob Tryz.prog.godebug = none := by kernel_rfl
theorem laid : laidOutB Tryz.prog = true := by kernel_rfl
def shapes : List Sh := [shPln, zlN]
theorem passSettles_pcd (ds : List D) (hds : zdB shapes ds) : PC Tryz.prog Go.Eng.Tryz.inv 357 (zmx shapes ds) (fun r => r = .b true) := by
  have hH := Go.Eng.Tryz.all
  have hI := Go.Eng.Tryz.ids
  obtain ⟨d0, ds, rfl, h0, hds⟩ := zaI hds
  obtain ⟨d1, ds, rfl, h1, hds⟩ := zaI hds
  obtain rfl := zeh hds
  obtain ⟨x0, e0, hx0⟩ := arg_plan h0
  obtain ⟨x1, e1, hx1⟩ := arg_state h1
  simp only [shapes, zmx, e0, e1]
  exact Go.Lev.passSettles_pc hH hI x0 hx0 x1
set_option maxRecDepth 100000 in
theorem passSettles_lifted (os : Os) (started : os.Started) (H : Type) (enc : TypeId × Value → H) :
    ReturnsInHanded {} Tryz.checked os 3 .any (Rows.passSettlesSpec.pre6 enc Tryz.prog Tryz.f3 Rows.passSettlesRow.domain false) (Rows.passSettlesSpec.post enc Tryz.prog Tryz.f3 false true false false) := by
  refine returnsInHanded_of_change (C := Tryz.checked) own started (by kernel_rfl) Tryz.func3
    (ChangeSpec.witness6 (enc := enc) (C := Tryz.checked) false ⟨#[], #[.agg #[.int .i64 0, .int .i64 0, .slice none 0 0, .slice none 0 0, .slice none 0 0, .slice none 0 0], .agg #[.slice none 0 0, .slice none 0 0, .slice none 0 0]], []⟩ 8 (by kernel_rfl) (by kernel_rfl) (by kernel_rfl) (by kernel_rfl)) ?_
  intro W base args ds gs before hval hW _ _
  exact law_of_pc (fn := Tryz.f3) (s := Rows.passSettlesSpec) (inv := Go.Eng.Tryz.inv) (n := 40) (tb := 4) (Ss := shapes) rfl laid (by kernel_rfl) (by kernel_rfl) (by kernel_rfl) (by kernel_rfl) rfl
    (fun l hl => by rcases l with _ | ⟨a0, _ | ⟨a1, _ | ⟨z, l⟩⟩⟩ <;> first | rfl | (simp [shapes] at hl; done)) passSettles_pcd W base args ds gs before hval hW
theorem passSettles_n : Tryz.checked.prog.funcNamed Rows.passSettlesRow.func = some 3 := by kernel_rfl
theorem passSettles_c : joinedFacts Tryz.checked.prog 3 Tryz.f3 Rows.passSettlesSpec Rows.passSettlesRow = true := by kernel_rfl
theorem passSettles_i : Tryz.f3.isInstance Tryz.checked.prog Rows.passSettlesRow.origin Rows.passSettlesRow.targs := of_decide_eq_true (by kernel_rfl)
theorem passSettles_w : Tryz.f3.isWrapper Tryz.checked.prog Rows.passSettlesRow.wrapper Rows.passSettlesRow.mainSum := by unfold Func.isWrapper; first | (rw [if_pos (by decide +kernel)]; kernel_rfl) | (rw [if_neg (by decide +kernel)]; exact ⟨rfl, rfl⟩)
theorem passSettles_holds : Rows.PassSettlesSaid :=
  OpenClaim.holds_of_wide 3 Tryz.f3 rfl rfl rfl rfl rfl rfl rfl ⟨rfl, rfl, rfl, rfl, rfl⟩ rfl rfl rfl rfl rfl passSettles_n Tryz.func3 passSettles_c passSettles_i passSettles_w
    (fun os started H enc _ => passSettles_lifted os started H enc)
end Go.Proofs.YtibpmipffibbpaaGreat
