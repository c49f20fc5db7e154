/-
  The law CancelDoes of layer 22 answers true for every plan, state and route, and never panics. Conditions: none.
-/
import Derived.Test.YtibpmipffibbpaaGreatRows
import Derived.Test.YtibpmipffibbpaaGreatSeat
import Derived.Test.YtibpmipffibbpaaGreatIds
import Derived.Test.YtibpmipffibbpaaGreatB2
namespace Go.Proofs.YtibpmipffibbpaaGreat
open Go.ChangeShapes Go.WideShapes Go.ChangeAt Go.RowKit Go.Eng Go.Lev
theorem own : ownKnob Tryz.prog.godebug = none := by kernel_rfl
theorem laid : laidOutB Tryz.prog = true := by kernel_rfl
def shapes : List Sh := [shPln, zlN, .i .i64]
theorem cancelDoes_pcd (ds : List D) (hds : zdB shapes ds) : PC Tryz.prog Go.Eng.Tryz.inv 358 (zmx shapes ds) (fun r => r = .b true) := by
  have hH := Go.Eng.Tryz.all
  have hI := Go.Eng.Tryz.ids
  obtain ⟨d0, ds, rfl, h0, hds⟩ := zaI hds
  obtain ⟨d1, ds, rfl, h1, hds⟩ := zaI hds
  obtain ⟨d2, ds, rfl, h2, hds⟩ := zaI hds
  obtain rfl := zeh hds
  obtain ⟨x0, e0, hx0⟩ := arg_plan h0
  obtain ⟨x1, e1, hx1⟩ := arg_state h1
  obtain ⟨x2, e2, hx2⟩ := arg_i64 h2
  simp only [shapes, zmx, e0, e1, e2]
  exact Go.Lev.cancelDoes_pc hH hI x0 hx0 x1 x2
set_option maxRecDepth 100000 in
theorem cancelDoes_lifted (os : Os) (started : os.Started) (H : Type) (enc : TypeId × Value → H) :
    ReturnsInHanded {} Tryz.checked os 4 .any (Rows.cancelDoesSpec.pre6 enc Tryz.prog Tryz.f4 Rows.cancelDoesRow.domain false) (Rows.cancelDoesSpec.post enc Tryz.prog Tryz.f4 false true false false) := by
  refine returnsInHanded_of_change (C := Tryz.checked) own started (by kernel_rfl) Tryz.func4
    (ChangeSpec.witness6 (enc := enc) (C := Tryz.checked) false ⟨#[], #[.agg #[.int .i64 0, .int .i64 0, .slice none 0 0, .slice none 0 0, .slice none 0 0, .slice none 0 0], .agg #[.slice none 0 0, .slice none 0 0, .slice none 0 0], .int .i64 0], []⟩ 8 (by kernel_rfl) (by kernel_rfl) (by kernel_rfl) (by kernel_rfl)) ?_
  intro W base args ds gs before hval hW _ _
  exact law_of_pc (fn := Tryz.f4) (s := Rows.cancelDoesSpec) (inv := Go.Eng.Tryz.inv) (n := 40) (tb := 4) (Ss := shapes) rfl laid (by kernel_rfl) (by kernel_rfl) (by kernel_rfl) (by kernel_rfl) rfl
    (fun l hl => by rcases l with _ | ⟨a0, _ | ⟨a1, _ | ⟨a2, _ | ⟨z, l⟩⟩⟩⟩ <;> first | rfl | (simp [shapes] at hl; done)) cancelDoes_pcd W base args ds gs before hval hW
theorem cancelDoes_n : Tryz.checked.prog.funcNamed Rows.cancelDoesRow.func = some 4 := by kernel_rfl
theorem cancelDoes_c : joinedFacts Tryz.checked.prog 4 Tryz.f4 Rows.cancelDoesSpec Rows.cancelDoesRow = true := by kernel_rfl
theorem cancelDoes_i : Tryz.f4.isInstance Tryz.checked.prog Rows.cancelDoesRow.origin Rows.cancelDoesRow.targs := of_decide_eq_true (by kernel_rfl)
theorem cancelDoes_w : Tryz.f4.isWrapper Tryz.checked.prog Rows.cancelDoesRow.wrapper Rows.cancelDoesRow.mainSum := by unfold Func.isWrapper; first | (rw [if_pos (by decide +kernel)]; kernel_rfl) | (rw [if_neg (by decide +kernel)]; exact ⟨rfl, rfl⟩)
theorem cancelDoes_holds : Rows.CancelDoesSaid :=
  OpenClaim.holds_of_wide 4 Tryz.f4 rfl rfl rfl rfl rfl rfl rfl ⟨rfl, rfl, rfl, rfl, rfl⟩ rfl rfl rfl rfl rfl cancelDoes_n Tryz.func4 cancelDoes_c cancelDoes_i cancelDoes_w
    (fun os started H enc _ => cancelDoes_lifted os started H enc)
end Go.Proofs.YtibpmipffibbpaaGreat
