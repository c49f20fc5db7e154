/-
  The law TrainStands of layer 31 answers true for every plan, state, trains and which one, and never panics. Conditions: none.
-/
import Derived.Test.YtnjpcpdmnadadaaGreatRows
import Derived.Test.YtnjpcpdmnadadaaGreatSeat
import Derived.Test.YtnjpcpdmnadadaaGreatIds
import Derived.Test.YtnjpcpdmnadadaaGreatIns
import Derived.Test.YtnjpcpdmnadadaaGreatD1
namespace Go.Proofs.YtnjpcpdmnadadaaGreat
open Go.ChangeShapes Go.WideShapes Go.ChangeAt Go.RowKit Go.Eng Go.Lev
theorem own : ownKnob Tryz.prog.godebug = none := by kernel_rfl
theorem laid : laidOutB Tryz.prog = true := by kernel_rfl
def shapes : List Sh := [shPln, zlj, zlh, .i .i64]
theorem trainStands_pcd (ds : List D) (hds : zdE shapes ds) : PC Tryz.prog Go.Eng.Tryz.inv 381 (zml shapes ds) (fun r => r = .b true) := by
  have hH := Go.Eng.Tryz.all
  have hI := Go.Eng.Tryz.ids
  have hIn := Go.Eng.Tryz.insAll
  obtain ⟨d0, ds, rfl, h0, hds⟩ := zau hds
  obtain ⟨d1, ds, rfl, h1, hds⟩ := zau hds
  obtain ⟨d2, ds, rfl, h2, hds⟩ := zau hds
  obtain ⟨d3, ds, rfl, h3, hds⟩ := zau hds
  obtain rfl := zda hds
  obtain ⟨x0, e0, hx0⟩ := arg_plan h0
  obtain ⟨x1, e1, hx1⟩ := arg_state h1
  obtain ⟨x2, e2⟩ := arg_world h2
  obtain ⟨x3, e3, hx3⟩ := arg_i64 h3
  simp only [shapes, zml, e0, e1, e2, e3]
  exact Go.Lev.zoC hH hI hIn x0 hx0 x1 x2 x3
set_option maxRecDepth 100000 in
theorem trainStands_lifted (os : Os) (started : os.Started) (H : Type) (enc : TypeId × Value → H) :
    ReturnsInHanded {} Tryz.checked os 8 .any (Rows.trainStandsSpec.pre6 enc Tryz.prog Tryz.f8 Rows.trainStandsRow.domain false) (Rows.trainStandsSpec.post enc Tryz.prog Tryz.f8 false true false false) := by
  refine returnsInHanded_of_change (C := Tryz.checked) own started (by kernel_rfl) Tryz.func8
    (ChangeSpec.witness6 (enc := enc) (C := Tryz.checked) false ⟨#[], #[.agg #[.int .i64 0, .int .i64 0, .slice none 0 0, .slice none 0 0, .slice none 0 0, .slice none 0 0], .agg #[.slice none 0 0, .slice none 0 0, .slice none 0 0], .agg #[.slice none 0 0], .int .i64 0], []⟩ 8 (by kernel_rfl) (by kernel_rfl) (by kernel_rfl) (by kernel_rfl)) ?_
  intro W base args ds gs before hval hW _ _
  exact law_of_pc (fn := Tryz.f8) (s := Rows.trainStandsSpec) (inv := Go.Eng.Tryz.inv) (n := 40) (tb := 4) (Ss := shapes) rfl laid (by kernel_rfl) (by kernel_rfl) (by kernel_rfl) (by kernel_rfl) rfl
    (fun l hl => by rcases l with _ | ⟨a0, _ | ⟨a1, _ | ⟨a2, _ | ⟨a3, _ | ⟨z, l⟩⟩⟩⟩⟩ <;> first | rfl | (simp [shapes] at hl; done)) trainStands_pcd W base args ds gs before hval hW
theorem trainStands_n : Tryz.checked.prog.funcNamed Rows.trainStandsRow.func = some 8 := by kernel_rfl
theorem trainStands_c : joinedFacts Tryz.checked.prog 8 Tryz.f8 Rows.trainStandsSpec Rows.trainStandsRow = true := by kernel_rfl
theorem trainStands_i : Tryz.f8.isInstance Tryz.checked.prog Rows.trainStandsRow.origin Rows.trainStandsRow.targs := of_decide_eq_true (by kernel_rfl)
theorem trainStands_w : Tryz.f8.isWrapper Tryz.checked.prog Rows.trainStandsRow.wrapper Rows.trainStandsRow.mainSum := by unfold Func.isWrapper; first | (rw [if_pos (by decide +kernel)]; kernel_rfl) | (rw [if_neg (by decide +kernel)]; exact ⟨rfl, rfl⟩)
theorem trainStands_holds : Rows.TrainStandsSaid :=
  OpenClaim.holds_of_wide 8 Tryz.f8 rfl rfl rfl rfl rfl rfl rfl ⟨rfl, rfl, rfl, rfl, rfl⟩ rfl rfl rfl rfl rfl trainStands_n Tryz.func8 trainStands_c trainStands_i trainStands_w
    (fun os started H enc _ => trainStands_lifted os started H enc)
end Go.Proofs.YtnjpcpdmnadadaaGreat
