/-
  The law TrainPut of layer 31 answers true for every plan, state, trains and what comes, and never panics. Conditions: none.
-/
import Derived.Test.YtnjpcpdmnadadaaGreatRows
import Derived.Test.YtnjpcpdmnadadaaGreatSeat
import Derived.Test.YtnjpcpdmnadadaaGreatIds
import Derived.Test.YtnjpcpdmnadadaaGreatIns
import Derived.Test.YtnjpcpdmnadadaaGreatC1
namespace Go.Proofs.YtnjpcpdmnadadaaGreat
open Go.ChangeShapes Go.WideShapes Go.ChangeAt Go.RowKit Go.Eng Go.Lev
theorem own : ownKnob Tryz.prog.godebug = none := by kernel_rfl
theorem laid : laidOutB Tryz.prog = true := by kernel_rfl
def shapes : List Sh := [shPln, zlj, zlh, .i .i64, .i .i64, .i .i64]
theorem trainPut_pcd (ds : List D) (hds : zdE shapes ds) : PC Tryz.prog Go.Eng.Tryz.inv 380 (zml shapes ds) (fun r => r = .b true) := by
  have hH := Go.Eng.Tryz.all
  have hI := Go.Eng.Tryz.ids
  have hIn := Go.Eng.Tryz.insAll
  obtain ⟨d0, ds, rfl, h0, hds⟩ := zau hds
  obtain ⟨d1, ds, rfl, h1, hds⟩ := zau hds
  obtain ⟨d2, ds, rfl, h2, hds⟩ := zau hds
  obtain ⟨d3, ds, rfl, h3, hds⟩ := zau hds
  obtain ⟨d4, ds, rfl, h4, hds⟩ := zau hds
  obtain ⟨d5, ds, rfl, h5, hds⟩ := zau hds
  obtain rfl := zda hds
  obtain ⟨x0, e0, hx0⟩ := arg_plan h0
  obtain ⟨x1, e1, hx1⟩ := arg_state h1
  obtain ⟨x2, e2⟩ := arg_world h2
  obtain ⟨x3, e3, hx3⟩ := arg_i64 h3
  obtain ⟨x4, e4, hx4⟩ := arg_i64 h4
  obtain ⟨x5, e5, hx5⟩ := arg_i64 h5
  simp only [shapes, zml, e0, e1, e2, e3, e4, e5]
  exact Go.Lev.trainPut_all hH hI hIn x0 hx0 x1 x2 x3 x4 x5
set_option maxRecDepth 100000 in
theorem trainPut_lifted (os : Os) (started : os.Started) (H : Type) (enc : TypeId × Value → H) :
    ReturnsInHanded {} Tryz.checked os 7 .any (Rows.trainPutSpec.pre6 enc Tryz.prog Tryz.f7 Rows.trainPutRow.domain false) (Rows.trainPutSpec.post enc Tryz.prog Tryz.f7 false true false false) := by
  refine returnsInHanded_of_change (C := Tryz.checked) own started (by kernel_rfl) Tryz.func7
    (ChangeSpec.witness6 (enc := enc) (C := Tryz.checked) false ⟨#[], #[.agg #[.int .i64 0, .int .i64 0, .slice none 0 0, .slice none 0 0, .slice none 0 0, .slice none 0 0], .agg #[.slice none 0 0, .slice none 0 0, .slice none 0 0], .agg #[.slice none 0 0], .int .i64 0, .int .i64 0, .int .i64 0], []⟩ 8 (by kernel_rfl) (by kernel_rfl) (by kernel_rfl) (by kernel_rfl)) ?_
  intro W base args ds gs before hval hW _ _
  exact law_of_pc (fn := Tryz.f7) (s := Rows.trainPutSpec) (inv := Go.Eng.Tryz.inv) (n := 40) (tb := 4) (Ss := shapes) rfl laid (by kernel_rfl) (by kernel_rfl) (by kernel_rfl) (by kernel_rfl) rfl
    (fun l hl => by rcases l with _ | ⟨a0, _ | ⟨a1, _ | ⟨a2, _ | ⟨a3, _ | ⟨a4, _ | ⟨a5, _ | ⟨z, l⟩⟩⟩⟩⟩⟩⟩ <;> first | rfl | (simp [shapes] at hl; done)) trainPut_pcd W base args ds gs before hval hW
theorem trainPut_n : Tryz.checked.prog.funcNamed Rows.trainPutRow.func = some 7 := by kernel_rfl
theorem trainPut_c : joinedFacts Tryz.checked.prog 7 Tryz.f7 Rows.trainPutSpec Rows.trainPutRow = true := by kernel_rfl
theorem trainPut_i : Tryz.f7.isInstance Tryz.checked.prog Rows.trainPutRow.origin Rows.trainPutRow.targs := of_decide_eq_true (by kernel_rfl)
theorem trainPut_w : Tryz.f7.isWrapper Tryz.checked.prog Rows.trainPutRow.wrapper Rows.trainPutRow.mainSum := by unfold Func.isWrapper; first | (rw [if_pos (by decide +kernel)]; kernel_rfl) | (rw [if_neg (by decide +kernel)]; exact ⟨rfl, rfl⟩)
theorem trainPut_holds : Rows.TrainPutSaid :=
  OpenClaim.holds_of_wide 7 Tryz.f7 rfl rfl rfl rfl rfl rfl rfl ⟨rfl, rfl, rfl, rfl, rfl⟩ rfl rfl rfl rfl rfl trainPut_n Tryz.func7 trainPut_c trainPut_i trainPut_w
    (fun os started H enc _ => trainPut_lifted os started H enc)
end Go.Proofs.YtnjpcpdmnadadaaGreat
