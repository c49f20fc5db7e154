/-
  The law TrainOne of layer 31 answers true for every plan, state, trains and move, and never panics. Conditions: none.
-/
import Derived.Test.YtnjpcpdmnadadaaGreatRows
import Derived.Test.YtnjpcpdmnadadaaGreatSeat
import Derived.Test.YtnjpcpdmnadadaaGreatIds
import Derived.Test.YtnjpcpdmnadadaaGreatIns
import Derived.Test.YtnjpcpdmnadadaaGreatA1
namespace Go.Proofs.YtnjpcpdmnadadaaGreat
open Go.ChangeShapes Go.WideShapes Go.ChangeAt Go.RowKit Go.Eng Go.Lev
theorem own : ownKnob Tryz.prog.godebug = none := by kernel_rfl
theorem laid : laidOutB Tryz.prog = true := by kernel_rfl
def shapes : List Sh := [shPln, zlj, zlh, zoS]
theorem trainOne_pcd (ds : List D) (hds : zdE shapes ds) : PC Tryz.prog Go.Eng.Tryz.inv 378 (zml shapes ds) (fun r => r = .b true) := by
  have hH := Go.Eng.Tryz.all
  have hI := Go.Eng.Tryz.ids
  have hIn := Go.Eng.Tryz.insAll
  obtain ⟨d0, ds, rfl, h0, hds⟩ := zau hds
  obtain ⟨d1, ds, rfl, h1, hds⟩ := zau hds
  obtain ⟨d2, ds, rfl, h2, hds⟩ := zau hds
  obtain ⟨d3, ds, rfl, h3, hds⟩ := zau hds
  obtain rfl := zda hds
  obtain ⟨x0, e0, hx0⟩ := arg_plan h0
  obtain ⟨x1, e1, hx1⟩ := arg_state h1
  obtain ⟨x2, e2⟩ := arg_world h2
  obtain ⟨x3, e3, hx3⟩ := arg_move h3
  simp only [shapes, zml, e0, e1, e2, e3]
  exact Go.Lev.trainOne_all hH hI hIn x0 hx0 x1 x2 x3 hx3
set_option maxRecDepth 100000 in
theorem trainOne_lifted (os : Os) (started : os.Started) (H : Type) (enc : TypeId × Value → H) :
    ReturnsInHanded {} Tryz.checked os 5 .any (Rows.trainOneSpec.pre6 enc Tryz.prog Tryz.f5 Rows.trainOneRow.domain false) (Rows.trainOneSpec.post enc Tryz.prog Tryz.f5 false true false false) := by
  refine returnsInHanded_of_change (C := Tryz.checked) own started (by kernel_rfl) Tryz.func5
    (ChangeSpec.witness6 (enc := enc) (C := Tryz.checked) false ⟨#[], #[.agg #[.int .i64 0, .int .i64 0, .slice none 0 0, .slice none 0 0, .slice none 0 0, .slice none 0 0], .agg #[.slice none 0 0, .slice none 0 0, .slice none 0 0], .agg #[.slice none 0 0], .agg #[.int .u8 0, .int .i64 0, .int .i64 0, .int .i64 0]], []⟩ 8 (by kernel_rfl) (by kernel_rfl) (by kernel_rfl) (by kernel_rfl)) ?_
  intro W base args ds gs before hval hW _ _
  exact law_of_pc (fn := Tryz.f5) (s := Rows.trainOneSpec) (inv := Go.Eng.Tryz.inv) (n := 40) (tb := 4) (Ss := shapes) rfl laid (by kernel_rfl) (by kernel_rfl) (by kernel_rfl) (by kernel_rfl) rfl
    (fun l hl => by rcases l with _ | ⟨a0, _ | ⟨a1, _ | ⟨a2, _ | ⟨a3, _ | ⟨z, l⟩⟩⟩⟩⟩ <;> first | rfl | (simp [shapes] at hl; done)) trainOne_pcd W base args ds gs before hval hW
theorem trainOne_n : Tryz.checked.prog.funcNamed Rows.trainOneRow.func = some 5 := by kernel_rfl
theorem trainOne_c : joinedFacts Tryz.checked.prog 5 Tryz.f5 Rows.trainOneSpec Rows.trainOneRow = true := by kernel_rfl
theorem trainOne_i : Tryz.f5.isInstance Tryz.checked.prog Rows.trainOneRow.origin Rows.trainOneRow.targs := of_decide_eq_true (by kernel_rfl)
theorem trainOne_w : Tryz.f5.isWrapper Tryz.checked.prog Rows.trainOneRow.wrapper Rows.trainOneRow.mainSum := by unfold Func.isWrapper; first | (rw [if_pos (by decide +kernel)]; kernel_rfl) | (rw [if_neg (by decide +kernel)]; exact ⟨rfl, rfl⟩)
theorem trainOne_holds : Rows.TrainOneSaid :=
  OpenClaim.holds_of_wide 5 Tryz.f5 rfl rfl rfl rfl rfl rfl rfl ⟨rfl, rfl, rfl, rfl, rfl⟩ rfl rfl rfl rfl rfl trainOne_n Tryz.func5 trainOne_c trainOne_i trainOne_w
    (fun os started H enc _ => trainOne_lifted os started H enc)
end Go.Proofs.YtnjpcpdmnadadaaGreat
