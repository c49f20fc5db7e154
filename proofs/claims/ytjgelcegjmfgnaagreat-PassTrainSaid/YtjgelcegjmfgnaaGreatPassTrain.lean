/-
  The law PassTrain of layer 21 answers true for every plan, state, place of a route and length, and never panics. Conditions: none.
-/
import Derived.Test.YtjgelcegjmfgnaaGreatRows
import Derived.Test.YtjgelcegjmfgnaaGreatSeat
import Derived.Test.YtjgelcegjmfgnaaGreatIds
import Derived.Test.YtjgelcegjmfgnaaGreatF1
namespace Go.Proofs.YtjgelcegjmfgnaaGreat
open Go.ChangeShapes Go.WideShapes Go.ChangeAt Go.RowKit Go.Eng Go.Lev
theorem own : ownKnob Tryz.prog.godebug = none := by kernel_rfl
theorem laid : laidOutB Tryz.prog = true := by kernel_rfl
def shapes : List Sh := [shPln, zmt, .i .i64, .b]
theorem passTrain_pcd (ds : List D) (hds : zdN shapes ds) : PC Tryz.prog Go.Eng.Tryz.inv 360 (znq shapes ds) (fun r => r = .b true) := by
  have hH := Go.Eng.Tryz.all
  have hI := Go.Eng.Tryz.ids
  obtain ⟨d0, ds, rfl, h0, hds⟩ := zaF hds
  obtain ⟨d1, ds, rfl, h1, hds⟩ := zaF hds
  obtain ⟨d2, ds, rfl, h2, hds⟩ := zaF hds
  obtain ⟨d3, ds, rfl, h3, hds⟩ := zaF hds
  obtain rfl := zd8 hds
  obtain ⟨x0, e0, hx0⟩ := arg_plan h0
  obtain ⟨x1, e1, hx1⟩ := arg_state h1
  obtain ⟨x2, e2, hx2⟩ := arg_i64 h2
  obtain ⟨x3, e3⟩ := arg_bool h3
  simp only [shapes, znq, e0, e1, e2, e3]
  exact Go.Lev.passTrain_pc hH hI x0 hx0 x1 x2 x3
set_option maxRecDepth 100000 in
theorem passTrain_lifted (os : Os) (started : os.Started) (H : Type) (enc : TypeId × Value → H) :
    ReturnsInHanded {} Tryz.checked os 6 .any (Rows.passTrainSpec.pre6 enc Tryz.prog Tryz.f6 Rows.passTrainRow.domain false) (Rows.passTrainSpec.post enc Tryz.prog Tryz.f6 false true false false) := by
  refine returnsInHanded_of_change (C := Tryz.checked) own started (by kernel_rfl) Tryz.func6
    (ChangeSpec.witness6 (enc := enc) (C := Tryz.checked) false ⟨#[], #[.agg #[.int .i64 0, .int .i64 0, .slice none 0 0, .slice none 0 0, .slice none 0 0, .slice none 0 0], .agg #[.slice none 0 0, .slice none 0 0, .slice none 0 0], .int .i64 0, .bool false], []⟩ 8 (by kernel_rfl) (by kernel_rfl) (by kernel_rfl) (by kernel_rfl)) ?_
  intro W base args ds gs before hval hW _ _
  exact law_of_pc (fn := Tryz.f6) (s := Rows.passTrainSpec) (inv := Go.Eng.Tryz.inv) (n := 40) (tb := 4) (Ss := shapes) rfl laid (by kernel_rfl) (by kernel_rfl) (by kernel_rfl) (by kernel_rfl) rfl
    (fun l hl => by rcases l with _ | ⟨a0, _ | ⟨a1, _ | ⟨a2, _ | ⟨a3, _ | ⟨z, l⟩⟩⟩⟩⟩ <;> first | rfl | (simp [shapes] at hl; done)) passTrain_pcd W base args ds gs before hval hW
theorem passTrain_holds : Rows.PassTrainSaid :=
  OpenClaim.holds_of_wide 6 Tryz.f6 rfl rfl rfl rfl rfl rfl rfl ⟨rfl, rfl, rfl, rfl, rfl⟩ rfl rfl rfl rfl rfl (by kernel_rfl) Tryz.func6 (by kernel_rfl)
    (of_decide_eq_true (by kernel_rfl)) (by unfold Func.isWrapper; first | (rw [if_pos (by decide +kernel)]; kernel_rfl) | (rw [if_neg (by decide +kernel)]; exact ⟨rfl, rfl⟩))
    (fun os started H enc _ => passTrain_lifted os started H enc)
end Go.Proofs.YtjgelcegjmfgnaaGreat
