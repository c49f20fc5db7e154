/-
  The law CoreProceeds of layer 23 answers true for every plan, state, step and place of a route, and never panics. Conditions: none.
-/
import Derived.Test.YtjgelcegjmfgnaaGreatRows
import Derived.Test.YtjgelcegjmfgnaaGreatSeat
import Derived.Test.YtjgelcegjmfgnaaGreatIds
import Derived.Test.YtjgelcegjmfgnaaGreatD1
namespace Go.Proofs.YtjgelcegjmfgnaaGreat
open Go.ChangeShapes Go.WideShapes Go.ChangeAt Go.RowKit Go.Eng Go.Lev
theorem own : ownKnob Tryz.prog.godebug = none := by kernel_rfl
theorem laid : laidOutB Tryz.prog = true := by kernel_rfl
def shapes : List Sh := [shPln, zmt, zi8, .i .i64]
theorem coreProceeds_pcd (ds : List D) (hds : zdN shapes ds) : PC Tryz.prog Go.Eng.Tryz.inv 376 (znq shapes ds) (fun r => r = .b true) := by
  have hH := Go.Eng.Tryz.all
  have hI := Go.Eng.Tryz.ids
  obtain ⟨d0, ds, rfl, h0, hds⟩ := zaF hds
  obtain ⟨d1, ds, rfl, h1, hds⟩ := zaF hds
  obtain ⟨d2, ds, rfl, h2, hds⟩ := zaF hds
  obtain ⟨d3, ds, rfl, h3, hds⟩ := zaF hds
  obtain rfl := zd8 hds
  obtain ⟨x0, e0, hx0⟩ := arg_plan h0
  obtain ⟨x1, e1, hx1⟩ := arg_state h1
  obtain ⟨x2, e2, hx2⟩ := arg_act h2
  obtain ⟨x3, e3, hx3⟩ := arg_i64 h3
  simp only [shapes, znq, e0, e1, e2, e3]
  exact Go.Lev.zrm hH hI x0 hx0 x1 hx1 x2 hx2 x3
set_option maxRecDepth 100000 in
theorem coreProceeds_lifted (os : Os) (started : os.Started) (H : Type) (enc : TypeId × Value → H) :
    ReturnsInHanded {} Tryz.checked os 13 .any (Rows.coreProceedsSpec.pre6 enc Tryz.prog Tryz.f13 Rows.coreProceedsRow.domain false) (Rows.coreProceedsSpec.post enc Tryz.prog Tryz.f13 false true false false) := by
  refine returnsInHanded_of_change (C := Tryz.checked) own started (by kernel_rfl) Tryz.func13
    (ChangeSpec.witness6 (enc := enc) (C := Tryz.checked) false ⟨#[], #[.agg #[.int .i64 0, .int .i64 0, .slice none 0 0, .slice none 0 0, .slice none 0 0, .slice none 0 0], .agg #[.slice none 0 0, .slice none 0 0, .slice none 0 0], .agg #[.int .u8 0, .int .i64 0, .int .i64 0, .slice none 0 0], .int .i64 0], []⟩ 8 (by kernel_rfl) (by kernel_rfl) (by kernel_rfl) (by kernel_rfl)) ?_
  intro W base args ds gs before hval hW _ _
  exact law_of_pc (fn := Tryz.f13) (s := Rows.coreProceedsSpec) (inv := Go.Eng.Tryz.inv) (n := 40) (tb := 4) (Ss := shapes) rfl laid (by kernel_rfl) (by kernel_rfl) (by kernel_rfl) (by kernel_rfl) rfl
    (fun l hl => by rcases l with _ | ⟨a0, _ | ⟨a1, _ | ⟨a2, _ | ⟨a3, _ | ⟨z, l⟩⟩⟩⟩⟩ <;> first | rfl | (simp [shapes] at hl; done)) coreProceeds_pcd W base args ds gs before hval hW
theorem coreProceeds_n : Tryz.checked.prog.funcNamed Rows.coreProceedsRow.func = some 13 := by kernel_rfl
theorem coreProceeds_c : joinedFacts Tryz.checked.prog 13 Tryz.f13 Rows.coreProceedsSpec Rows.coreProceedsRow = true := by kernel_rfl
theorem coreProceeds_i : Tryz.f13.isInstance Tryz.checked.prog Rows.coreProceedsRow.origin Rows.coreProceedsRow.targs := of_decide_eq_true (by kernel_rfl)
theorem coreProceeds_w : Tryz.f13.isWrapper Tryz.checked.prog Rows.coreProceedsRow.wrapper Rows.coreProceedsRow.mainSum := by unfold Func.isWrapper; first | (rw [if_pos (by decide +kernel)]; kernel_rfl) | (rw [if_neg (by decide +kernel)]; exact ⟨rfl, rfl⟩)
theorem coreProceeds_holds : Rows.CoreProceedsSaid :=
  OpenClaim.holds_of_wide 13 Tryz.f13 rfl rfl rfl rfl rfl rfl rfl ⟨rfl, rfl, rfl, rfl, rfl⟩ rfl rfl rfl rfl rfl coreProceeds_n Tryz.func13 coreProceeds_c coreProceeds_i coreProceeds_w
    (fun os started H enc _ => coreProceeds_lifted os started H enc)
end Go.Proofs.YtjgelcegjmfgnaaGreat
