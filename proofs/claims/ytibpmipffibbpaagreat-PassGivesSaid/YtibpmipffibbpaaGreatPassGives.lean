/-
  The law PassGives of layer 21 answers true for every plan, state and section, and never panics. Conditions: none.
-/
import Derived.Test.YtibpmipffibbpaaGreatRows
import Derived.Test.YtibpmipffibbpaaGreatSeau
import Derived.Test.YtibpmipffibbpaaGreatIdu
import Derived.Test.YtibpmipffibbpaaGreatS1
namespace Go.Proofs.YtibpmipffibbpaaGreat
open Go.ChangeShapes Go.WideShapes Go.ChangeAt Go.RowKit Go.Eng Go.Lev
theorem own : ownKnob Tryz.prog.godebug = none := by kernel_rfl
theorem laid : laidOutB Tryz.prog = true := by kernel_rfl
def shapes : List Sh := [shPln, zkK, .i .i64]
theorem passGives_pcd (ds : List D) (hds : zdd shapes ds) : PC Tryz.prog Go.Eng.Tryz.inv 361 (zlB shapes ds) (fun r => r = .b true) := by
  have hH := Go.Eng.Tryz.all
  have hI := Go.Eng.Tryz.ids
  obtain ⟨d0, ds, rfl, h0, hds⟩ := zaH hds
  obtain ⟨d1, ds, rfl, h1, hds⟩ := zaH hds
  obtain ⟨d2, ds, rfl, h2, hds⟩ := zaH hds
  obtain rfl := zdK hds
  obtain ⟨x0, e0, hx0⟩ := arg_plan h0
  obtain ⟨x1, e1, hx1⟩ := arg_state h1
  obtain ⟨x2, e2, hx2⟩ := arg_i64 h2
  simp only [shapes, zlB, e0, e1, e2]
  exact Go.Lev.passGives_pc hH hI x0 hx0 x1 x2
set_option maxRecDepth 100000 in
theorem passGives_lifted (os : Os) (started : os.Started) (H : Type) (enc : TypeId × Value → H) :
    ReturnsInHanded {} Tryz.checked os 5 .any (Rows.passGivesSpec.pre6 enc Tryz.prog Tryz.f5 Rows.passGivesRow.domain false) (Rows.passGivesSpec.post enc Tryz.prog Tryz.f5 false true false false) := by
  refine returnsInHanded_of_change (C := Tryz.checked) own started (by kernel_rfl) Tryz.func5
    (ChangeSpec.witness6 (enc := enc) (C := Tryz.checked) false ⟨#[], #[.agg #[.int .i64 0, .int .i64 0, .slice none 0 0, .slice none 0 0, .slice none 0 0, .slice none 0 0], .agg #[.slice none 0 0, .slice none 0 0, .slice none 0 0], .int .i64 0], []⟩ 8 (by kernel_rfl) (by kernel_rfl) (by kernel_rfl) (by kernel_rfl)) ?_
  intro W base args ds gs before hval hW _ _
  exact law_of_pc (fn := Tryz.f5) (s := Rows.passGivesSpec) (inv := Go.Eng.Tryz.inv) (n := 40) (tb := 4) (Ss := shapes) rfl laid (by kernel_rfl) (by kernel_rfl) (by kernel_rfl) (by kernel_rfl) rfl
    (fun l hl => by rcases l with _ | ⟨a0, _ | ⟨a1, _ | ⟨a2, _ | ⟨z, l⟩⟩⟩⟩ <;> first | rfl | (simp [shapes] at hl; done)) passGives_pcd W base args ds gs before hval hW
theorem passGives_n : Tryz.checked.prog.funcNamed Rows.passGivesRow.func = some 5 := by kernel_rfl
theorem passGives_c : joinedFacts Tryz.checked.prog 5 Tryz.f5 Rows.passGivesSpec Rows.passGivesRow = true := by kernel_rfl
theorem passGives_i : Tryz.f5.isInstance Tryz.checked.prog Rows.passGivesRow.origin Rows.passGivesRow.targs := of_decide_eq_true (by kernel_rfl)
theorem passGives_w : Tryz.f5.isWrapper Tryz.checked.prog Rows.passGivesRow.wrapper Rows.passGivesRow.mainSum := by unfold Func.isWrapper; first | (rw [if_pos (by decide +kernel)]; kernel_rfl) | (rw [if_neg (by decide +kernel)]; exact ⟨rfl, rfl⟩)
theorem passGives_holds : Rows.PassGivesSaid :=
  OpenClaim.holds_of_wide 5 Tryz.f5 rfl rfl rfl rfl rfl rfl rfl ⟨rfl, rfl, rfl, rfl, rfl⟩ rfl rfl rfl rfl rfl passGives_n Tryz.func5 passGives_c passGives_i passGives_w
    (fun os started H enc _ => passGives_lifted os started H enc)
end Go.Proofs.YtibpmipffibbpaaGreat
