/-
  The law InputLast of layer 16 answers true for every plan, state, two sections and a point, and what they are, and never panics. Conditions: none.
-/
import Derived.Test.YtokllheinelgjaaRows
import Derived.Test.YtokllheinelgjaaSeat
import Derived.Test.YtokllheinelgjaaIds
import Derived.Test.YtokllheinelgjaaL11
namespace Go.Proofs.Ytokllheinelgjaa
open Go.ChangeShapes Go.WideShapes Go.ChangeAt Go.RowKit Go.Eng Go.Lev
theorem own : ownKnob Try.prog.godebug = none := by kernel_rfl
theorem laid : laidOutB Try.prog = true := by kernel_rfl
def shapes : List Sh := [shPln, zka, .ar 2 (.i .i64), .ar 2 (.i .i64), .ar 2 (.i .i64)]
theorem inputLast_pcd (ds : List D) (hds : zc2 shapes ds) : PC Try.prog Go.Eng.Try.inv 64 (zkK shapes ds) (fun r => r = .b true) := by
  have hH := Go.Eng.Try.all
  have hI := Go.Eng.Try.ids
  obtain ⟨d0, ds, rfl, h0, hds⟩ := zaI hds
  obtain ⟨d1, ds, rfl, h1, hds⟩ := zaI hds
  obtain ⟨d2, ds, rfl, h2, hds⟩ := zaI hds
  obtain ⟨d3, ds, rfl, h3, hds⟩ := zaI hds
  obtain ⟨d4, ds, rfl, h4, hds⟩ := zaI hds
  obtain rfl := zdz hds
  obtain ⟨x0, e0, hx0⟩ := arg_plan h0
  obtain ⟨x1, e1, hx1⟩ := arg_state h1
  obtain ⟨x2, y2, e2⟩ := arg_arr2 h2
  obtain ⟨x3, y3, e3⟩ := arg_arr2 h3
  obtain ⟨x4, y4, e4⟩ := arg_arr2 h4
  simp only [shapes, zkK, e0, e1, e2, e3, e4]
  exact Go.Lev.inputLast_pc hH hI x0 hx0 x1 x2 y2 x3 y3 x4 y4
set_option maxRecDepth 100000 in
theorem inputLast_lifted (os : Os) (started : os.Started) (H : Type) (enc : TypeId × Value → H) :
    ReturnsInHanded {} Try.checked os 9 .any (Rows.inputLastSpec.pre6 enc Try.prog Try.f9 Rows.inputLastRow.domain false) (Rows.inputLastSpec.post enc Try.prog Try.f9 false true false false) := by
  refine returnsInHanded_of_change (C := Try.checked) own started (by kernel_rfl) Try.func9
    (ChangeSpec.witness6 (enc := enc) (C := Try.checked) false ⟨#[], #[.agg #[.int .i64 0, .int .i64 0, .slice none 0 0, .slice none 0 0, .slice none 0 0, .slice none 0 0], .agg #[.slice none 0 0, .slice none 0 0, .slice none 0 0], .agg #[.int .i64 0, .int .i64 0], .agg #[.int .i64 0, .int .i64 0], .agg #[.int .i64 0, .int .i64 0]], []⟩ 8 (by kernel_rfl) (by kernel_rfl) (by kernel_rfl) (by kernel_rfl)) ?_
  intro W base args ds gs before hval hW _ _
  exact law_of_pc (fn := Try.f9) (s := Rows.inputLastSpec) (inv := Go.Eng.Try.inv) (n := 40) (tb := 4) (Ss := shapes) rfl laid (by kernel_rfl) (by kernel_rfl) (by kernel_rfl) (by kernel_rfl) rfl
    (fun l hl => by rcases l with _ | ⟨a0, _ | ⟨a1, _ | ⟨a2, _ | ⟨a3, _ | ⟨a4, _ | ⟨z, l⟩⟩⟩⟩⟩⟩ <;> first | rfl | (simp [shapes] at hl; done)) inputLast_pcd W base args ds gs before hval hW
theorem inputLast_holds : Rows.InputLastSaid :=
  OpenClaim.holds_of_wide 9 Try.f9 rfl rfl rfl rfl rfl rfl rfl ⟨rfl, rfl, rfl, rfl, rfl⟩ rfl rfl rfl rfl rfl (by kernel_rfl) Try.func9 (by kernel_rfl)
    (of_decide_eq_true (by kernel_rfl)) (by unfold Func.isWrapper; first | (rw [if_pos (by decide +kernel)]; kernel_rfl) | (rw [if_neg (by decide +kernel)]; exact ⟨rfl, rfl⟩))
    (fun os started H enc _ => inputLast_lifted os started H enc)
end Go.Proofs.Ytokllheinelgjaa
