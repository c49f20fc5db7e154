/-
  The law LockOnce of layer 18 answers true for every plan, state and two routes, and never panics. Conditions: none.
-/
import Derived.Test.YthjfjbajmhkbbaaRows
import Derived.Test.YthjfjbajmhkbbaaSeat
import Derived.Test.YthjfjbajmhkbbaaIds
import Derived.Test.YthjfjbajmhkbbaaL7
namespace Go.Proofs.Ythjfjbajmhkbbaa
open Go.ChangeShapes Go.WideShapes Go.ChangeAt Go.RowKit Go.Eng Go.Lev
theorem own : ownKnob Try.prog.godebug = none := by kernel_rfl
theorem laid : laidOutB Try.prog = true := by kernel_rfl
def shapes : List Sh := [shPln, zjI, .i .i64, .i .i64]
theorem lockOnce_pcd (ds : List D) (hds : zcU shapes ds) : PC Try.prog Go.Eng.Try.inv 322 (zks shapes ds) (fun r => r = .b true) := by
  have hH := Go.Eng.Try.all
  have hI := Go.Eng.Try.ids
  obtain ⟨d0, ds, rfl, h0, hds⟩ := zaE hds
  obtain ⟨d1, ds, rfl, h1, hds⟩ := zaE hds
  obtain ⟨d2, ds, rfl, h2, hds⟩ := zaE hds
  obtain ⟨d3, ds, rfl, h3, hds⟩ := zaE hds
  obtain rfl := zdr hds
  obtain ⟨x0, e0, hx0⟩ := arg_plan h0
  obtain ⟨x1, e1, hx1⟩ := arg_state h1
  obtain ⟨x2, e2, hx2⟩ := arg_i64 h2
  obtain ⟨x3, e3, hx3⟩ := arg_i64 h3
  simp only [shapes, zks, e0, e1, e2, e3]
  exact Go.Lev.lockOnce_pc hH hI x0 hx0 x1 x2 x3
set_option maxRecDepth 100000 in
theorem lockOnce_lifted (os : Os) (started : os.Started) (H : Type) (enc : TypeId × Value → H) :
    ReturnsInHanded {} Try.checked os 3 .any (Rows.lockOnceSpec.pre6 enc Try.prog Try.f3 Rows.lockOnceRow.domain false) (Rows.lockOnceSpec.post enc Try.prog Try.f3 false true false false) := by
  refine returnsInHanded_of_change (C := Try.checked) own started (by kernel_rfl) Try.func3
    (ChangeSpec.witness6 (enc := enc) (C := Try.checked) false ⟨#[], #[.agg #[.int .i64 0, .int .i64 0, .slice none 0 0, .slice none 0 0, .slice none 0 0, .slice none 0 0], .agg #[.slice none 0 0, .slice none 0 0, .slice none 0 0], .int .i64 0, .int .i64 0], []⟩ 8 (by kernel_rfl) (by kernel_rfl) (by kernel_rfl) (by kernel_rfl)) ?_
  intro W base args ds gs before hval hW _ _
  exact law_of_pc (fn := Try.f3) (s := Rows.lockOnceSpec) (inv := Go.Eng.Try.inv) (n := 40) (tb := 4) (Ss := shapes) rfl laid (by kernel_rfl) (by kernel_rfl) (by kernel_rfl) (by kernel_rfl) rfl
    (fun l hl => by rcases l with _ | ⟨a0, _ | ⟨a1, _ | ⟨a2, _ | ⟨a3, _ | ⟨z, l⟩⟩⟩⟩⟩ <;> first | rfl | (simp [shapes] at hl; done)) lockOnce_pcd W base args ds gs before hval hW
theorem lockOnce_holds : Rows.LockOnceSaid :=
  OpenClaim.holds_of_wide 3 Try.f3 rfl rfl rfl rfl rfl rfl rfl ⟨rfl, rfl, rfl, rfl, rfl⟩ rfl rfl rfl rfl rfl (by kernel_rfl) Try.func3 (by kernel_rfl)
    (of_decide_eq_true (by kernel_rfl)) (by unfold Func.isWrapper; first | (rw [if_pos (by decide +kernel)]; kernel_rfl) | (rw [if_neg (by decide +kernel)]; exact ⟨rfl, rfl⟩))
    (fun os started H enc _ => lockOnce_lifted os started H enc)
end Go.Proofs.Ythjfjbajmhkbbaa
