/-
  The law CoreDoes of layer 23 answers true for every plan, state and steps, and never panics. Conditions: none.
-/
import Derived.Test.YtibpmipffibbpaaGreatRows
import Derived.Test.YtibpmipffibbpaaGreatSeaw
import Derived.Test.YtibpmipffibbpaaGreatIdw
import Derived.Test.YtibpmipffibbpaaGreatV11
namespace Go.Proofs.YtibpmipffibbpaaGreat
open Go.ChangeShapes Go.WideShapes Go.ChangeAt Go.RowKit Go.Eng Go.Lev
theorem own : ownKnob Tryz.prog.godebug = none := by kernel_rfl
theorem laid : laidOutB Tryz.prog = true := by kernel_rfl
def shapes : List Sh := [shPln, zmn, .s 4 ziZ]
theorem coreDoes_pcd (ds : List D) (hds : zdS shapes ds) : PC Tryz.prog Go.Eng.Tryz.inv 373 (znc shapes ds) (fun r => r = .b true) := by
  have hH := Go.Eng.Tryz.all
  have hI := Go.Eng.Tryz.ids
  obtain ⟨d0, ds, rfl, h0, hds⟩ := zaI hds
  obtain ⟨d1, ds, rfl, h1, hds⟩ := zaI hds
  obtain ⟨d2, ds, rfl, h2, hds⟩ := zaI hds
  obtain rfl := zd8 hds
  obtain ⟨x0, e0, hx0⟩ := arg_plan h0
  obtain ⟨x1, e1, hx1⟩ := arg_state h1
  obtain ⟨x2, e2, hx2⟩ := arg_acts h2
  simp only [shapes, znc, e0, e1, e2]
  exact Go.Lev.coreDoes_pc hH hI x0 hx0 x1 hx1 x2 hx2
set_option maxRecDepth 100000 in
theorem coreDoes_lifted (os : Os) (started : os.Started) (H : Type) (enc : TypeId × Value → H) :
    ReturnsInHanded {} Tryz.checked os 7 .any (Rows.coreDoesSpec.pre6 enc Tryz.prog Tryz.f7 Rows.coreDoesRow.domain false) (Rows.coreDoesSpec.post enc Tryz.prog Tryz.f7 false true false false) := by
  refine returnsInHanded_of_change (C := Tryz.checked) own started (by kernel_rfl) Tryz.func7
    (ChangeSpec.witness6 (enc := enc) (C := Tryz.checked) false ⟨#[], #[.agg #[.int .i64 0, .int .i64 0, .slice none 0 0, .slice none 0 0, .slice none 0 0, .slice none 0 0], .agg #[.slice none 0 0, .slice none 0 0, .slice none 0 0], .slice none 0 0], []⟩ 8 (by kernel_rfl) (by kernel_rfl) (by kernel_rfl) (by kernel_rfl)) ?_
  intro W base args ds gs before hval hW _ _
  exact law_of_pc (fn := Tryz.f7) (s := Rows.coreDoesSpec) (inv := Go.Eng.Tryz.inv) (n := 40) (tb := 4) (Ss := shapes) rfl laid (by kernel_rfl) (by kernel_rfl) (by kernel_rfl) (by kernel_rfl) rfl
    (fun l hl => by rcases l with _ | ⟨a0, _ | ⟨a1, _ | ⟨a2, _ | ⟨z, l⟩⟩⟩⟩ <;> first | rfl | (simp [shapes] at hl; done)) coreDoes_pcd W base args ds gs before hval hW
theorem coreDoes_n : Tryz.checked.prog.funcNamed Rows.coreDoesRow.func = some 7 := by kernel_rfl
theorem coreDoes_c : joinedFacts Tryz.checked.prog 7 Tryz.f7 Rows.coreDoesSpec Rows.coreDoesRow = true := by kernel_rfl
theorem coreDoes_i : Tryz.f7.isInstance Tryz.checked.prog Rows.coreDoesRow.origin Rows.coreDoesRow.targs := of_decide_eq_true (by kernel_rfl)
theorem coreDoes_w : Tryz.f7.isWrapper Tryz.checked.prog Rows.coreDoesRow.wrapper Rows.coreDoesRow.mainSum := by unfold Func.isWrapper; first | (rw [if_pos (by decide +kernel)]; kernel_rfl) | (rw [if_neg (by decide +kernel)]; exact ⟨rfl, rfl⟩)
theorem coreDoes_holds : Rows.CoreDoesSaid :=
  OpenClaim.holds_of_wide 7 Tryz.f7 rfl rfl rfl rfl rfl rfl rfl ⟨rfl, rfl, rfl, rfl, rfl⟩ rfl rfl rfl rfl rfl coreDoes_n Tryz.func7 coreDoes_c coreDoes_i coreDoes_w
    (fun os started H enc _ => coreDoes_lifted os started H enc)
end Go.Proofs.YtibpmipffibbpaaGreat
