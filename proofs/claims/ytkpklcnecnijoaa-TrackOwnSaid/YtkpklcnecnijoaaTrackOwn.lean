/-
  TrackOwn: sections with greater numbers, all of them moved by the same amount, are joined just as they were: the given law answers true at every list of sections and every amount. Conditions: none.
-/
import Derived.Test.YtkpklcnecnijoaaRows
import Derived.Test.YtkpklcnecnijoaaSeat
import Derived.Test.YtkpklcnecnijoaaEngY21
import Derived.Test.YtkpklcnecnijoaaEngX2
namespace Go.Proofs.Ytkpklcnecnijoaa
open Go.ChangeShapes Go.WideShapes Go.ChangeAt Go.RowKit Go.Eng Go.Lev
theorem own : ownKnob Try.prog.godebug = none := by kernel_rfl
theorem laid : laidOutB Try.prog = true := by kernel_rfl
def shapes : List Sh := [.s 3 shSection, .i .u8]
theorem trackOwn_pcd (ds : List D) (hds : Sh.okL shapes ds) : PC Try.prog Go.Eng.Try.inv 5 (Sh.args shapes ds) (fun r => r = .b true) := by
  have hH := Go.Eng.Try.all
  obtain ⟨d1, ds, rfl, h1, hds⟩ := of_cons hds
  obtain ⟨d2, ds, rfl, h2, hds⟩ := of_cons hds
  obtain rfl := of_nil hds
  obtain ⟨l, e1, _, hl⟩ := arg_list of_section h1
  obtain ⟨x, e2, hx0, hx1⟩ := arg_u8 h2
  simp only [shapes, Sh.args, e1, e2]
  exact Go.Lev.trackOwn_pc hH l x hx0 hx1
set_option maxRecDepth 100000 in
theorem trackOwn_lifted (os : Os) (started : os.Started) (H : Type) (enc : TypeId × Value → H) :
    ReturnsInHanded {} Try.checked os 8 .any (Rows.trackOwnSpec.pre6 enc Try.prog Try.f8 Rows.trackOwnRow.domain false) (Rows.trackOwnSpec.post enc Try.prog Try.f8 false true false false) := by
  refine returnsInHanded_of_change (C := Try.checked) own started (by kernel_rfl) Try.func8
    (ChangeSpec.witness6 (enc := enc) (C := Try.checked) false ⟨#[], #[.slice none 0 0, .int .u8 0], []⟩ 8 (by kernel_rfl) (by kernel_rfl) (by kernel_rfl) (by kernel_rfl)) ?_
  intro W base args ds gs before hval hW _ _
  exact law_of_pc (fn := Try.f8) (s := Rows.trackOwnSpec) (inv := Go.Eng.Try.inv) (n := 40) (tb := 4) (Ss := shapes) rfl laid (by kernel_rfl) (by kernel_rfl) (by kernel_rfl) (by kernel_rfl) rfl
    (fun l hl => by rcases l with _ | ⟨a0, _ | ⟨a1, _ | ⟨z, l⟩⟩⟩ <;> first | rfl | (simp [shapes] at hl; done)) trackOwn_pcd W base args ds gs before hval hW
theorem trackOwn_holds : Rows.TrackOwnSaid :=
  OpenClaim.holds_of_wide 8 Try.f8 rfl rfl rfl rfl rfl rfl rfl ⟨rfl, rfl, rfl, rfl, rfl⟩ rfl rfl rfl rfl rfl (by kernel_rfl) Try.func8 (by kernel_rfl)
    (of_decide_eq_true (by kernel_rfl)) (by unfold Func.isWrapper; first | (rw [if_pos (by decide +kernel)]; kernel_rfl) | (rw [if_neg (by decide +kernel)]; exact ⟨rfl, rfl⟩))
    (fun os started H enc _ => trackOwn_lifted os started H enc)
end Go.Proofs.Ytkpklcnecnijoaa
