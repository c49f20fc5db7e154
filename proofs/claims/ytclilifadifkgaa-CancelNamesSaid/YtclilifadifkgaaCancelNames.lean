/-
  CancelNames: the errors have their numbers, and the chapter's examples are so: the given law answers true. Conditions: none.
-/
import Derived.Test.YtclilifadifkgaaRows
import Derived.Test.YtclilifadifkgaaIds
namespace Go.Proofs.Ytclilifadifkgaa
open Go.ChangeShapes Go.WideShapes Go.ChangeAt Go.RowKit Go.Eng Go.Eng.Try
theorem own : ownKnob Try.prog.godebug = none := by kernel_rfl
theorem laid : laidOutB Try.prog = true := by kernel_rfl
theorem hasT (j : Nat) (F : AFn) (h : code j = some F) : Has Try.prog Go.Eng.Try.inv j F := Go.Eng.Try.all.has j F h
def nthT (x : AV) (i : Nat) : AV := match x with | .tup xs => xs.getD i .u | _ => .u
def a0 : AV := (.agg [(.i .i64 1), (.i .i64 0), (.sl 3 [[(.i .i64 1), (.i .i64 0), (.sl 2 [[(.i .i64 0), (.i .i64 0)], [(.i .i64 2), (.i .i64 0)]])], [(.i .i64 2), (.i .i64 5), (.sl 2 [[(.i .i64 1), (.i .i64 1)], [(.i .i64 3), (.i .i64 0)], [(.i .i64 4), (.i .i64 0)]])], [(.i .i64 3), (.i .i64 0), (.sl 2 [[(.i .i64 2), (.i .i64 1)], [(.i .i64 0), (.i .i64 0)]])], [(.i .i64 4), (.i .i64 0), (.sl 2 [[(.i .i64 2), (.i .i64 2)], [(.i .i64 0), (.i .i64 0)]])]]), (.sl 2 [[(.i .i64 5), (.i .i64 2)]]), (.sl 3 [[(.i .i64 1), (.i .i64 1), (.i .i64 1)]]), (.sl 7 [[(.i .i64 1), (.i .i64 1), (.i .i64 0), (.sl 1 [[(.i .i64 2)], [(.i .i64 3)]]), (.s0 1), (.s0 2), (.i .i64 3)], [(.i .i64 2), (.i .i64 1), (.i .i64 0), (.sl 1 [[(.i .i64 2)], [(.i .i64 4)]]), (.s0 1), (.s0 2), (.i .i64 4)]])])
def m0 : List (Nat × List AV × AV) := (161, [], a0) :: []
set_option maxRecDepth 1000000 in
theorem ok0 : ∀ e ∈ m0, PC Try.prog Go.Eng.Try.inv e.1 e.2.1 (· = e.2.2) := memo_cons (run_raw (Kp := kp) (T := code) (Z := zOf prim []) Go.Eng.Try.all.callable hasT (zOf_ok prim_ok memo_nil) 400 (by kernel_rfl)) memo_nil
def a1 : AV := (.tup [(.sl 4 [[(.sl 1 [[(.i .i64 2)], [(.i .i64 3)]]), (.sl 1 []), (.sl 3 [[(.i .i64 5), (.i .i64 1), (.i .i64 0)]]), (.i .i64 1)], [(.sl 1 [[(.i .i64 2)], [(.i .i64 4)]]), (.sl 1 []), (.sl 3 [[(.i .i64 5), (.i .i64 2), (.i .i64 0)]]), (.i .i64 1)]]), (.sl 1 [[(.sl 2 [[(.i .i64 2), (.i .i64 1)], [(.i .i64 3), (.i .i64 1)]])], [(.sl 2 [[(.i .i64 2), (.i .i64 2)], [(.i .i64 4), (.i .i64 1)]])]]), (.i .i64 0)])
def m1 : List (Nat × List AV × AV) := (82, [a0], a1) :: m0
set_option maxRecDepth 1000000 in
theorem ok1 : ∀ e ∈ m1, PC Try.prog Go.Eng.Try.inv e.1 e.2.1 (· = e.2.2) := memo_cons (run_raw (Kp := kp) (T := code) (Z := zOf prim m0) Go.Eng.Try.all.callable hasT (zOf_ok prim_ok ok0) 400 (by kernel_rfl)) ok0
def a2 : AV := (.i .i64 0)
def m2 : List (Nat × List AV × AV) := (70, [a0], a2) :: m1
set_option maxRecDepth 1000000 in
theorem ok2 : ∀ e ∈ m2, PC Try.prog Go.Eng.Try.inv e.1 e.2.1 (· = e.2.2) := memo_cons (run_raw (Kp := kp) (T := code) (Z := zOf prim m1) Go.Eng.Try.all.callable hasT (zOf_ok prim_ok ok1) 400 (by kernel_rfl)) ok1
def a3 : AV := (.b true)
def m3 : List (Nat × List AV × AV) := (159, [], a3) :: m2
set_option maxRecDepth 1000000 in
theorem ok3 : ∀ e ∈ m3, PC Try.prog Go.Eng.Try.inv e.1 e.2.1 (· = e.2.2) := memo_cons (run_raw (Kp := kp) (T := code) (Z := zOf prim m2) Go.Eng.Try.all.callable hasT (zOf_ok prim_ok ok2) 400 (by kernel_rfl)) ok2
def shapes : List Sh := []
set_option maxRecDepth 1000000 in
theorem cancelNames_pc : PC Try.prog Go.Eng.Try.inv 148 [] (· = .b true) := run_raw (Kp := kp) (T := code) (Z := zOf prim m3) Go.Eng.Try.all.callable hasT (zOf_ok prim_ok ok3) 400 (by kernel_rfl)
theorem cancelNames_pcd (ds : List D) (_ : Sh.okL shapes ds) : PC Try.prog Go.Eng.Try.inv 148 (Sh.args shapes ds) (fun r => r = .b true) := cancelNames_pc
set_option maxRecDepth 100000 in
theorem cancelNames_lifted (os : Os) (started : os.Started) (H : Type) (enc : TypeId × Value → H) :
    ReturnsInHanded {} Try.checked os 7 .any (Rows.cancelNamesSpec.pre6 enc Try.prog Try.f7 Rows.cancelNamesRow.domain false) (Rows.cancelNamesSpec.post enc Try.prog Try.f7 false true false false) := by
  refine returnsInHanded_of_change (C := Try.checked) own started (by kernel_rfl) Try.func7
    (ChangeSpec.witness6 (enc := enc) (C := Try.checked) false ⟨#[], #[], []⟩ 8 (by kernel_rfl) (by kernel_rfl) (by kernel_rfl) (by kernel_rfl)) ?_
  intro W base args ds gs before hval hW _ _
  exact law_of_pc (fn := Try.f7) (s := Rows.cancelNamesSpec) (inv := Go.Eng.Try.inv) (n := 40) (tb := 4) (Ss := shapes) rfl laid (by kernel_rfl) (by kernel_rfl) (by kernel_rfl) (by kernel_rfl) rfl
    (fun l hl => by rcases l with _ | ⟨z, l⟩ <;> first | rfl | (simp [shapes] at hl; done)) cancelNames_pcd W base args ds gs before hval hW
theorem cancelNames_holds : Rows.CancelNamesSaid :=
  OpenClaim.holds_of_wide 7 Try.f7 rfl rfl rfl rfl rfl rfl rfl ⟨rfl, rfl, rfl, rfl, rfl⟩ rfl rfl rfl rfl rfl (by kernel_rfl) Try.func7 (by kernel_rfl)
    (of_decide_eq_true (by kernel_rfl)) (by unfold Func.isWrapper; first | (rw [if_pos (by decide +kernel)]; kernel_rfl) | (rw [if_neg (by decide +kernel)]; exact ⟨rfl, rfl⟩))
    (fun os started H enc _ => cancelNames_lifted os started H enc)
end Go.Proofs.Ytclilifadifkgaa
