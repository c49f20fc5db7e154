/-
  PassNames: the chapter's examples are so: the given law answers true. Conditions: none.
-/
import Derived.Test.YtclilifadifkgaaRows
import Derived.Test.YtclilifadifkgaaIds
namespace Go.Proofs.Ytclilifadifkgaa
open Go.ChangeShapes Go.WideShapes Go.ChangeAt Go.RowKit Go.Eng Go.Eng.Try
theorem own : ownKnob Try.prog.godebug = none := by kernel_rfl
theorem laid : laidOutB Try.prog = true := by kernel_rfl
theorem hasT (j : Nat) (F : AFn) (h : code j = some F) : Has Try.prog Go.Eng.Try.inv j F := Go.Eng.Try.all.has j F h
def nthT (x : AV) (i : Nat) : AV := match x with | .tup xs => xs.getD i .u | _ => .u
def a0 : AV := (.agg [(.i .i64 1), (.i .i64 0), (.sl 3 [[(.i .i64 1), (.i .i64 0), (.sl 2 [[(.i .i64 0), (.i .i64 0)], [(.i .i64 2), (.i .i64 0)]])], [(.i .i64 2), (.i .i64 5), (.sl 2 [[(.i .i64 1), (.i .i64 1)], [(.i .i64 3), (.i .i64 0)], [(.i .i64 4), (.i .i64 0)]])], [(.i .i64 3), (.i .i64 0), (.sl 2 [[(.i .i64 2), (.i .i64 1)], [(.i .i64 0), (.i .i64 0)]])], [(.i .i64 4), (.i .i64 0), (.sl 2 [[(.i .i64 2), (.i .i64 2)], [(.i .i64 0), (.i .i64 0)]])]]), (.sl 2 [[(.i .i64 5), (.i .i64 2)]]), (.sl 3 [[(.i .i64 1), (.i .i64 1), (.i .i64 1)]]), (.sl 7 [[(.i .i64 1), (.i .i64 1), (.i .i64 0), (.sl 1 [[(.i .i64 2)], [(.i .i64 3)]]), (.s0 1), (.s0 2), (.i .i64 3)], [(.i .i64 2), (.i .i64 1), (.i .i64 0), (.sl 1 [[(.i .i64 2)], [(.i .i64 4)]]), (.s0 1), (.s0 2), (.i .i64 4)]])])
def m0 : List (Nat × List AV × AV) := (166, [], a0) :: []
set_option maxRecDepth 1000000 in
theorem ok0 : ∀ e ∈ m0, PC Try.prog Go.Eng.Try.inv e.1 e.2.1 (· = e.2.2) := memo_cons (run_raw (Kp := kp) (T := code) (Z := zOf prim []) Go.Eng.Try.all.callable hasT (zOf_ok prim_ok memo_nil) 400 (by kernel_rfl)) memo_nil
def a1 : AV := (.tup [(.sl 4 [[(.sl 1 [[(.i .i64 2)], [(.i .i64 3)]]), (.sl 1 []), (.sl 3 [[(.i .i64 5), (.i .i64 1), (.i .i64 0)]]), (.i .i64 1)], [(.sl 1 [[(.i .i64 2)], [(.i .i64 4)]]), (.sl 1 []), (.sl 3 [[(.i .i64 5), (.i .i64 2), (.i .i64 0)]]), (.i .i64 1)]]), (.sl 1 [[(.sl 2 [[(.i .i64 2), (.i .i64 1)], [(.i .i64 3), (.i .i64 1)]])], [(.sl 2 [[(.i .i64 2), (.i .i64 2)], [(.i .i64 4), (.i .i64 1)]])]]), (.i .i64 0)])
def m1 : List (Nat × List AV × AV) := (82, [a0], a1) :: m0
set_option maxRecDepth 1000000 in
theorem ok1 : ∀ e ∈ m1, PC Try.prog Go.Eng.Try.inv e.1 e.2.1 (· = e.2.2) := memo_cons (run_raw (Kp := kp) (T := code) (Z := zOf prim m0) Go.Eng.Try.all.callable hasT (zOf_ok prim_ok ok0) 400 (by kernel_rfl)) ok0
def a2 : AV := (.i .i64 0)
def m2 : List (Nat × List AV × AV) := (70, [a0], a2) :: m1
set_option maxRecDepth 1000000 in
theorem ok2 : ∀ e ∈ m2, PC Try.prog Go.Eng.Try.inv e.1 e.2.1 (· = e.2.2) := memo_cons (run_raw (Kp := kp) (T := code) (Z := zOf prim m1) Go.Eng.Try.all.callable hasT (zOf_ok prim_ok ok1) 400 (by kernel_rfl)) ok1
def a3 : AV := (.tup [(.agg [(.sl 2 [[(.i .i64 1), (.i .u8 0)], [(.i .i64 2), (.i .u8 0)], [(.i .i64 3), (.i .u8 0)], [(.i .i64 4), (.i .u8 0)]]), (.sl 3 [[(.i .i64 5), (.i .i64 0), (.i .i64 0)]]), (.sl 4 [[(.i .i64 1), (.i .u8 0), (.i .i64 0), (.i .i64 0)], [(.i .i64 2), (.i .u8 0), (.i .i64 0), (.i .i64 0)]])]), (.b true)])
def m3 : List (Nat × List AV × AV) := (165, [], a3) :: m2
set_option maxRecDepth 1000000 in
theorem ok3 : ∀ e ∈ m3, PC Try.prog Go.Eng.Try.inv e.1 e.2.1 (· = e.2.2) := memo_cons (run_raw (Kp := kp) (T := code) (Z := zOf prim m2) Go.Eng.Try.all.callable hasT (zOf_ok prim_ok ok2) 400 (by kernel_rfl)) ok2
def a4 : AV := (.tup [(.agg [(.sl 2 [[(.i .i64 1), (.i .u8 0)], [(.i .i64 2), (.i .u8 0)], [(.i .i64 3), (.i .u8 0)], [(.i .i64 4), (.i .u8 0)]]), (.sl 3 [[(.i .i64 5), (.i .i64 0), (.i .i64 1)]]), (.sl 4 [[(.i .i64 1), (.i .u8 1), (.i .i64 0), (.i .i64 0)], [(.i .i64 2), (.i .u8 0), (.i .i64 0), (.i .i64 0)]])]), (.i .i64 0)])
def m4 : List (Nat × List AV × AV) := (156, [a0, (nthT a3 0), (.i .i64 1)], a4) :: m3
set_option maxRecDepth 1000000 in
theorem ok4 : ∀ e ∈ m4, PC Try.prog Go.Eng.Try.inv e.1 e.2.1 (· = e.2.2) := memo_cons (run_raw (Kp := kp) (T := code) (Z := zOf prim m3) Go.Eng.Try.all.callable hasT (zOf_ok prim_ok ok3) 400 (by kernel_rfl)) ok3
def a5 : AV := (.tup [(.agg [(.sl 2 [[(.i .i64 1), (.i .u8 0)], [(.i .i64 2), (.i .u8 1)], [(.i .i64 3), (.i .u8 0)], [(.i .i64 4), (.i .u8 0)]]), (.sl 3 [[(.i .i64 5), (.i .i64 0), (.i .i64 1)]]), (.sl 4 [[(.i .i64 1), (.i .u8 2), (.i .i64 0), (.i .i64 0)], [(.i .i64 2), (.i .u8 0), (.i .i64 0), (.i .i64 0)]])]), (.b true)])
def m5 : List (Nat × List AV × AV) := (167, [(nthT a4 0), (.i .i64 2), (.i .i64 1)], a5) :: m4
set_option maxRecDepth 1000000 in
theorem ok5 : ∀ e ∈ m5, PC Try.prog Go.Eng.Try.inv e.1 e.2.1 (· = e.2.2) := memo_cons (run_raw (Kp := kp) (T := code) (Z := zOf prim m4) Go.Eng.Try.all.callable hasT (zOf_ok prim_ok ok4) 400 (by kernel_rfl)) ok4
def a6 : AV := (.tup [(.agg [(.sl 2 [[(.i .i64 1), (.i .u8 0)], [(.i .i64 2), (.i .u8 1)], [(.i .i64 3), (.i .u8 1)], [(.i .i64 4), (.i .u8 0)]]), (.sl 3 [[(.i .i64 5), (.i .i64 0), (.i .i64 1)]]), (.sl 4 [[(.i .i64 1), (.i .u8 2), (.i .i64 0), (.i .i64 0)], [(.i .i64 2), (.i .u8 0), (.i .i64 0), (.i .i64 0)]])]), (.b true)])
def m6 : List (Nat × List AV × AV) := (167, [(nthT a5 0), (.i .i64 3), (.i .i64 1)], a6) :: m5
set_option maxRecDepth 1000000 in
theorem ok6 : ∀ e ∈ m6, PC Try.prog Go.Eng.Try.inv e.1 e.2.1 (· = e.2.2) := memo_cons (run_raw (Kp := kp) (T := code) (Z := zOf prim m5) Go.Eng.Try.all.callable hasT (zOf_ok prim_ok ok5) 400 (by kernel_rfl)) ok5
def a7 : AV := (.tup [(.agg [(.sl 2 [[(.i .i64 1), (.i .u8 0)], [(.i .i64 2), (.i .u8 0)], [(.i .i64 3), (.i .u8 1)], [(.i .i64 4), (.i .u8 0)]]), (.sl 3 [[(.i .i64 5), (.i .i64 0), (.i .i64 1)]]), (.sl 4 [[(.i .i64 1), (.i .u8 3), (.i .i64 1), (.i .i64 3)], [(.i .i64 2), (.i .u8 0), (.i .i64 0), (.i .i64 0)]])]), (.b true)])
def m7 : List (Nat × List AV × AV) := (167, [(nthT a6 0), (.i .i64 2), (.i .i64 0)], a7) :: m6
set_option maxRecDepth 1000000 in
theorem ok7 : ∀ e ∈ m7, PC Try.prog Go.Eng.Try.inv e.1 e.2.1 (· = e.2.2) := memo_cons (run_raw (Kp := kp) (T := code) (Z := zOf prim m6) Go.Eng.Try.all.callable hasT (zOf_ok prim_ok ok6) 400 (by kernel_rfl)) ok6
def a8 : AV := (.tup [(.agg [(.sl 2 [[(.i .i64 1), (.i .u8 0)], [(.i .i64 2), (.i .u8 0)], [(.i .i64 3), (.i .u8 0)], [(.i .i64 4), (.i .u8 0)]]), (.sl 3 [[(.i .i64 5), (.i .i64 0), (.i .i64 1)]]), (.sl 4 [[(.i .i64 1), (.i .u8 0), (.i .i64 0), (.i .i64 0)], [(.i .i64 2), (.i .u8 0), (.i .i64 0), (.i .i64 0)]])]), (.b true)])
def m8 : List (Nat × List AV × AV) := (167, [(nthT a7 0), (.i .i64 3), (.i .i64 0)], a8) :: m7
set_option maxRecDepth 1000000 in
theorem ok8 : ∀ e ∈ m8, PC Try.prog Go.Eng.Try.inv e.1 e.2.1 (· = e.2.2) := memo_cons (run_raw (Kp := kp) (T := code) (Z := zOf prim m7) Go.Eng.Try.all.callable hasT (zOf_ok prim_ok ok7) 400 (by kernel_rfl)) ok7
def shapes : List Sh := []
set_option maxRecDepth 1000000 in
theorem passNames_pc : PC Try.prog Go.Eng.Try.inv 149 [] (· = .b true) := run_raw (Kp := kp) (T := code) (Z := zOf prim m8) Go.Eng.Try.all.callable hasT (zOf_ok prim_ok ok8) 400 (by kernel_rfl)
theorem passNames_pcd (ds : List D) (_ : Sh.okL shapes ds) : PC Try.prog Go.Eng.Try.inv 149 (Sh.args shapes ds) (fun r => r = .b true) := passNames_pc
set_option maxRecDepth 100000 in
theorem passNames_lifted (os : Os) (started : os.Started) (H : Type) (enc : TypeId × Value → H) :
    ReturnsInHanded {} Try.checked os 8 .any (Rows.passNamesSpec.pre6 enc Try.prog Try.f8 Rows.passNamesRow.domain false) (Rows.passNamesSpec.post enc Try.prog Try.f8 false true false false) := by
  refine returnsInHanded_of_change (C := Try.checked) own started (by kernel_rfl) Try.func8
    (ChangeSpec.witness6 (enc := enc) (C := Try.checked) false ⟨#[], #[], []⟩ 8 (by kernel_rfl) (by kernel_rfl) (by kernel_rfl) (by kernel_rfl)) ?_
  intro W base args ds gs before hval hW _ _
  exact law_of_pc (fn := Try.f8) (s := Rows.passNamesSpec) (inv := Go.Eng.Try.inv) (n := 40) (tb := 4) (Ss := shapes) rfl laid (by kernel_rfl) (by kernel_rfl) (by kernel_rfl) (by kernel_rfl) rfl
    (fun l hl => by rcases l with _ | ⟨z, l⟩ <;> first | rfl | (simp [shapes] at hl; done)) passNames_pcd W base args ds gs before hval hW
theorem passNames_holds : Rows.PassNamesSaid :=
  OpenClaim.holds_of_wide 8 Try.f8 rfl rfl rfl rfl rfl rfl rfl ⟨rfl, rfl, rfl, rfl, rfl⟩ rfl rfl rfl rfl rfl (by kernel_rfl) Try.func8 (by kernel_rfl)
    (of_decide_eq_true (by kernel_rfl)) (by unfold Func.isWrapper; first | (rw [if_pos (by decide +kernel)]; kernel_rfl) | (rw [if_neg (by decide +kernel)]; exact ⟨rfl, rfl⟩))
    (fun os started H enc _ => passNames_lifted os started H enc)
end Go.Proofs.Ytclilifadifkgaa
