/-
  CoreNames: acts have their numbers, and the chapter's examples are so: the given law answers true. Conditions: none.
-/
import Derived.Test.YtclilifadifkgaaGreatRows
import Derived.Test.YtclilifadifkgaaGreatIds
namespace Go.Proofs.YtclilifadifkgaaGreat
open Go.ChangeShapes Go.WideShapes Go.ChangeAt Go.RowKit Go.Eng Go.Eng.Tryz
theorem own : ownKnob Tryz.prog.godebug = none := by kernel_rfl
theorem laid : laidOutB Tryz.prog = true := by kernel_rfl
theorem hasT (j : Nat) (F : AFn) (h : code j = some F) : Has Tryz.prog Go.Eng.Tryz.inv j F := Go.Eng.Tryz.all.has j F h
def nthT (x : AV) (i : Nat) : AV := match x with | .tup xs => xs.getD i .u | _ => .u
def a0 : AV := (.agg [(.i .i64 1), (.i .i64 0), (.sl 3 [[(.i .i64 1), (.i .i64 0), (.sl 2 [[(.i .i64 0), (.i .i64 0)], [(.i .i64 2), (.i .i64 0)]])], [(.i .i64 2), (.i .i64 5), (.sl 2 [[(.i .i64 1), (.i .i64 1)], [(.i .i64 3), (.i .i64 0)], [(.i .i64 4), (.i .i64 0)]])], [(.i .i64 3), (.i .i64 0), (.sl 2 [[(.i .i64 2), (.i .i64 1)], [(.i .i64 0), (.i .i64 0)]])], [(.i .i64 4), (.i .i64 0), (.sl 2 [[(.i .i64 2), (.i .i64 2)], [(.i .i64 0), (.i .i64 0)]])]]), (.sl 2 [[(.i .i64 5), (.i .i64 2)]]), (.sl 3 [[(.i .i64 1), (.i .i64 1), (.i .i64 1)]]), (.sl 7 [[(.i .i64 1), (.i .i64 1), (.i .i64 0), (.sl 1 [[(.i .i64 2)], [(.i .i64 3)]]), (.s0 1), (.s0 2), (.i .i64 3)], [(.i .i64 2), (.i .i64 1), (.i .i64 0), (.sl 1 [[(.i .i64 2)], [(.i .i64 4)]]), (.s0 1), (.s0 2), (.i .i64 4)]])])
def m0 : List (Nat × List AV × AV) := (208, [], a0) :: []
set_option maxRecDepth 1000000 in
theorem ok0 : ∀ e ∈ m0, PC Tryz.prog Go.Eng.Tryz.inv e.1 e.2.1 (· = e.2.2) := memo_cons (run_raw (Kp := kp) (T := code) (Z := zOf prim []) Go.Eng.Tryz.all.callable hasT (zOf_ok prim_ok memo_nil) 400 (by kernel_rfl)) memo_nil
def a1 : AV := (.tup [(.sl 4 [[(.sl 1 [[(.i .i64 2)], [(.i .i64 3)]]), (.sl 1 []), (.sl 3 [[(.i .i64 5), (.i .i64 1), (.i .i64 0)]]), (.i .i64 1)], [(.sl 1 [[(.i .i64 2)], [(.i .i64 4)]]), (.sl 1 []), (.sl 3 [[(.i .i64 5), (.i .i64 2), (.i .i64 0)]]), (.i .i64 1)]]), (.sl 1 [[(.sl 2 [[(.i .i64 2), (.i .i64 1)], [(.i .i64 3), (.i .i64 1)]])], [(.sl 2 [[(.i .i64 2), (.i .i64 2)], [(.i .i64 4), (.i .i64 1)]])]]), (.i .i64 0)])
def m1 : List (Nat × List AV × AV) := (82, [a0], a1) :: m0
set_option maxRecDepth 1000000 in
theorem ok1 : ∀ e ∈ m1, PC Tryz.prog Go.Eng.Tryz.inv e.1 e.2.1 (· = e.2.2) := memo_cons (run_raw (Kp := kp) (T := code) (Z := zOf prim m0) Go.Eng.Tryz.all.callable hasT (zOf_ok prim_ok ok0) 400 (by kernel_rfl)) ok0
def a2 : AV := (.i .i64 0)
def m2 : List (Nat × List AV × AV) := (70, [a0], a2) :: m1
set_option maxRecDepth 1000000 in
theorem ok2 : ∀ e ∈ m2, PC Tryz.prog Go.Eng.Tryz.inv e.1 e.2.1 (· = e.2.2) := memo_cons (run_raw (Kp := kp) (T := code) (Z := zOf prim m1) Go.Eng.Tryz.all.callable hasT (zOf_ok prim_ok ok1) 400 (by kernel_rfl)) ok1
def a3 : AV := (.tup [(.agg [(.sl 2 [[(.i .i64 1), (.i .u8 0)], [(.i .i64 2), (.i .u8 0)], [(.i .i64 3), (.i .u8 0)], [(.i .i64 4), (.i .u8 0)]]), (.sl 3 [[(.i .i64 5), (.i .i64 0), (.i .i64 0)]]), (.sl 4 [[(.i .i64 1), (.i .u8 0), (.i .i64 0), (.i .i64 0)], [(.i .i64 2), (.i .u8 0), (.i .i64 0), (.i .i64 0)]])]), (.b true)])
def m3 : List (Nat × List AV × AV) := (206, [], a3) :: m2
set_option maxRecDepth 1000000 in
theorem ok3 : ∀ e ∈ m3, PC Tryz.prog Go.Eng.Tryz.inv e.1 e.2.1 (· = e.2.2) := memo_cons (run_raw (Kp := kp) (T := code) (Z := zOf prim m2) Go.Eng.Tryz.all.callable hasT (zOf_ok prim_ok ok2) 400 (by kernel_rfl)) ok2
def a4 : AV := (.tup [(.agg [(.sl 2 [[(.i .i64 1), (.i .u8 0)], [(.i .i64 2), (.i .u8 0)], [(.i .i64 3), (.i .u8 0)], [(.i .i64 4), (.i .u8 0)]]), (.sl 3 [[(.i .i64 5), (.i .i64 0), (.i .i64 1)]]), (.sl 4 [[(.i .i64 1), (.i .u8 1), (.i .i64 0), (.i .i64 0)], [(.i .i64 2), (.i .u8 0), (.i .i64 0), (.i .i64 0)]])]), (.i .i64 0)])
def m4 : List (Nat × List AV × AV) := (207, [a0, (nthT a3 0), (.agg [.i .u8 5, .i .i64 1, .i .i64 0, .s0 1])], a4) :: m3
set_option maxRecDepth 1000000 in
theorem ok4 : ∀ e ∈ m4, PC Tryz.prog Go.Eng.Tryz.inv e.1 e.2.1 (· = e.2.2) := memo_cons (run_raw (Kp := kp) (T := code) (Z := zOf prim m3) Go.Eng.Tryz.all.callable hasT (zOf_ok prim_ok ok3) 400 (by kernel_rfl)) ok3
def a5 : AV := (.tup [(.agg [(.sl 2 [[(.i .i64 1), (.i .u8 0)], [(.i .i64 2), (.i .u8 0)], [(.i .i64 3), (.i .u8 0)], [(.i .i64 4), (.i .u8 0)]]), (.sl 3 [[(.i .i64 5), (.i .i64 1), (.i .i64 1)]]), (.sl 4 [[(.i .i64 1), (.i .u8 1), (.i .i64 0), (.i .i64 0)], [(.i .i64 2), (.i .u8 0), (.i .i64 0), (.i .i64 0)]])]), (.i .i64 0)])
def m5 : List (Nat × List AV × AV) := (207, [a0, (nthT a4 0), (.agg [.i .u8 2, .i .i64 5, .i .i64 1, .s0 1])], a5) :: m4
set_option maxRecDepth 1000000 in
theorem ok5 : ∀ e ∈ m5, PC Tryz.prog Go.Eng.Tryz.inv e.1 e.2.1 (· = e.2.2) := memo_cons (run_raw (Kp := kp) (T := code) (Z := zOf prim m4) Go.Eng.Tryz.all.callable hasT (zOf_ok prim_ok ok4) 400 (by kernel_rfl)) ok4
def a6 : AV := (.tup [(.agg [(.sl 2 [[(.i .i64 1), (.i .u8 0)], [(.i .i64 2), (.i .u8 1)], [(.i .i64 3), (.i .u8 0)], [(.i .i64 4), (.i .u8 0)]]), (.sl 3 [[(.i .i64 5), (.i .i64 1), (.i .i64 1)]]), (.sl 4 [[(.i .i64 1), (.i .u8 2), (.i .i64 0), (.i .i64 0)], [(.i .i64 2), (.i .u8 0), (.i .i64 0), (.i .i64 0)]])]), (.i .i64 0)])
def m6 : List (Nat × List AV × AV) := (207, [a0, (nthT a5 0), (.agg [.i .u8 1, .i .i64 2, .i .i64 1, .s0 1])], a6) :: m5
set_option maxRecDepth 1000000 in
theorem ok6 : ∀ e ∈ m6, PC Tryz.prog Go.Eng.Tryz.inv e.1 e.2.1 (· = e.2.2) := memo_cons (run_raw (Kp := kp) (T := code) (Z := zOf prim m5) Go.Eng.Tryz.all.callable hasT (zOf_ok prim_ok ok5) 400 (by kernel_rfl)) ok5
def shapes : List Sh := []
set_option maxRecDepth 1000000 in
theorem coreNames_pc : PC Tryz.prog Go.Eng.Tryz.inv 193 [] (· = .b true) := run_raw (Kp := kp) (T := code) (Z := zOf prim m6) Go.Eng.Tryz.all.callable hasT (zOf_ok prim_ok ok6) 400 (by kernel_rfl)
theorem coreNames_pcd (ds : List D) (_ : Sh.okL shapes ds) : PC Tryz.prog Go.Eng.Tryz.inv 193 (Sh.args shapes ds) (fun r => r = .b true) := coreNames_pc
set_option maxRecDepth 100000 in
theorem coreNames_lifted (os : Os) (started : os.Started) (H : Type) (enc : TypeId × Value → H) :
    ReturnsInHanded {} Tryz.checked os 5 .any (Rows.coreNamesSpec.pre6 enc Tryz.prog Tryz.f5 Rows.coreNamesRow.domain false) (Rows.coreNamesSpec.post enc Tryz.prog Tryz.f5 false true false false) := by
  refine returnsInHanded_of_change (C := Tryz.checked) own started (by kernel_rfl) Tryz.func5
    (ChangeSpec.witness6 (enc := enc) (C := Tryz.checked) false ⟨#[], #[], []⟩ 8 (by kernel_rfl) (by kernel_rfl) (by kernel_rfl) (by kernel_rfl)) ?_
  intro W base args ds gs before hval hW _ _
  exact law_of_pc (fn := Tryz.f5) (s := Rows.coreNamesSpec) (inv := Go.Eng.Tryz.inv) (n := 40) (tb := 4) (Ss := shapes) rfl laid (by kernel_rfl) (by kernel_rfl) (by kernel_rfl) (by kernel_rfl) rfl
    (fun l hl => by rcases l with _ | ⟨z, l⟩ <;> first | rfl | (simp [shapes] at hl; done)) coreNames_pcd W base args ds gs before hval hW
theorem coreNames_holds : Rows.CoreNamesSaid :=
  OpenClaim.holds_of_wide 5 Tryz.f5 rfl rfl rfl rfl rfl rfl rfl ⟨rfl, rfl, rfl, rfl, rfl⟩ rfl rfl rfl rfl rfl (by kernel_rfl) Tryz.func5 (by kernel_rfl)
    (of_decide_eq_true (by kernel_rfl)) (by unfold Func.isWrapper; first | (rw [if_pos (by decide +kernel)]; kernel_rfl) | (rw [if_neg (by decide +kernel)]; exact ⟨rfl, rfl⟩))
    (fun os started H enc _ => coreNames_lifted os started H enc)
end Go.Proofs.YtclilifadifkgaaGreat
