/-
  THE PLAIN DATA: the program's structs as Lean's own, and the cells that they are.
-/
import Derived.Test.YtkpklcnecnijoaaEngW
namespace Go.Eng
set_option linter.unusedSimpArgs false
set_option linter.unusedVariables false
set_option linter.unusedSectionVars false

abbrev AV.n (x : Int) : AV := .i .i64 x
structure Join where
  to : Int
  ed : Int
  deriving DecidableEq, Inhabited
def Join.c (j : Join) : List AV := [.n j.to, .n j.ed]
structure Section where
  id : Int
  pt : Int
  ends : List Join
  deriving DecidableEq, Inhabited
def Section.c (s : Section) : List AV := [.n s.id, .n s.pt, .sl 2 (s.ends.map Join.c)]
theorem join_eq (a b : Join) : a = b ↔ a.to = b.to ∧ a.ed = b.ed := by cases a; cases b; simp
instance : Cells Join.c 2 := ⟨fun _ => rfl, fun _ => rfl⟩
instance : Cells Section.c 3 := ⟨fun _ => rfl, fun _ => rfl⟩
def int1 (x : Int) : List AV := [.n x]
instance : Cells int1 1 := ⟨fun _ => rfl, fun _ => rfl⟩
attribute [go_sem] int1 Join.c Section.c
end Go.Eng
