/-
  THE ENGINE, PART V: which code each function has.
-/
import Derived.Test.YtkpklcnecnijoaaEngU2
namespace Go.Eng
def code : Nat → Option AFn
  | 0 => some cd0
  | 1 => some cd1
  | 2 => some cd2
  | 3 => some cd3
  | 4 => some cd4
  | 5 => some cd5
  | 6 => some cd6
  | 7 => some cd7
  | 8 => some cd8
  | 9 => some cd9
  | 10 => some cd10
  | 11 => some cd11
  | 12 => some cd12
  | 13 => some cd13
  | 14 => some cd14
  | 15 => some cd15
  | 16 => some cd16
  | 17 => some cd17
  | 18 => some cd18
  | 19 => some cd19
  | 20 => some cd20
  | 21 => some cd21
  | 22 => some cd22
  | 23 => some cd23
  | 24 => some cd24
  | 25 => some cd25
  | 26 => some cd26
  | 27 => some cd27
  | 28 => some cd28
  | 29 => some cd29
  | 30 => some cd30
  | 31 => some cd31
  | 32 => some cd32
  | 33 => some cd33
  | 34 => some cd34
  | 35 => some cd35
  | 36 => some cd36
  | 37 => some cd37
  | 38 => some cd38
  | 39 => some cd39
  | 40 => some cd40
  | 41 => some cd41
  | 42 => some cd42
  | 43 => some cd43
  | 44 => some cd44
  | 45 => some cd45
  | 46 => some cd46
  | 47 => some cd47
  | 48 => some cd48
  | 49 => some cd49
  | 50 => some cd50
  | 51 => some cd51
  | 52 => some cd52
  | 53 => some cd53
  | 54 => some cd54
  | 55 => some cd55
  | _ => none
structure HasAll (P : Program) (inv : Nat → Option Nat) : Prop where
  callable : Callable P inv
  has : ∀ j F, code j = some F → Has P inv j F
end Go.Eng
