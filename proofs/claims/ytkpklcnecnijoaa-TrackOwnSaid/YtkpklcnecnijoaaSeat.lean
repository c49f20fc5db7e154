/-
  THE SEAT: its functions have the codes that the engine walks.
-/
import Derived.Test.YtkpklcnecnijoaaChecked
import Derived.Test.YtkpklcnecnijoaaEngV
namespace Go.Eng.Try
def tab : List Nat := [0, 0, 0, 1, 2, 3, 4, 5, 6, 7, 8, 9, 10, 11, 12, 13, 14, 15, 16, 17, 18, 19, 20, 21, 22, 23, 24, 25, 26, 27, 28, 29, 30, 31, 32, 33, 34, 35, 36, 37, 38, 39, 40, 41, 42, 43, 44, 45, 46, 47, 48, 49, 50, 51, 52, 53, 54, 55, 56, 0, 0, 0, 0, 0, 0, 0, 0, 0, 0, 0, 0, 0, 0, 0, 0, 0]
def inv (g : Nat) : Option Nat := match tab[g]? with | some (k + 1) => some k | _ => none
section
set_option maxRecDepth 100000
theorem e3 : compileFn Go.Proofs.Try.prog inv Go.Proofs.Try.f3 = some cd0 := by kernel_rfl
theorem e4 : compileFn Go.Proofs.Try.prog inv Go.Proofs.Try.f4 = some cd1 := by kernel_rfl
theorem e5 : compileFn Go.Proofs.Try.prog inv Go.Proofs.Try.f5 = some cd2 := by kernel_rfl
theorem e6 : compileFn Go.Proofs.Try.prog inv Go.Proofs.Try.f6 = some cd3 := by kernel_rfl
theorem e7 : compileFn Go.Proofs.Try.prog inv Go.Proofs.Try.f7 = some cd4 := by kernel_rfl
theorem e8 : compileFn Go.Proofs.Try.prog inv Go.Proofs.Try.f8 = some cd5 := by kernel_rfl
theorem e9 : compileFn Go.Proofs.Try.prog inv Go.Proofs.Try.f9 = some cd6 := by kernel_rfl
theorem e10 : compileFn Go.Proofs.Try.prog inv Go.Proofs.Try.f10 = some cd7 := by kernel_rfl
theorem e11 : compileFn Go.Proofs.Try.prog inv Go.Proofs.Try.f11 = some cd8 := by kernel_rfl
theorem e12 : compileFn Go.Proofs.Try.prog inv Go.Proofs.Try.f12 = some cd9 := by kernel_rfl
theorem e13 : compileFn Go.Proofs.Try.prog inv Go.Proofs.Try.f13 = some cd10 := by kernel_rfl
theorem e14 : compileFn Go.Proofs.Try.prog inv Go.Proofs.Try.f14 = some cd11 := by kernel_rfl
theorem e15 : compileFn Go.Proofs.Try.prog inv Go.Proofs.Try.f15 = some cd12 := by kernel_rfl
theorem e16 : compileFn Go.Proofs.Try.prog inv Go.Proofs.Try.f16 = some cd13 := by kernel_rfl
theorem e17 : compileFn Go.Proofs.Try.prog inv Go.Proofs.Try.f17 = some cd14 := by kernel_rfl
theorem e18 : compileFn Go.Proofs.Try.prog inv Go.Proofs.Try.f18 = some cd15 := by kernel_rfl
theorem e19 : compileFn Go.Proofs.Try.prog inv Go.Proofs.Try.f19 = some cd16 := by kernel_rfl
theorem e20 : compileFn Go.Proofs.Try.prog inv Go.Proofs.Try.f20 = some cd17 := by kernel_rfl
theorem e21 : compileFn Go.Proofs.Try.prog inv Go.Proofs.Try.f21 = some cd18 := by kernel_rfl
theorem e22 : compileFn Go.Proofs.Try.prog inv Go.Proofs.Try.f22 = some cd19 := by kernel_rfl
theorem e23 : compileFn Go.Proofs.Try.prog inv Go.Proofs.Try.f23 = some cd20 := by kernel_rfl
theorem e24 : compileFn Go.Proofs.Try.prog inv Go.Proofs.Try.f24 = some cd21 := by kernel_rfl
theorem e25 : compileFn Go.Proofs.Try.prog inv Go.Proofs.Try.f25 = some cd22 := by kernel_rfl
theorem e26 : compileFn Go.Proofs.Try.prog inv Go.Proofs.Try.f26 = some cd23 := by kernel_rfl
theorem e27 : compileFn Go.Proofs.Try.prog inv Go.Proofs.Try.f27 = some cd24 := by kernel_rfl
theorem e28 : compileFn Go.Proofs.Try.prog inv Go.Proofs.Try.f28 = some cd25 := by kernel_rfl
theorem e29 : compileFn Go.Proofs.Try.prog inv Go.Proofs.Try.f29 = some cd26 := by kernel_rfl
theorem e30 : compileFn Go.Proofs.Try.prog inv Go.Proofs.Try.f30 = some cd27 := by kernel_rfl
theorem e31 : compileFn Go.Proofs.Try.prog inv Go.Proofs.Try.f31 = some cd28 := by kernel_rfl
theorem e32 : compileFn Go.Proofs.Try.prog inv Go.Proofs.Try.f32 = some cd29 := by kernel_rfl
theorem e33 : compileFn Go.Proofs.Try.prog inv Go.Proofs.Try.f33 = some cd30 := by kernel_rfl
theorem e34 : compileFn Go.Proofs.Try.prog inv Go.Proofs.Try.f34 = some cd31 := by kernel_rfl
theorem e35 : compileFn Go.Proofs.Try.prog inv Go.Proofs.Try.f35 = some cd32 := by kernel_rfl
theorem e36 : compileFn Go.Proofs.Try.prog inv Go.Proofs.Try.f36 = some cd33 := by kernel_rfl
theorem e37 : compileFn Go.Proofs.Try.prog inv Go.Proofs.Try.f37 = some cd34 := by kernel_rfl
theorem e38 : compileFn Go.Proofs.Try.prog inv Go.Proofs.Try.f38 = some cd35 := by kernel_rfl
theorem e39 : compileFn Go.Proofs.Try.prog inv Go.Proofs.Try.f39 = some cd36 := by kernel_rfl
theorem e40 : compileFn Go.Proofs.Try.prog inv Go.Proofs.Try.f40 = some cd37 := by kernel_rfl
theorem e41 : compileFn Go.Proofs.Try.prog inv Go.Proofs.Try.f41 = some cd38 := by kernel_rfl
theorem e42 : compileFn Go.Proofs.Try.prog inv Go.Proofs.Try.f42 = some cd39 := by kernel_rfl
theorem e43 : compileFn Go.Proofs.Try.prog inv Go.Proofs.Try.f43 = some cd40 := by kernel_rfl
theorem e44 : compileFn Go.Proofs.Try.prog inv Go.Proofs.Try.f44 = some cd41 := by kernel_rfl
theorem e45 : compileFn Go.Proofs.Try.prog inv Go.Proofs.Try.f45 = some cd42 := by kernel_rfl
theorem e46 : compileFn Go.Proofs.Try.prog inv Go.Proofs.Try.f46 = some cd43 := by kernel_rfl
theorem e47 : compileFn Go.Proofs.Try.prog inv Go.Proofs.Try.f47 = some cd44 := by kernel_rfl
theorem e48 : compileFn Go.Proofs.Try.prog inv Go.Proofs.Try.f48 = some cd45 := by kernel_rfl
theorem e49 : compileFn Go.Proofs.Try.prog inv Go.Proofs.Try.f49 = some cd46 := by kernel_rfl
theorem e50 : compileFn Go.Proofs.Try.prog inv Go.Proofs.Try.f50 = some cd47 := by kernel_rfl
theorem e51 : compileFn Go.Proofs.Try.prog inv Go.Proofs.Try.f51 = some cd48 := by kernel_rfl
theorem e52 : compileFn Go.Proofs.Try.prog inv Go.Proofs.Try.f52 = some cd49 := by kernel_rfl
theorem e53 : compileFn Go.Proofs.Try.prog inv Go.Proofs.Try.f53 = some cd50 := by kernel_rfl
theorem e54 : compileFn Go.Proofs.Try.prog inv Go.Proofs.Try.f54 = some cd51 := by kernel_rfl
theorem e55 : compileFn Go.Proofs.Try.prog inv Go.Proofs.Try.f55 = some cd52 := by kernel_rfl
theorem e56 : compileFn Go.Proofs.Try.prog inv Go.Proofs.Try.f56 = some cd53 := by kernel_rfl
theorem e57 : compileFn Go.Proofs.Try.prog inv Go.Proofs.Try.f57 = some cd54 := by kernel_rfl
theorem e58 : compileFn Go.Proofs.Try.prog inv Go.Proofs.Try.f58 = some cd55 := by kernel_rfl
theorem has : ∀ (g j : Nat) (F : AFn), inv g = some j → code j = some F → ∃ fn, Go.Proofs.Try.prog.funcs[g]? = some fn ∧ compileFn Go.Proofs.Try.prog inv fn = some F
  | 0, j, F, h, hc => absurd h (by intro h; cases h)
  | 1, j, F, h, hc => absurd h (by intro h; cases h)
  | 2, j, F, h, hc => absurd h (by intro h; cases h)
  | 3, j, F, h, hc => by
    obtain rfl : 0 = j := Option.some.inj h
    obtain rfl : cd0 = F := Option.some.inj hc
    exact ⟨Go.Proofs.Try.f3, Go.Proofs.Try.func3, e3⟩
  | 4, j, F, h, hc => by
    obtain rfl : 1 = j := Option.some.inj h
    obtain rfl : cd1 = F := Option.some.inj hc
    exact ⟨Go.Proofs.Try.f4, Go.Proofs.Try.func4, e4⟩
  | 5, j, F, h, hc => by
    obtain rfl : 2 = j := Option.some.inj h
    obtain rfl : cd2 = F := Option.some.inj hc
    exact ⟨Go.Proofs.Try.f5, Go.Proofs.Try.func5, e5⟩
  | 6, j, F, h, hc => by
    obtain rfl : 3 = j := Option.some.inj h
    obtain rfl : cd3 = F := Option.some.inj hc
    exact ⟨Go.Proofs.Try.f6, Go.Proofs.Try.func6, e6⟩
  | 7, j, F, h, hc => by
    obtain rfl : 4 = j := Option.some.inj h
    obtain rfl : cd4 = F := Option.some.inj hc
    exact ⟨Go.Proofs.Try.f7, Go.Proofs.Try.func7, e7⟩
  | 8, j, F, h, hc => by
    obtain rfl : 5 = j := Option.some.inj h
    obtain rfl : cd5 = F := Option.some.inj hc
    exact ⟨Go.Proofs.Try.f8, Go.Proofs.Try.func8, e8⟩
  | 9, j, F, h, hc => by
    obtain rfl : 6 = j := Option.some.inj h
    obtain rfl : cd6 = F := Option.some.inj hc
    exact ⟨Go.Proofs.Try.f9, Go.Proofs.Try.func9, e9⟩
  | 10, j, F, h, hc => by
    obtain rfl : 7 = j := Option.some.inj h
    obtain rfl : cd7 = F := Option.some.inj hc
    exact ⟨Go.Proofs.Try.f10, Go.Proofs.Try.func10, e10⟩
  | 11, j, F, h, hc => by
    obtain rfl : 8 = j := Option.some.inj h
    obtain rfl : cd8 = F := Option.some.inj hc
    exact ⟨Go.Proofs.Try.f11, Go.Proofs.Try.func11, e11⟩
  | 12, j, F, h, hc => by
    obtain rfl : 9 = j := Option.some.inj h
    obtain rfl : cd9 = F := Option.some.inj hc
    exact ⟨Go.Proofs.Try.f12, Go.Proofs.Try.func12, e12⟩
  | 13, j, F, h, hc => by
    obtain rfl : 10 = j := Option.some.inj h
    obtain rfl : cd10 = F := Option.some.inj hc
    exact ⟨Go.Proofs.Try.f13, Go.Proofs.Try.func13, e13⟩
  | 14, j, F, h, hc => by
    obtain rfl : 11 = j := Option.some.inj h
    obtain rfl : cd11 = F := Option.some.inj hc
    exact ⟨Go.Proofs.Try.f14, Go.Proofs.Try.func14, e14⟩
  | 15, j, F, h, hc => by
    obtain rfl : 12 = j := Option.some.inj h
    obtain rfl : cd12 = F := Option.some.inj hc
    exact ⟨Go.Proofs.Try.f15, Go.Proofs.Try.func15, e15⟩
  | 16, j, F, h, hc => by
    obtain rfl : 13 = j := Option.some.inj h
    obtain rfl : cd13 = F := Option.some.inj hc
    exact ⟨Go.Proofs.Try.f16, Go.Proofs.Try.func16, e16⟩
  | 17, j, F, h, hc => by
    obtain rfl : 14 = j := Option.some.inj h
    obtain rfl : cd14 = F := Option.some.inj hc
    exact ⟨Go.Proofs.Try.f17, Go.Proofs.Try.func17, e17⟩
  | 18, j, F, h, hc => by
    obtain rfl : 15 = j := Option.some.inj h
    obtain rfl : cd15 = F := Option.some.inj hc
    exact ⟨Go.Proofs.Try.f18, Go.Proofs.Try.func18, e18⟩
  | 19, j, F, h, hc => by
    obtain rfl : 16 = j := Option.some.inj h
    obtain rfl : cd16 = F := Option.some.inj hc
    exact ⟨Go.Proofs.Try.f19, Go.Proofs.Try.func19, e19⟩
  | 20, j, F, h, hc => by
    obtain rfl : 17 = j := Option.some.inj h
    obtain rfl : cd17 = F := Option.some.inj hc
    exact ⟨Go.Proofs.Try.f20, Go.Proofs.Try.func20, e20⟩
  | 21, j, F, h, hc => by
    obtain rfl : 18 = j := Option.some.inj h
    obtain rfl : cd18 = F := Option.some.inj hc
    exact ⟨Go.Proofs.Try.f21, Go.Proofs.Try.func21, e21⟩
  | 22, j, F, h, hc => by
    obtain rfl : 19 = j := Option.some.inj h
    obtain rfl : cd19 = F := Option.some.inj hc
    exact ⟨Go.Proofs.Try.f22, Go.Proofs.Try.func22, e22⟩
  | 23, j, F, h, hc => by
    obtain rfl : 20 = j := Option.some.inj h
    obtain rfl : cd20 = F := Option.some.inj hc
    exact ⟨Go.Proofs.Try.f23, Go.Proofs.Try.func23, e23⟩
  | 24, j, F, h, hc => by
    obtain rfl : 21 = j := Option.some.inj h
    obtain rfl : cd21 = F := Option.some.inj hc
    exact ⟨Go.Proofs.Try.f24, Go.Proofs.Try.func24, e24⟩
  | 25, j, F, h, hc => by
    obtain rfl : 22 = j := Option.some.inj h
    obtain rfl : cd22 = F := Option.some.inj hc
    exact ⟨Go.Proofs.Try.f25, Go.Proofs.Try.func25, e25⟩
  | 26, j, F, h, hc => by
    obtain rfl : 23 = j := Option.some.inj h
    obtain rfl : cd23 = F := Option.some.inj hc
    exact ⟨Go.Proofs.Try.f26, Go.Proofs.Try.func26, e26⟩
  | 27, j, F, h, hc => by
    obtain rfl : 24 = j := Option.some.inj h
    obtain rfl : cd24 = F := Option.some.inj hc
    exact ⟨Go.Proofs.Try.f27, Go.Proofs.Try.func27, e27⟩
  | 28, j, F, h, hc => by
    obtain rfl : 25 = j := Option.some.inj h
    obtain rfl : cd25 = F := Option.some.inj hc
    exact ⟨Go.Proofs.Try.f28, Go.Proofs.Try.func28, e28⟩
  | 29, j, F, h, hc => by
    obtain rfl : 26 = j := Option.some.inj h
    obtain rfl : cd26 = F := Option.some.inj hc
    exact ⟨Go.Proofs.Try.f29, Go.Proofs.Try.func29, e29⟩
  | 30, j, F, h, hc => by
    obtain rfl : 27 = j := Option.some.inj h
    obtain rfl : cd27 = F := Option.some.inj hc
    exact ⟨Go.Proofs.Try.f30, Go.Proofs.Try.func30, e30⟩
  | 31, j, F, h, hc => by
    obtain rfl : 28 = j := Option.some.inj h
    obtain rfl : cd28 = F := Option.some.inj hc
    exact ⟨Go.Proofs.Try.f31, Go.Proofs.Try.func31, e31⟩
  | 32, j, F, h, hc => by
    obtain rfl : 29 = j := Option.some.inj h
    obtain rfl : cd29 = F := Option.some.inj hc
    exact ⟨Go.Proofs.Try.f32, Go.Proofs.Try.func32, e32⟩
  | 33, j, F, h, hc => by
    obtain rfl : 30 = j := Option.some.inj h
    obtain rfl : cd30 = F := Option.some.inj hc
    exact ⟨Go.Proofs.Try.f33, Go.Proofs.Try.func33, e33⟩
  | 34, j, F, h, hc => by
    obtain rfl : 31 = j := Option.some.inj h
    obtain rfl : cd31 = F := Option.some.inj hc
    exact ⟨Go.Proofs.Try.f34, Go.Proofs.Try.func34, e34⟩
  | 35, j, F, h, hc => by
    obtain rfl : 32 = j := Option.some.inj h
    obtain rfl : cd32 = F := Option.some.inj hc
    exact ⟨Go.Proofs.Try.f35, Go.Proofs.Try.func35, e35⟩
  | 36, j, F, h, hc => by
    obtain rfl : 33 = j := Option.some.inj h
    obtain rfl : cd33 = F := Option.some.inj hc
    exact ⟨Go.Proofs.Try.f36, Go.Proofs.Try.func36, e36⟩
  | 37, j, F, h, hc => by
    obtain rfl : 34 = j := Option.some.inj h
    obtain rfl : cd34 = F := Option.some.inj hc
    exact ⟨Go.Proofs.Try.f37, Go.Proofs.Try.func37, e37⟩
  | 38, j, F, h, hc => by
    obtain rfl : 35 = j := Option.some.inj h
    obtain rfl : cd35 = F := Option.some.inj hc
    exact ⟨Go.Proofs.Try.f38, Go.Proofs.Try.func38, e38⟩
  | 39, j, F, h, hc => by
    obtain rfl : 36 = j := Option.some.inj h
    obtain rfl : cd36 = F := Option.some.inj hc
    exact ⟨Go.Proofs.Try.f39, Go.Proofs.Try.func39, e39⟩
  | 40, j, F, h, hc => by
    obtain rfl : 37 = j := Option.some.inj h
    obtain rfl : cd37 = F := Option.some.inj hc
    exact ⟨Go.Proofs.Try.f40, Go.Proofs.Try.func40, e40⟩
  | 41, j, F, h, hc => by
    obtain rfl : 38 = j := Option.some.inj h
    obtain rfl : cd38 = F := Option.some.inj hc
    exact ⟨Go.Proofs.Try.f41, Go.Proofs.Try.func41, e41⟩
  | 42, j, F, h, hc => by
    obtain rfl : 39 = j := Option.some.inj h
    obtain rfl : cd39 = F := Option.some.inj hc
    exact ⟨Go.Proofs.Try.f42, Go.Proofs.Try.func42, e42⟩
  | 43, j, F, h, hc => by
    obtain rfl : 40 = j := Option.some.inj h
    obtain rfl : cd40 = F := Option.some.inj hc
    exact ⟨Go.Proofs.Try.f43, Go.Proofs.Try.func43, e43⟩
  | 44, j, F, h, hc => by
    obtain rfl : 41 = j := Option.some.inj h
    obtain rfl : cd41 = F := Option.some.inj hc
    exact ⟨Go.Proofs.Try.f44, Go.Proofs.Try.func44, e44⟩
  | 45, j, F, h, hc => by
    obtain rfl : 42 = j := Option.some.inj h
    obtain rfl : cd42 = F := Option.some.inj hc
    exact ⟨Go.Proofs.Try.f45, Go.Proofs.Try.func45, e45⟩
  | 46, j, F, h, hc => by
    obtain rfl : 43 = j := Option.some.inj h
    obtain rfl : cd43 = F := Option.some.inj hc
    exact ⟨Go.Proofs.Try.f46, Go.Proofs.Try.func46, e46⟩
  | 47, j, F, h, hc => by
    obtain rfl : 44 = j := Option.some.inj h
    obtain rfl : cd44 = F := Option.some.inj hc
    exact ⟨Go.Proofs.Try.f47, Go.Proofs.Try.func47, e47⟩
  | 48, j, F, h, hc => by
    obtain rfl : 45 = j := Option.some.inj h
    obtain rfl : cd45 = F := Option.some.inj hc
    exact ⟨Go.Proofs.Try.f48, Go.Proofs.Try.func48, e48⟩
  | 49, j, F, h, hc => by
    obtain rfl : 46 = j := Option.some.inj h
    obtain rfl : cd46 = F := Option.some.inj hc
    exact ⟨Go.Proofs.Try.f49, Go.Proofs.Try.func49, e49⟩
  | 50, j, F, h, hc => by
    obtain rfl : 47 = j := Option.some.inj h
    obtain rfl : cd47 = F := Option.some.inj hc
    exact ⟨Go.Proofs.Try.f50, Go.Proofs.Try.func50, e50⟩
  | 51, j, F, h, hc => by
    obtain rfl : 48 = j := Option.some.inj h
    obtain rfl : cd48 = F := Option.some.inj hc
    exact ⟨Go.Proofs.Try.f51, Go.Proofs.Try.func51, e51⟩
  | 52, j, F, h, hc => by
    obtain rfl : 49 = j := Option.some.inj h
    obtain rfl : cd49 = F := Option.some.inj hc
    exact ⟨Go.Proofs.Try.f52, Go.Proofs.Try.func52, e52⟩
  | 53, j, F, h, hc => by
    obtain rfl : 50 = j := Option.some.inj h
    obtain rfl : cd50 = F := Option.some.inj hc
    exact ⟨Go.Proofs.Try.f53, Go.Proofs.Try.func53, e53⟩
  | 54, j, F, h, hc => by
    obtain rfl : 51 = j := Option.some.inj h
    obtain rfl : cd51 = F := Option.some.inj hc
    exact ⟨Go.Proofs.Try.f54, Go.Proofs.Try.func54, e54⟩
  | 55, j, F, h, hc => by
    obtain rfl : 52 = j := Option.some.inj h
    obtain rfl : cd52 = F := Option.some.inj hc
    exact ⟨Go.Proofs.Try.f55, Go.Proofs.Try.func55, e55⟩
  | 56, j, F, h, hc => by
    obtain rfl : 53 = j := Option.some.inj h
    obtain rfl : cd53 = F := Option.some.inj hc
    exact ⟨Go.Proofs.Try.f56, Go.Proofs.Try.func56, e56⟩
  | 57, j, F, h, hc => by
    obtain rfl : 54 = j := Option.some.inj h
    obtain rfl : cd54 = F := Option.some.inj hc
    exact ⟨Go.Proofs.Try.f57, Go.Proofs.Try.func57, e57⟩
  | 58, j, F, h, hc => by
    obtain rfl : 55 = j := Option.some.inj h
    obtain rfl : cd55 = F := Option.some.inj hc
    exact ⟨Go.Proofs.Try.f58, Go.Proofs.Try.func58, e58⟩
  | 59, j, F, h, hc => absurd h (by intro h; cases h)
  | 60, j, F, h, hc => absurd h (by intro h; cases h)
  | 61, j, F, h, hc => absurd h (by intro h; cases h)
  | 62, j, F, h, hc => absurd h (by intro h; cases h)
  | 63, j, F, h, hc => absurd h (by intro h; cases h)
  | 64, j, F, h, hc => absurd h (by intro h; cases h)
  | 65, j, F, h, hc => absurd h (by intro h; cases h)
  | 66, j, F, h, hc => absurd h (by intro h; cases h)
  | 67, j, F, h, hc => absurd h (by intro h; cases h)
  | 68, j, F, h, hc => absurd h (by intro h; cases h)
  | 69, j, F, h, hc => absurd h (by intro h; cases h)
  | 70, j, F, h, hc => absurd h (by intro h; cases h)
  | 71, j, F, h, hc => absurd h (by intro h; cases h)
  | 72, j, F, h, hc => absurd h (by intro h; cases h)
  | 73, j, F, h, hc => absurd h (by intro h; cases h)
  | 74, j, F, h, hc => absurd h (by intro h; cases h)
  | 75, j, F, h, hc => absurd h (by intro h; cases h)
  | g + 76, j, F, h, hc => absurd h (by intro h; cases h)
theorem calls : ∀ (g j : Nat), inv g = some j → ∃ fn, Go.Proofs.Try.prog.funcs[g]? = some fn ∧ fn.body.isNone = false ∧ (fn.name == "runtime.NumGoroutine") = false
  | 0, j, h => absurd h (by intro h; cases h)
  | 1, j, h => absurd h (by intro h; cases h)
  | 2, j, h => absurd h (by intro h; cases h)
  | 3, j, h => ⟨Go.Proofs.Try.f3, Go.Proofs.Try.func3, by kernel_rfl, by kernel_rfl⟩
  | 4, j, h => ⟨Go.Proofs.Try.f4, Go.Proofs.Try.func4, by kernel_rfl, by kernel_rfl⟩
  | 5, j, h => ⟨Go.Proofs.Try.f5, Go.Proofs.Try.func5, by kernel_rfl, by kernel_rfl⟩
  | 6, j, h => ⟨Go.Proofs.Try.f6, Go.Proofs.Try.func6, by kernel_rfl, by kernel_rfl⟩
  | 7, j, h => ⟨Go.Proofs.Try.f7, Go.Proofs.Try.func7, by kernel_rfl, by kernel_rfl⟩
  | 8, j, h => ⟨Go.Proofs.Try.f8, Go.Proofs.Try.func8, by kernel_rfl, by kernel_rfl⟩
  | 9, j, h => ⟨Go.Proofs.Try.f9, Go.Proofs.Try.func9, by kernel_rfl, by kernel_rfl⟩
  | 10, j, h => ⟨Go.Proofs.Try.f10, Go.Proofs.Try.func10, by kernel_rfl, by kernel_rfl⟩
  | 11, j, h => ⟨Go.Proofs.Try.f11, Go.Proofs.Try.func11, by kernel_rfl, by kernel_rfl⟩
  | 12, j, h => ⟨Go.Proofs.Try.f12, Go.Proofs.Try.func12, by kernel_rfl, by kernel_rfl⟩
  | 13, j, h => ⟨Go.Proofs.Try.f13, Go.Proofs.Try.func13, by kernel_rfl, by kernel_rfl⟩
  | 14, j, h => ⟨Go.Proofs.Try.f14, Go.Proofs.Try.func14, by kernel_rfl, by kernel_rfl⟩
  | 15, j, h => ⟨Go.Proofs.Try.f15, Go.Proofs.Try.func15, by kernel_rfl, by kernel_rfl⟩
  | 16, j, h => ⟨Go.Proofs.Try.f16, Go.Proofs.Try.func16, by kernel_rfl, by kernel_rfl⟩
  | 17, j, h => ⟨Go.Proofs.Try.f17, Go.Proofs.Try.func17, by kernel_rfl, by kernel_rfl⟩
  | 18, j, h => ⟨Go.Proofs.Try.f18, Go.Proofs.Try.func18, by kernel_rfl, by kernel_rfl⟩
  | 19, j, h => ⟨Go.Proofs.Try.f19, Go.Proofs.Try.func19, by kernel_rfl, by kernel_rfl⟩
  | 20, j, h => ⟨Go.Proofs.Try.f20, Go.Proofs.Try.func20, by kernel_rfl, by kernel_rfl⟩
  | 21, j, h => ⟨Go.Proofs.Try.f21, Go.Proofs.Try.func21, by kernel_rfl, by kernel_rfl⟩
  | 22, j, h => ⟨Go.Proofs.Try.f22, Go.Proofs.Try.func22, by kernel_rfl, by kernel_rfl⟩
  | 23, j, h => ⟨Go.Proofs.Try.f23, Go.Proofs.Try.func23, by kernel_rfl, by kernel_rfl⟩
  | 24, j, h => ⟨Go.Proofs.Try.f24, Go.Proofs.Try.func24, by kernel_rfl, by kernel_rfl⟩
  | 25, j, h => ⟨Go.Proofs.Try.f25, Go.Proofs.Try.func25, by kernel_rfl, by kernel_rfl⟩
  | 26, j, h => ⟨Go.Proofs.Try.f26, Go.Proofs.Try.func26, by kernel_rfl, by kernel_rfl⟩
  | 27, j, h => ⟨Go.Proofs.Try.f27, Go.Proofs.Try.func27, by kernel_rfl, by kernel_rfl⟩
  | 28, j, h => ⟨Go.Proofs.Try.f28, Go.Proofs.Try.func28, by kernel_rfl, by kernel_rfl⟩
  | 29, j, h => ⟨Go.Proofs.Try.f29, Go.Proofs.Try.func29, by kernel_rfl, by kernel_rfl⟩
  | 30, j, h => ⟨Go.Proofs.Try.f30, Go.Proofs.Try.func30, by kernel_rfl, by kernel_rfl⟩
  | 31, j, h => ⟨Go.Proofs.Try.f31, Go.Proofs.Try.func31, by kernel_rfl, by kernel_rfl⟩
  | 32, j, h => ⟨Go.Proofs.Try.f32, Go.Proofs.Try.func32, by kernel_rfl, by kernel_rfl⟩
  | 33, j, h => ⟨Go.Proofs.Try.f33, Go.Proofs.Try.func33, by kernel_rfl, by kernel_rfl⟩
  | 34, j, h => ⟨Go.Proofs.Try.f34, Go.Proofs.Try.func34, by kernel_rfl, by kernel_rfl⟩
  | 35, j, h => ⟨Go.Proofs.Try.f35, Go.Proofs.Try.func35, by kernel_rfl, by kernel_rfl⟩
  | 36, j, h => ⟨Go.Proofs.Try.f36, Go.Proofs.Try.func36, by kernel_rfl, by kernel_rfl⟩
  | 37, j, h => ⟨Go.Proofs.Try.f37, Go.Proofs.Try.func37, by kernel_rfl, by kernel_rfl⟩
  | 38, j, h => ⟨Go.Proofs.Try.f38, Go.Proofs.Try.func38, by kernel_rfl, by kernel_rfl⟩
  | 39, j, h => ⟨Go.Proofs.Try.f39, Go.Proofs.Try.func39, by kernel_rfl, by kernel_rfl⟩
  | 40, j, h => ⟨Go.Proofs.Try.f40, Go.Proofs.Try.func40, by kernel_rfl, by kernel_rfl⟩
  | 41, j, h => ⟨Go.Proofs.Try.f41, Go.Proofs.Try.func41, by kernel_rfl, by kernel_rfl⟩
  | 42, j, h => ⟨Go.Proofs.Try.f42, Go.Proofs.Try.func42, by kernel_rfl, by kernel_rfl⟩
  | 43, j, h => ⟨Go.Proofs.Try.f43, Go.Proofs.Try.func43, by kernel_rfl, by kernel_rfl⟩
  | 44, j, h => ⟨Go.Proofs.Try.f44, Go.Proofs.Try.func44, by kernel_rfl, by kernel_rfl⟩
  | 45, j, h => ⟨Go.Proofs.Try.f45, Go.Proofs.Try.func45, by kernel_rfl, by kernel_rfl⟩
  | 46, j, h => ⟨Go.Proofs.Try.f46, Go.Proofs.Try.func46, by kernel_rfl, by kernel_rfl⟩
  | 47, j, h => ⟨Go.Proofs.Try.f47, Go.Proofs.Try.func47, by kernel_rfl, by kernel_rfl⟩
  | 48, j, h => ⟨Go.Proofs.Try.f48, Go.Proofs.Try.func48, by kernel_rfl, by kernel_rfl⟩
  | 49, j, h => ⟨Go.Proofs.Try.f49, Go.Proofs.Try.func49, by kernel_rfl, by kernel_rfl⟩
  | 50, j, h => ⟨Go.Proofs.Try.f50, Go.Proofs.Try.func50, by kernel_rfl, by kernel_rfl⟩
  | 51, j, h => ⟨Go.Proofs.Try.f51, Go.Proofs.Try.func51, by kernel_rfl, by kernel_rfl⟩
  | 52, j, h => ⟨Go.Proofs.Try.f52, Go.Proofs.Try.func52, by kernel_rfl, by kernel_rfl⟩
  | 53, j, h => ⟨Go.Proofs.Try.f53, Go.Proofs.Try.func53, by kernel_rfl, by kernel_rfl⟩
  | 54, j, h => ⟨Go.Proofs.Try.f54, Go.Proofs.Try.func54, by kernel_rfl, by kernel_rfl⟩
  | 55, j, h => ⟨Go.Proofs.Try.f55, Go.Proofs.Try.func55, by kernel_rfl, by kernel_rfl⟩
  | 56, j, h => ⟨Go.Proofs.Try.f56, Go.Proofs.Try.func56, by kernel_rfl, by kernel_rfl⟩
  | 57, j, h => ⟨Go.Proofs.Try.f57, Go.Proofs.Try.func57, by kernel_rfl, by kernel_rfl⟩
  | 58, j, h => ⟨Go.Proofs.Try.f58, Go.Proofs.Try.func58, by kernel_rfl, by kernel_rfl⟩
  | 59, j, h => absurd h (by intro h; cases h)
  | 60, j, h => absurd h (by intro h; cases h)
  | 61, j, h => absurd h (by intro h; cases h)
  | 62, j, h => absurd h (by intro h; cases h)
  | 63, j, h => absurd h (by intro h; cases h)
  | 64, j, h => absurd h (by intro h; cases h)
  | 65, j, h => absurd h (by intro h; cases h)
  | 66, j, h => absurd h (by intro h; cases h)
  | 67, j, h => absurd h (by intro h; cases h)
  | 68, j, h => absurd h (by intro h; cases h)
  | 69, j, h => absurd h (by intro h; cases h)
  | 70, j, h => absurd h (by intro h; cases h)
  | 71, j, h => absurd h (by intro h; cases h)
  | 72, j, h => absurd h (by intro h; cases h)
  | 73, j, h => absurd h (by intro h; cases h)
  | 74, j, h => absurd h (by intro h; cases h)
  | 75, j, h => absurd h (by intro h; cases h)
  | g + 76, j, h => absurd h (by intro h; cases h)
theorem all : HasAll Go.Proofs.Try.prog inv := ⟨⟨by kernel_rfl, calls⟩, fun j F hc g hg => has g j F hg hc⟩
end
end Go.Eng.Try
