/-
  THE SEAT: its functions have the codes that the engine walks.
-/
import Derived.Test.YtokllheinelgjaaChecked
import Derived.Test.YtokllheinelgjaaK5
namespace Go.Eng.Try
def tab : List Nat := [0, 0, 0, 58, 60, 61, 62, 63, 64, 65, 69, 72, 9, 12, 13, 10, 70, 76, 74, 75, 77, 68, 78, 66, 71, 79, 67, 35, 36, 37, 38, 39, 40, 41, 32, 33, 34, 80, 73, 86, 87, 88, 89, 90, 91, 81, 82, 92, 93, 83, 84, 85, 94, 97, 98, 99, 100, 101, 102, 103, 104, 105, 106, 107, 108, 109, 95, 110, 96, 111, 112, 113, 114, 115, 116, 117, 118, 119, 120, 121, 122, 128, 129, 130, 131, 17, 27, 123, 124, 125, 126, 127, 139, 140, 136, 141, 42, 43, 51, 47, 132, 133, 134, 135, 137, 138, 52, 53, 54, 142, 143, 144, 145, 146, 56, 0, 0, 0, 0, 0, 0, 0, 0, 0, 0, 0, 0, 0, 0, 0, 0, 0]
def inv (g : Nat) : Option Nat := match tab[g]? with | some (k + 1) => some k | _ => none
section
set_option maxRecDepth 100000
theorem e6 : ziU Go.Proofs.Try.prog inv Go.Proofs.Try.f6 = some cd61 := by kernel_rfl
theorem e10 : ziU Go.Proofs.Try.prog inv Go.Proofs.Try.f10 = some cd68 := by kernel_rfl
theorem e11 : ziU Go.Proofs.Try.prog inv Go.Proofs.Try.f11 = some cd71 := by kernel_rfl
theorem e15 : ziU Go.Proofs.Try.prog inv Go.Proofs.Try.f15 = some cd9 := by kernel_rfl
theorem e16 : ziU Go.Proofs.Try.prog inv Go.Proofs.Try.f16 = some cd69 := by kernel_rfl
theorem e20 : ziU Go.Proofs.Try.prog inv Go.Proofs.Try.f20 = some cd76 := by kernel_rfl
theorem e21 : ziU Go.Proofs.Try.prog inv Go.Proofs.Try.f21 = some cd67 := by kernel_rfl
theorem e22 : ziU Go.Proofs.Try.prog inv Go.Proofs.Try.f22 = some cd77 := by kernel_rfl
theorem e23 : ziU Go.Proofs.Try.prog inv Go.Proofs.Try.f23 = some cd65 := by kernel_rfl
theorem e24 : ziU Go.Proofs.Try.prog inv Go.Proofs.Try.f24 = some cd70 := by kernel_rfl
theorem e26 : ziU Go.Proofs.Try.prog inv Go.Proofs.Try.f26 = some cd66 := by kernel_rfl
theorem e34 : ziU Go.Proofs.Try.prog inv Go.Proofs.Try.f34 = some cd31 := by kernel_rfl
theorem e35 : ziU Go.Proofs.Try.prog inv Go.Proofs.Try.f35 = some cd32 := by kernel_rfl
theorem e36 : ziU Go.Proofs.Try.prog inv Go.Proofs.Try.f36 = some cd33 := by kernel_rfl
theorem e37 : ziU Go.Proofs.Try.prog inv Go.Proofs.Try.f37 = some cd79 := by kernel_rfl
theorem e43 : ziU Go.Proofs.Try.prog inv Go.Proofs.Try.f43 = some cd89 := by kernel_rfl
theorem e44 : ziU Go.Proofs.Try.prog inv Go.Proofs.Try.f44 = some cd90 := by kernel_rfl
theorem e45 : ziU Go.Proofs.Try.prog inv Go.Proofs.Try.f45 = some cd80 := by kernel_rfl
theorem e46 : ziU Go.Proofs.Try.prog inv Go.Proofs.Try.f46 = some cd81 := by kernel_rfl
theorem e47 : ziU Go.Proofs.Try.prog inv Go.Proofs.Try.f47 = some cd91 := by kernel_rfl
theorem e48 : ziU Go.Proofs.Try.prog inv Go.Proofs.Try.f48 = some cd92 := by kernel_rfl
theorem e49 : ziU Go.Proofs.Try.prog inv Go.Proofs.Try.f49 = some cd82 := by kernel_rfl
theorem e50 : ziU Go.Proofs.Try.prog inv Go.Proofs.Try.f50 = some cd83 := by kernel_rfl
theorem e51 : ziU Go.Proofs.Try.prog inv Go.Proofs.Try.f51 = some cd84 := by kernel_rfl
theorem e52 : ziU Go.Proofs.Try.prog inv Go.Proofs.Try.f52 = some cd93 := by kernel_rfl
theorem e55 : ziU Go.Proofs.Try.prog inv Go.Proofs.Try.f55 = some cd98 := by kernel_rfl
theorem e56 : ziU Go.Proofs.Try.prog inv Go.Proofs.Try.f56 = some cd99 := by kernel_rfl
theorem e57 : ziU Go.Proofs.Try.prog inv Go.Proofs.Try.f57 = some cd100 := by kernel_rfl
theorem e58 : ziU Go.Proofs.Try.prog inv Go.Proofs.Try.f58 = some cd101 := by kernel_rfl
theorem e59 : ziU Go.Proofs.Try.prog inv Go.Proofs.Try.f59 = some cd102 := by kernel_rfl
theorem e60 : ziU Go.Proofs.Try.prog inv Go.Proofs.Try.f60 = some cd103 := by kernel_rfl
theorem e61 : ziU Go.Proofs.Try.prog inv Go.Proofs.Try.f61 = some cd104 := by kernel_rfl
theorem e62 : ziU Go.Proofs.Try.prog inv Go.Proofs.Try.f62 = some cd105 := by kernel_rfl
theorem e63 : ziU Go.Proofs.Try.prog inv Go.Proofs.Try.f63 = some cd106 := by kernel_rfl
theorem e64 : ziU Go.Proofs.Try.prog inv Go.Proofs.Try.f64 = some cd107 := by kernel_rfl
theorem e65 : ziU Go.Proofs.Try.prog inv Go.Proofs.Try.f65 = some cd108 := by kernel_rfl
theorem e66 : ziU Go.Proofs.Try.prog inv Go.Proofs.Try.f66 = some cd94 := by kernel_rfl
theorem e67 : ziU Go.Proofs.Try.prog inv Go.Proofs.Try.f67 = some cd109 := by kernel_rfl
theorem e68 : ziU Go.Proofs.Try.prog inv Go.Proofs.Try.f68 = some cd95 := by kernel_rfl
theorem e69 : ziU Go.Proofs.Try.prog inv Go.Proofs.Try.f69 = some cd110 := by kernel_rfl
theorem e70 : ziU Go.Proofs.Try.prog inv Go.Proofs.Try.f70 = some cd111 := by kernel_rfl
theorem e71 : ziU Go.Proofs.Try.prog inv Go.Proofs.Try.f71 = some cd112 := by kernel_rfl
theorem e72 : ziU Go.Proofs.Try.prog inv Go.Proofs.Try.f72 = some cd113 := by kernel_rfl
theorem e73 : ziU Go.Proofs.Try.prog inv Go.Proofs.Try.f73 = some cd114 := by kernel_rfl
theorem e74 : ziU Go.Proofs.Try.prog inv Go.Proofs.Try.f74 = some cd115 := by kernel_rfl
theorem e75 : ziU Go.Proofs.Try.prog inv Go.Proofs.Try.f75 = some cd116 := by kernel_rfl
theorem e76 : ziU Go.Proofs.Try.prog inv Go.Proofs.Try.f76 = some cd117 := by kernel_rfl
theorem e77 : ziU Go.Proofs.Try.prog inv Go.Proofs.Try.f77 = some cd118 := by kernel_rfl
theorem e78 : ziU Go.Proofs.Try.prog inv Go.Proofs.Try.f78 = some cd119 := by kernel_rfl
theorem e79 : ziU Go.Proofs.Try.prog inv Go.Proofs.Try.f79 = some cd120 := by kernel_rfl
theorem e80 : ziU Go.Proofs.Try.prog inv Go.Proofs.Try.f80 = some cd121 := by kernel_rfl
theorem e81 : ziU Go.Proofs.Try.prog inv Go.Proofs.Try.f81 = some cd127 := by kernel_rfl
theorem e82 : ziU Go.Proofs.Try.prog inv Go.Proofs.Try.f82 = some cd128 := by kernel_rfl
theorem e83 : ziU Go.Proofs.Try.prog inv Go.Proofs.Try.f83 = some cd129 := by kernel_rfl
theorem e84 : ziU Go.Proofs.Try.prog inv Go.Proofs.Try.f84 = some cd130 := by kernel_rfl
theorem e85 : ziU Go.Proofs.Try.prog inv Go.Proofs.Try.f85 = some cd16 := by kernel_rfl
theorem e86 : ziU Go.Proofs.Try.prog inv Go.Proofs.Try.f86 = some cd26 := by kernel_rfl
theorem e87 : ziU Go.Proofs.Try.prog inv Go.Proofs.Try.f87 = some cd122 := by kernel_rfl
theorem e88 : ziU Go.Proofs.Try.prog inv Go.Proofs.Try.f88 = some cd123 := by kernel_rfl
theorem e89 : ziU Go.Proofs.Try.prog inv Go.Proofs.Try.f89 = some cd124 := by kernel_rfl
theorem e90 : ziU Go.Proofs.Try.prog inv Go.Proofs.Try.f90 = some cd125 := by kernel_rfl
theorem e91 : ziU Go.Proofs.Try.prog inv Go.Proofs.Try.f91 = some cd126 := by kernel_rfl
theorem e92 : ziU Go.Proofs.Try.prog inv Go.Proofs.Try.f92 = some cd138 := by kernel_rfl
theorem e93 : ziU Go.Proofs.Try.prog inv Go.Proofs.Try.f93 = some cd139 := by kernel_rfl
theorem e94 : ziU Go.Proofs.Try.prog inv Go.Proofs.Try.f94 = some cd135 := by kernel_rfl
theorem e95 : ziU Go.Proofs.Try.prog inv Go.Proofs.Try.f95 = some cd140 := by kernel_rfl
theorem e96 : ziU Go.Proofs.Try.prog inv Go.Proofs.Try.f96 = some cd41 := by kernel_rfl
theorem e97 : ziU Go.Proofs.Try.prog inv Go.Proofs.Try.f97 = some cd42 := by kernel_rfl
theorem e98 : ziU Go.Proofs.Try.prog inv Go.Proofs.Try.f98 = some cd50 := by kernel_rfl
theorem e99 : ziU Go.Proofs.Try.prog inv Go.Proofs.Try.f99 = some cd46 := by kernel_rfl
theorem e100 : ziU Go.Proofs.Try.prog inv Go.Proofs.Try.f100 = some cd131 := by kernel_rfl
theorem e101 : ziU Go.Proofs.Try.prog inv Go.Proofs.Try.f101 = some cd132 := by kernel_rfl
theorem e102 : ziU Go.Proofs.Try.prog inv Go.Proofs.Try.f102 = some cd133 := by kernel_rfl
theorem e103 : ziU Go.Proofs.Try.prog inv Go.Proofs.Try.f103 = some cd134 := by kernel_rfl
theorem e104 : ziU Go.Proofs.Try.prog inv Go.Proofs.Try.f104 = some cd136 := by kernel_rfl
theorem e105 : ziU Go.Proofs.Try.prog inv Go.Proofs.Try.f105 = some cd137 := by kernel_rfl
theorem e106 : ziU Go.Proofs.Try.prog inv Go.Proofs.Try.f106 = some cd51 := by kernel_rfl
theorem e107 : ziU Go.Proofs.Try.prog inv Go.Proofs.Try.f107 = some cd52 := by kernel_rfl
theorem e108 : ziU Go.Proofs.Try.prog inv Go.Proofs.Try.f108 = some cd53 := by kernel_rfl
theorem e109 : ziU Go.Proofs.Try.prog inv Go.Proofs.Try.f109 = some cd141 := by kernel_rfl
theorem e110 : ziU Go.Proofs.Try.prog inv Go.Proofs.Try.f110 = some cd142 := by kernel_rfl
theorem e111 : ziU Go.Proofs.Try.prog inv Go.Proofs.Try.f111 = some cd143 := by kernel_rfl
theorem e112 : ziU Go.Proofs.Try.prog inv Go.Proofs.Try.f112 = some cd144 := by kernel_rfl
theorem e113 : ziU Go.Proofs.Try.prog inv Go.Proofs.Try.f113 = some cd145 := by kernel_rfl
theorem e114 : ziU Go.Proofs.Try.prog inv Go.Proofs.Try.f114 = some cd55 := by kernel_rfl
theorem has : ∀ (g j : Nat) (F : AFn), inv g = some j → code j = some F → ∃ fn, Go.Proofs.Try.prog.funcs[g]? = some fn ∧ ziU Go.Proofs.Try.prog inv fn = some F
  | 0, j, F, h, hc => absurd h (by intro h; cases h)
  | 1, j, F, h, hc => absurd h (by intro h; cases h)
  | 2, j, F, h, hc => absurd h (by intro h; cases h)
  | 3, j, F, h, hc => by
    obtain rfl : 57 = j := Option.some.inj h
    exact absurd hc (by intro h; cases h)
  | 4, j, F, h, hc => by
    obtain rfl : 59 = j := Option.some.inj h
    exact absurd hc (by intro h; cases h)
  | 5, j, F, h, hc => by
    obtain rfl : 60 = j := Option.some.inj h
    exact absurd hc (by intro h; cases h)
  | 6, j, F, h, hc => by
    obtain rfl : 61 = j := Option.some.inj h
    obtain rfl : cd61 = F := Option.some.inj hc
    exact ⟨Go.Proofs.Try.f6, Go.Proofs.Try.func6, e6⟩
  | 7, j, F, h, hc => by
    obtain rfl : 62 = j := Option.some.inj h
    exact absurd hc (by intro h; cases h)
  | 8, j, F, h, hc => by
    obtain rfl : 63 = j := Option.some.inj h
    exact absurd hc (by intro h; cases h)
  | 9, j, F, h, hc => by
    obtain rfl : 64 = j := Option.some.inj h
    exact absurd hc (by intro h; cases h)
  | 10, j, F, h, hc => by
    obtain rfl : 68 = j := Option.some.inj h
    obtain rfl : cd68 = F := Option.some.inj hc
    exact ⟨Go.Proofs.Try.f10, Go.Proofs.Try.func10, e10⟩
  | 11, j, F, h, hc => by
    obtain rfl : 71 = j := Option.some.inj h
    obtain rfl : cd71 = F := Option.some.inj hc
    exact ⟨Go.Proofs.Try.f11, Go.Proofs.Try.func11, e11⟩
  | 12, j, F, h, hc => by
    obtain rfl : 8 = j := Option.some.inj h
    exact absurd hc (by intro h; cases h)
  | 13, j, F, h, hc => by
    obtain rfl : 11 = j := Option.some.inj h
    exact absurd hc (by intro h; cases h)
  | 14, j, F, h, hc => by
    obtain rfl : 12 = j := Option.some.inj h
    exact absurd hc (by intro h; cases h)
  | 15, j, F, h, hc => by
    obtain rfl : 9 = j := Option.some.inj h
    obtain rfl : cd9 = F := Option.some.inj hc
    exact ⟨Go.Proofs.Try.f15, Go.Proofs.Try.func15, e15⟩
  | 16, j, F, h, hc => by
    obtain rfl : 69 = j := Option.some.inj h
    obtain rfl : cd69 = F := Option.some.inj hc
    exact ⟨Go.Proofs.Try.f16, Go.Proofs.Try.func16, e16⟩
  | 17, j, F, h, hc => by
    obtain rfl : 75 = j := Option.some.inj h
    exact absurd hc (by intro h; cases h)
  | 18, j, F, h, hc => by
    obtain rfl : 73 = j := Option.some.inj h
    exact absurd hc (by intro h; cases h)
  | 19, j, F, h, hc => by
    obtain rfl : 74 = j := Option.some.inj h
    exact absurd hc (by intro h; cases h)
  | 20, j, F, h, hc => by
    obtain rfl : 76 = j := Option.some.inj h
    obtain rfl : cd76 = F := Option.some.inj hc
    exact ⟨Go.Proofs.Try.f20, Go.Proofs.Try.func20, e20⟩
  | 21, j, F, h, hc => by
    obtain rfl : 67 = j := Option.some.inj h
    obtain rfl : cd67 = F := Option.some.inj hc
    exact ⟨Go.Proofs.Try.f21, Go.Proofs.Try.func21, e21⟩
  | 22, j, F, h, hc => by
    obtain rfl : 77 = j := Option.some.inj h
    obtain rfl : cd77 = F := Option.some.inj hc
    exact ⟨Go.Proofs.Try.f22, Go.Proofs.Try.func22, e22⟩
  | 23, j, F, h, hc => by
    obtain rfl : 65 = j := Option.some.inj h
    obtain rfl : cd65 = F := Option.some.inj hc
    exact ⟨Go.Proofs.Try.f23, Go.Proofs.Try.func23, e23⟩
  | 24, j, F, h, hc => by
    obtain rfl : 70 = j := Option.some.inj h
    obtain rfl : cd70 = F := Option.some.inj hc
    exact ⟨Go.Proofs.Try.f24, Go.Proofs.Try.func24, e24⟩
  | 25, j, F, h, hc => by
    obtain rfl : 78 = j := Option.some.inj h
    exact absurd hc (by intro h; cases h)
  | 26, j, F, h, hc => by
    obtain rfl : 66 = j := Option.some.inj h
    obtain rfl : cd66 = F := Option.some.inj hc
    exact ⟨Go.Proofs.Try.f26, Go.Proofs.Try.func26, e26⟩
  | 27, j, F, h, hc => by
    obtain rfl : 34 = j := Option.some.inj h
    exact absurd hc (by intro h; cases h)
  | 28, j, F, h, hc => by
    obtain rfl : 35 = j := Option.some.inj h
    exact absurd hc (by intro h; cases h)
  | 29, j, F, h, hc => by
    obtain rfl : 36 = j := Option.some.inj h
    exact absurd hc (by intro h; cases h)
  | 30, j, F, h, hc => by
    obtain rfl : 37 = j := Option.some.inj h
    exact absurd hc (by intro h; cases h)
  | 31, j, F, h, hc => by
    obtain rfl : 38 = j := Option.some.inj h
    exact absurd hc (by intro h; cases h)
  | 32, j, F, h, hc => by
    obtain rfl : 39 = j := Option.some.inj h
    exact absurd hc (by intro h; cases h)
  | 33, j, F, h, hc => by
    obtain rfl : 40 = j := Option.some.inj h
    exact absurd hc (by intro h; cases h)
  | 34, j, F, h, hc => by
    obtain rfl : 31 = j := Option.some.inj h
    obtain rfl : cd31 = F := Option.some.inj hc
    exact ⟨Go.Proofs.Try.f34, Go.Proofs.Try.func34, e34⟩
  | 35, j, F, h, hc => by
    obtain rfl : 32 = j := Option.some.inj h
    obtain rfl : cd32 = F := Option.some.inj hc
    exact ⟨Go.Proofs.Try.f35, Go.Proofs.Try.func35, e35⟩
  | 36, j, F, h, hc => by
    obtain rfl : 33 = j := Option.some.inj h
    obtain rfl : cd33 = F := Option.some.inj hc
    exact ⟨Go.Proofs.Try.f36, Go.Proofs.Try.func36, e36⟩
  | 37, j, F, h, hc => by
    obtain rfl : 79 = j := Option.some.inj h
    obtain rfl : cd79 = F := Option.some.inj hc
    exact ⟨Go.Proofs.Try.f37, Go.Proofs.Try.func37, e37⟩
  | 38, j, F, h, hc => by
    obtain rfl : 72 = j := Option.some.inj h
    exact absurd hc (by intro h; cases h)
  | 39, j, F, h, hc => by
    obtain rfl : 85 = j := Option.some.inj h
    exact absurd hc (by intro h; cases h)
  | 40, j, F, h, hc => by
    obtain rfl : 86 = j := Option.some.inj h
    exact absurd hc (by intro h; cases h)
  | 41, j, F, h, hc => by
    obtain rfl : 87 = j := Option.some.inj h
    exact absurd hc (by intro h; cases h)
  | 42, j, F, h, hc => by
    obtain rfl : 88 = j := Option.some.inj h
    exact absurd hc (by intro h; cases h)
  | 43, j, F, h, hc => by
    obtain rfl : 89 = j := Option.some.inj h
    obtain rfl : cd89 = F := Option.some.inj hc
    exact ⟨Go.Proofs.Try.f43, Go.Proofs.Try.func43, e43⟩
  | 44, j, F, h, hc => by
    obtain rfl : 90 = j := Option.some.inj h
    obtain rfl : cd90 = F := Option.some.inj hc
    exact ⟨Go.Proofs.Try.f44, Go.Proofs.Try.func44, e44⟩
  | 45, j, F, h, hc => by
    obtain rfl : 80 = j := Option.some.inj h
    obtain rfl : cd80 = F := Option.some.inj hc
    exact ⟨Go.Proofs.Try.f45, Go.Proofs.Try.func45, e45⟩
  | 46, j, F, h, hc => by
    obtain rfl : 81 = j := Option.some.inj h
    obtain rfl : cd81 = F := Option.some.inj hc
    exact ⟨Go.Proofs.Try.f46, Go.Proofs.Try.func46, e46⟩
  | 47, j, F, h, hc => by
    obtain rfl : 91 = j := Option.some.inj h
    obtain rfl : cd91 = F := Option.some.inj hc
    exact ⟨Go.Proofs.Try.f47, Go.Proofs.Try.func47, e47⟩
  | 48, j, F, h, hc => by
    obtain rfl : 92 = j := Option.some.inj h
    obtain rfl : cd92 = F := Option.some.inj hc
    exact ⟨Go.Proofs.Try.f48, Go.Proofs.Try.func48, e48⟩
  | 49, j, F, h, hc => by
    obtain rfl : 82 = j := Option.some.inj h
    obtain rfl : cd82 = F := Option.some.inj hc
    exact ⟨Go.Proofs.Try.f49, Go.Proofs.Try.func49, e49⟩
  | 50, j, F, h, hc => by
    obtain rfl : 83 = j := Option.some.inj h
    obtain rfl : cd83 = F := Option.some.inj hc
    exact ⟨Go.Proofs.Try.f50, Go.Proofs.Try.func50, e50⟩
  | 51, j, F, h, hc => by
    obtain rfl : 84 = j := Option.some.inj h
    obtain rfl : cd84 = F := Option.some.inj hc
    exact ⟨Go.Proofs.Try.f51, Go.Proofs.Try.func51, e51⟩
  | 52, j, F, h, hc => by
    obtain rfl : 93 = j := Option.some.inj h
    obtain rfl : cd93 = F := Option.some.inj hc
    exact ⟨Go.Proofs.Try.f52, Go.Proofs.Try.func52, e52⟩
  | 53, j, F, h, hc => by
    obtain rfl : 96 = j := Option.some.inj h
    exact absurd hc (by intro h; cases h)
  | 54, j, F, h, hc => by
    obtain rfl : 97 = j := Option.some.inj h
    exact absurd hc (by intro h; cases h)
  | 55, j, F, h, hc => by
    obtain rfl : 98 = j := Option.some.inj h
    obtain rfl : cd98 = F := Option.some.inj hc
    exact ⟨Go.Proofs.Try.f55, Go.Proofs.Try.func55, e55⟩
  | 56, j, F, h, hc => by
    obtain rfl : 99 = j := Option.some.inj h
    obtain rfl : cd99 = F := Option.some.inj hc
    exact ⟨Go.Proofs.Try.f56, Go.Proofs.Try.func56, e56⟩
  | 57, j, F, h, hc => by
    obtain rfl : 100 = j := Option.some.inj h
    obtain rfl : cd100 = F := Option.some.inj hc
    exact ⟨Go.Proofs.Try.f57, Go.Proofs.Try.func57, e57⟩
  | 58, j, F, h, hc => by
    obtain rfl : 101 = j := Option.some.inj h
    obtain rfl : cd101 = F := Option.some.inj hc
    exact ⟨Go.Proofs.Try.f58, Go.Proofs.Try.func58, e58⟩
  | 59, j, F, h, hc => by
    obtain rfl : 102 = j := Option.some.inj h
    obtain rfl : cd102 = F := Option.some.inj hc
    exact ⟨Go.Proofs.Try.f59, Go.Proofs.Try.func59, e59⟩
  | 60, j, F, h, hc => by
    obtain rfl : 103 = j := Option.some.inj h
    obtain rfl : cd103 = F := Option.some.inj hc
    exact ⟨Go.Proofs.Try.f60, Go.Proofs.Try.func60, e60⟩
  | 61, j, F, h, hc => by
    obtain rfl : 104 = j := Option.some.inj h
    obtain rfl : cd104 = F := Option.some.inj hc
    exact ⟨Go.Proofs.Try.f61, Go.Proofs.Try.func61, e61⟩
  | 62, j, F, h, hc => by
    obtain rfl : 105 = j := Option.some.inj h
    obtain rfl : cd105 = F := Option.some.inj hc
    exact ⟨Go.Proofs.Try.f62, Go.Proofs.Try.func62, e62⟩
  | 63, j, F, h, hc => by
    obtain rfl : 106 = j := Option.some.inj h
    obtain rfl : cd106 = F := Option.some.inj hc
    exact ⟨Go.Proofs.Try.f63, Go.Proofs.Try.func63, e63⟩
  | 64, j, F, h, hc => by
    obtain rfl : 107 = j := Option.some.inj h
    obtain rfl : cd107 = F := Option.some.inj hc
    exact ⟨Go.Proofs.Try.f64, Go.Proofs.Try.func64, e64⟩
  | 65, j, F, h, hc => by
    obtain rfl : 108 = j := Option.some.inj h
    obtain rfl : cd108 = F := Option.some.inj hc
    exact ⟨Go.Proofs.Try.f65, Go.Proofs.Try.func65, e65⟩
  | 66, j, F, h, hc => by
    obtain rfl : 94 = j := Option.some.inj h
    obtain rfl : cd94 = F := Option.some.inj hc
    exact ⟨Go.Proofs.Try.f66, Go.Proofs.Try.func66, e66⟩
  | 67, j, F, h, hc => by
    obtain rfl : 109 = j := Option.some.inj h
    obtain rfl : cd109 = F := Option.some.inj hc
    exact ⟨Go.Proofs.Try.f67, Go.Proofs.Try.func67, e67⟩
  | 68, j, F, h, hc => by
    obtain rfl : 95 = j := Option.some.inj h
    obtain rfl : cd95 = F := Option.some.inj hc
    exact ⟨Go.Proofs.Try.f68, Go.Proofs.Try.func68, e68⟩
  | 69, j, F, h, hc => by
    obtain rfl : 110 = j := Option.some.inj h
    obtain rfl : cd110 = F := Option.some.inj hc
    exact ⟨Go.Proofs.Try.f69, Go.Proofs.Try.func69, e69⟩
  | 70, j, F, h, hc => by
    obtain rfl : 111 = j := Option.some.inj h
    obtain rfl : cd111 = F := Option.some.inj hc
    exact ⟨Go.Proofs.Try.f70, Go.Proofs.Try.func70, e70⟩
  | 71, j, F, h, hc => by
    obtain rfl : 112 = j := Option.some.inj h
    obtain rfl : cd112 = F := Option.some.inj hc
    exact ⟨Go.Proofs.Try.f71, Go.Proofs.Try.func71, e71⟩
  | 72, j, F, h, hc => by
    obtain rfl : 113 = j := Option.some.inj h
    obtain rfl : cd113 = F := Option.some.inj hc
    exact ⟨Go.Proofs.Try.f72, Go.Proofs.Try.func72, e72⟩
  | 73, j, F, h, hc => by
    obtain rfl : 114 = j := Option.some.inj h
    obtain rfl : cd114 = F := Option.some.inj hc
    exact ⟨Go.Proofs.Try.f73, Go.Proofs.Try.func73, e73⟩
  | 74, j, F, h, hc => by
    obtain rfl : 115 = j := Option.some.inj h
    obtain rfl : cd115 = F := Option.some.inj hc
    exact ⟨Go.Proofs.Try.f74, Go.Proofs.Try.func74, e74⟩
  | 75, j, F, h, hc => by
    obtain rfl : 116 = j := Option.some.inj h
    obtain rfl : cd116 = F := Option.some.inj hc
    exact ⟨Go.Proofs.Try.f75, Go.Proofs.Try.func75, e75⟩
  | 76, j, F, h, hc => by
    obtain rfl : 117 = j := Option.some.inj h
    obtain rfl : cd117 = F := Option.some.inj hc
    exact ⟨Go.Proofs.Try.f76, Go.Proofs.Try.func76, e76⟩
  | 77, j, F, h, hc => by
    obtain rfl : 118 = j := Option.some.inj h
    obtain rfl : cd118 = F := Option.some.inj hc
    exact ⟨Go.Proofs.Try.f77, Go.Proofs.Try.func77, e77⟩
  | 78, j, F, h, hc => by
    obtain rfl : 119 = j := Option.some.inj h
    obtain rfl : cd119 = F := Option.some.inj hc
    exact ⟨Go.Proofs.Try.f78, Go.Proofs.Try.func78, e78⟩
  | 79, j, F, h, hc => by
    obtain rfl : 120 = j := Option.some.inj h
    obtain rfl : cd120 = F := Option.some.inj hc
    exact ⟨Go.Proofs.Try.f79, Go.Proofs.Try.func79, e79⟩
  | 80, j, F, h, hc => by
    obtain rfl : 121 = j := Option.some.inj h
    obtain rfl : cd121 = F := Option.some.inj hc
    exact ⟨Go.Proofs.Try.f80, Go.Proofs.Try.func80, e80⟩
  | 81, j, F, h, hc => by
    obtain rfl : 127 = j := Option.some.inj h
    obtain rfl : cd127 = F := Option.some.inj hc
    exact ⟨Go.Proofs.Try.f81, Go.Proofs.Try.func81, e81⟩
  | 82, j, F, h, hc => by
    obtain rfl : 128 = j := Option.some.inj h
    obtain rfl : cd128 = F := Option.some.inj hc
    exact ⟨Go.Proofs.Try.f82, Go.Proofs.Try.func82, e82⟩
  | 83, j, F, h, hc => by
    obtain rfl : 129 = j := Option.some.inj h
    obtain rfl : cd129 = F := Option.some.inj hc
    exact ⟨Go.Proofs.Try.f83, Go.Proofs.Try.func83, e83⟩
  | 84, j, F, h, hc => by
    obtain rfl : 130 = j := Option.some.inj h
    obtain rfl : cd130 = F := Option.some.inj hc
    exact ⟨Go.Proofs.Try.f84, Go.Proofs.Try.func84, e84⟩
  | 85, j, F, h, hc => by
    obtain rfl : 16 = j := Option.some.inj h
    obtain rfl : cd16 = F := Option.some.inj hc
    exact ⟨Go.Proofs.Try.f85, Go.Proofs.Try.func85, e85⟩
  | 86, j, F, h, hc => by
    obtain rfl : 26 = j := Option.some.inj h
    obtain rfl : cd26 = F := Option.some.inj hc
    exact ⟨Go.Proofs.Try.f86, Go.Proofs.Try.func86, e86⟩
  | 87, j, F, h, hc => by
    obtain rfl : 122 = j := Option.some.inj h
    obtain rfl : cd122 = F := Option.some.inj hc
    exact ⟨Go.Proofs.Try.f87, Go.Proofs.Try.func87, e87⟩
  | 88, j, F, h, hc => by
    obtain rfl : 123 = j := Option.some.inj h
    obtain rfl : cd123 = F := Option.some.inj hc
    exact ⟨Go.Proofs.Try.f88, Go.Proofs.Try.func88, e88⟩
  | 89, j, F, h, hc => by
    obtain rfl : 124 = j := Option.some.inj h
    obtain rfl : cd124 = F := Option.some.inj hc
    exact ⟨Go.Proofs.Try.f89, Go.Proofs.Try.func89, e89⟩
  | 90, j, F, h, hc => by
    obtain rfl : 125 = j := Option.some.inj h
    obtain rfl : cd125 = F := Option.some.inj hc
    exact ⟨Go.Proofs.Try.f90, Go.Proofs.Try.func90, e90⟩
  | 91, j, F, h, hc => by
    obtain rfl : 126 = j := Option.some.inj h
    obtain rfl : cd126 = F := Option.some.inj hc
    exact ⟨Go.Proofs.Try.f91, Go.Proofs.Try.func91, e91⟩
  | 92, j, F, h, hc => by
    obtain rfl : 138 = j := Option.some.inj h
    obtain rfl : cd138 = F := Option.some.inj hc
    exact ⟨Go.Proofs.Try.f92, Go.Proofs.Try.func92, e92⟩
  | 93, j, F, h, hc => by
    obtain rfl : 139 = j := Option.some.inj h
    obtain rfl : cd139 = F := Option.some.inj hc
    exact ⟨Go.Proofs.Try.f93, Go.Proofs.Try.func93, e93⟩
  | 94, j, F, h, hc => by
    obtain rfl : 135 = j := Option.some.inj h
    obtain rfl : cd135 = F := Option.some.inj hc
    exact ⟨Go.Proofs.Try.f94, Go.Proofs.Try.func94, e94⟩
  | 95, j, F, h, hc => by
    obtain rfl : 140 = j := Option.some.inj h
    obtain rfl : cd140 = F := Option.some.inj hc
    exact ⟨Go.Proofs.Try.f95, Go.Proofs.Try.func95, e95⟩
  | 96, j, F, h, hc => by
    obtain rfl : 41 = j := Option.some.inj h
    obtain rfl : cd41 = F := Option.some.inj hc
    exact ⟨Go.Proofs.Try.f96, Go.Proofs.Try.func96, e96⟩
  | 97, j, F, h, hc => by
    obtain rfl : 42 = j := Option.some.inj h
    obtain rfl : cd42 = F := Option.some.inj hc
    exact ⟨Go.Proofs.Try.f97, Go.Proofs.Try.func97, e97⟩
  | 98, j, F, h, hc => by
    obtain rfl : 50 = j := Option.some.inj h
    obtain rfl : cd50 = F := Option.some.inj hc
    exact ⟨Go.Proofs.Try.f98, Go.Proofs.Try.func98, e98⟩
  | 99, j, F, h, hc => by
    obtain rfl : 46 = j := Option.some.inj h
    obtain rfl : cd46 = F := Option.some.inj hc
    exact ⟨Go.Proofs.Try.f99, Go.Proofs.Try.func99, e99⟩
  | 100, j, F, h, hc => by
    obtain rfl : 131 = j := Option.some.inj h
    obtain rfl : cd131 = F := Option.some.inj hc
    exact ⟨Go.Proofs.Try.f100, Go.Proofs.Try.func100, e100⟩
  | 101, j, F, h, hc => by
    obtain rfl : 132 = j := Option.some.inj h
    obtain rfl : cd132 = F := Option.some.inj hc
    exact ⟨Go.Proofs.Try.f101, Go.Proofs.Try.func101, e101⟩
  | 102, j, F, h, hc => by
    obtain rfl : 133 = j := Option.some.inj h
    obtain rfl : cd133 = F := Option.some.inj hc
    exact ⟨Go.Proofs.Try.f102, Go.Proofs.Try.func102, e102⟩
  | 103, j, F, h, hc => by
    obtain rfl : 134 = j := Option.some.inj h
    obtain rfl : cd134 = F := Option.some.inj hc
    exact ⟨Go.Proofs.Try.f103, Go.Proofs.Try.func103, e103⟩
  | 104, j, F, h, hc => by
    obtain rfl : 136 = j := Option.some.inj h
    obtain rfl : cd136 = F := Option.some.inj hc
    exact ⟨Go.Proofs.Try.f104, Go.Proofs.Try.func104, e104⟩
  | 105, j, F, h, hc => by
    obtain rfl : 137 = j := Option.some.inj h
    obtain rfl : cd137 = F := Option.some.inj hc
    exact ⟨Go.Proofs.Try.f105, Go.Proofs.Try.func105, e105⟩
  | 106, j, F, h, hc => by
    obtain rfl : 51 = j := Option.some.inj h
    obtain rfl : cd51 = F := Option.some.inj hc
    exact ⟨Go.Proofs.Try.f106, Go.Proofs.Try.func106, e106⟩
  | 107, j, F, h, hc => by
    obtain rfl : 52 = j := Option.some.inj h
    obtain rfl : cd52 = F := Option.some.inj hc
    exact ⟨Go.Proofs.Try.f107, Go.Proofs.Try.func107, e107⟩
  | 108, j, F, h, hc => by
    obtain rfl : 53 = j := Option.some.inj h
    obtain rfl : cd53 = F := Option.some.inj hc
    exact ⟨Go.Proofs.Try.f108, Go.Proofs.Try.func108, e108⟩
  | 109, j, F, h, hc => by
    obtain rfl : 141 = j := Option.some.inj h
    obtain rfl : cd141 = F := Option.some.inj hc
    exact ⟨Go.Proofs.Try.f109, Go.Proofs.Try.func109, e109⟩
  | 110, j, F, h, hc => by
    obtain rfl : 142 = j := Option.some.inj h
    obtain rfl : cd142 = F := Option.some.inj hc
    exact ⟨Go.Proofs.Try.f110, Go.Proofs.Try.func110, e110⟩
  | 111, j, F, h, hc => by
    obtain rfl : 143 = j := Option.some.inj h
    obtain rfl : cd143 = F := Option.some.inj hc
    exact ⟨Go.Proofs.Try.f111, Go.Proofs.Try.func111, e111⟩
  | 112, j, F, h, hc => by
    obtain rfl : 144 = j := Option.some.inj h
    obtain rfl : cd144 = F := Option.some.inj hc
    exact ⟨Go.Proofs.Try.f112, Go.Proofs.Try.func112, e112⟩
  | 113, j, F, h, hc => by
    obtain rfl : 145 = j := Option.some.inj h
    obtain rfl : cd145 = F := Option.some.inj hc
    exact ⟨Go.Proofs.Try.f113, Go.Proofs.Try.func113, e113⟩
  | 114, j, F, h, hc => by
    obtain rfl : 55 = j := Option.some.inj h
    obtain rfl : cd55 = F := Option.some.inj hc
    exact ⟨Go.Proofs.Try.f114, Go.Proofs.Try.func114, e114⟩
  | 115, j, F, h, hc => absurd h (by intro h; cases h)
  | 116, j, F, h, hc => absurd h (by intro h; cases h)
  | 117, j, F, h, hc => absurd h (by intro h; cases h)
  | 118, j, F, h, hc => absurd h (by intro h; cases h)
  | 119, j, F, h, hc => absurd h (by intro h; cases h)
  | 120, j, F, h, hc => absurd h (by intro h; cases h)
  | 121, j, F, h, hc => absurd h (by intro h; cases h)
  | 122, j, F, h, hc => absurd h (by intro h; cases h)
  | 123, j, F, h, hc => absurd h (by intro h; cases h)
  | 124, j, F, h, hc => absurd h (by intro h; cases h)
  | 125, j, F, h, hc => absurd h (by intro h; cases h)
  | 126, j, F, h, hc => absurd h (by intro h; cases h)
  | 127, j, F, h, hc => absurd h (by intro h; cases h)
  | 128, j, F, h, hc => absurd h (by intro h; cases h)
  | 129, j, F, h, hc => absurd h (by intro h; cases h)
  | 130, j, F, h, hc => absurd h (by intro h; cases h)
  | 131, j, F, h, hc => absurd h (by intro h; cases h)
  | g + 132, j, F, h, hc => absurd h (by intro h; cases h)
theorem calls : ∀ (g j : Nat), inv g = some j → ∃ fn, Go.Proofs.Try.prog.funcs[g]? = some fn ∧ fn.body.isNone = false ∧ (fn.name == "runtime.NumGoroutine") = false
  | 0, j, h => absurd h (by intro h; cases h)
  | 1, j, h => absurd h (by intro h; cases h)
  | 2, j, h => absurd h (by intro h; cases h)
  | 3, j, h => ⟨Go.Proofs.Try.f3, Go.Proofs.Try.func3, by kernel_rfl, by kernel_rfl⟩
  | 4, j, h => ⟨Go.Proofs.Try.f4, Go.Proofs.Try.func4, by kernel_rfl, by kernel_rfl⟩
  | 5, j, h => ⟨Go.Proofs.Try.f5, Go.Proofs.Try.func5, by kernel_rfl, by kernel_rfl⟩
  | 6, j, h => ⟨Go.Proofs.Try.f6, Go.Proofs.Try.func6, by kernel_rfl, by kernel_rfl⟩
  | 7, j, h => ⟨Go.Proofs.Try.f7, Go.Proofs.Try.func7, by kernel_rfl, by kernel_rfl⟩
  | 8, j, h => ⟨Go.Proofs.Try.f8, Go.Proofs.Try.func8, by kernel_rfl, by kernel_rfl⟩
  | 9, j, h => ⟨Go.Proofs.Try.f9, Go.Proofs.Try.func9, by kernel_rfl, by kernel_rfl⟩
  | 10, j, h => ⟨Go.Proofs.Try.f10, Go.Proofs.Try.func10, by kernel_rfl, by kernel_rfl⟩
  | 11, j, h => ⟨Go.Proofs.Try.f11, Go.Proofs.Try.func11, by kernel_rfl, by kernel_rfl⟩
  | 12, j, h => ⟨Go.Proofs.Try.f12, Go.Proofs.Try.func12, by kernel_rfl, by kernel_rfl⟩
  | 13, j, h => ⟨Go.Proofs.Try.f13, Go.Proofs.Try.func13, by kernel_rfl, by kernel_rfl⟩
  | 14, j, h => ⟨Go.Proofs.Try.f14, Go.Proofs.Try.func14, by kernel_rfl, by kernel_rfl⟩
  | 15, j, h => ⟨Go.Proofs.Try.f15, Go.Proofs.Try.func15, by kernel_rfl, by kernel_rfl⟩
  | 16, j, h => ⟨Go.Proofs.Try.f16, Go.Proofs.Try.func16, by kernel_rfl, by kernel_rfl⟩
  | 17, j, h => ⟨Go.Proofs.Try.f17, Go.Proofs.Try.func17, by kernel_rfl, by kernel_rfl⟩
  | 18, j, h => ⟨Go.Proofs.Try.f18, Go.Proofs.Try.func18, by kernel_rfl, by kernel_rfl⟩
  | 19, j, h => ⟨Go.Proofs.Try.f19, Go.Proofs.Try.func19, by kernel_rfl, by kernel_rfl⟩
  | 20, j, h => ⟨Go.Proofs.Try.f20, Go.Proofs.Try.func20, by kernel_rfl, by kernel_rfl⟩
  | 21, j, h => ⟨Go.Proofs.Try.f21, Go.Proofs.Try.func21, by kernel_rfl, by kernel_rfl⟩
  | 22, j, h => ⟨Go.Proofs.Try.f22, Go.Proofs.Try.func22, by kernel_rfl, by kernel_rfl⟩
  | 23, j, h => ⟨Go.Proofs.Try.f23, Go.Proofs.Try.func23, by kernel_rfl, by kernel_rfl⟩
  | 24, j, h => ⟨Go.Proofs.Try.f24, Go.Proofs.Try.func24, by kernel_rfl, by kernel_rfl⟩
  | 25, j, h => ⟨Go.Proofs.Try.f25, Go.Proofs.Try.func25, by kernel_rfl, by kernel_rfl⟩
  | 26, j, h => ⟨Go.Proofs.Try.f26, Go.Proofs.Try.func26, by kernel_rfl, by kernel_rfl⟩
  | 27, j, h => ⟨Go.Proofs.Try.f27, Go.Proofs.Try.func27, by kernel_rfl, by kernel_rfl⟩
  | 28, j, h => ⟨Go.Proofs.Try.f28, Go.Proofs.Try.func28, by kernel_rfl, by kernel_rfl⟩
  | 29, j, h => ⟨Go.Proofs.Try.f29, Go.Proofs.Try.func29, by kernel_rfl, by kernel_rfl⟩
  | 30, j, h => ⟨Go.Proofs.Try.f30, Go.Proofs.Try.func30, by kernel_rfl, by kernel_rfl⟩
  | 31, j, h => ⟨Go.Proofs.Try.f31, Go.Proofs.Try.func31, by kernel_rfl, by kernel_rfl⟩
  | 32, j, h => ⟨Go.Proofs.Try.f32, Go.Proofs.Try.func32, by kernel_rfl, by kernel_rfl⟩
  | 33, j, h => ⟨Go.Proofs.Try.f33, Go.Proofs.Try.func33, by kernel_rfl, by kernel_rfl⟩
  | 34, j, h => ⟨Go.Proofs.Try.f34, Go.Proofs.Try.func34, by kernel_rfl, by kernel_rfl⟩
  | 35, j, h => ⟨Go.Proofs.Try.f35, Go.Proofs.Try.func35, by kernel_rfl, by kernel_rfl⟩
  | 36, j, h => ⟨Go.Proofs.Try.f36, Go.Proofs.Try.func36, by kernel_rfl, by kernel_rfl⟩
  | 37, j, h => ⟨Go.Proofs.Try.f37, Go.Proofs.Try.func37, by kernel_rfl, by kernel_rfl⟩
  | 38, j, h => ⟨Go.Proofs.Try.f38, Go.Proofs.Try.func38, by kernel_rfl, by kernel_rfl⟩
  | 39, j, h => ⟨Go.Proofs.Try.f39, Go.Proofs.Try.func39, by kernel_rfl, by kernel_rfl⟩
  | 40, j, h => ⟨Go.Proofs.Try.f40, Go.Proofs.Try.func40, by kernel_rfl, by kernel_rfl⟩
  | 41, j, h => ⟨Go.Proofs.Try.f41, Go.Proofs.Try.func41, by kernel_rfl, by kernel_rfl⟩
  | 42, j, h => ⟨Go.Proofs.Try.f42, Go.Proofs.Try.func42, by kernel_rfl, by kernel_rfl⟩
  | 43, j, h => ⟨Go.Proofs.Try.f43, Go.Proofs.Try.func43, by kernel_rfl, by kernel_rfl⟩
  | 44, j, h => ⟨Go.Proofs.Try.f44, Go.Proofs.Try.func44, by kernel_rfl, by kernel_rfl⟩
  | 45, j, h => ⟨Go.Proofs.Try.f45, Go.Proofs.Try.func45, by kernel_rfl, by kernel_rfl⟩
  | 46, j, h => ⟨Go.Proofs.Try.f46, Go.Proofs.Try.func46, by kernel_rfl, by kernel_rfl⟩
  | 47, j, h => ⟨Go.Proofs.Try.f47, Go.Proofs.Try.func47, by kernel_rfl, by kernel_rfl⟩
  | 48, j, h => ⟨Go.Proofs.Try.f48, Go.Proofs.Try.func48, by kernel_rfl, by kernel_rfl⟩
  | 49, j, h => ⟨Go.Proofs.Try.f49, Go.Proofs.Try.func49, by kernel_rfl, by kernel_rfl⟩
  | 50, j, h => ⟨Go.Proofs.Try.f50, Go.Proofs.Try.func50, by kernel_rfl, by kernel_rfl⟩
  | 51, j, h => ⟨Go.Proofs.Try.f51, Go.Proofs.Try.func51, by kernel_rfl, by kernel_rfl⟩
  | 52, j, h => ⟨Go.Proofs.Try.f52, Go.Proofs.Try.func52, by kernel_rfl, by kernel_rfl⟩
  | 53, j, h => ⟨Go.Proofs.Try.f53, Go.Proofs.Try.func53, by kernel_rfl, by kernel_rfl⟩
  | 54, j, h => ⟨Go.Proofs.Try.f54, Go.Proofs.Try.func54, by kernel_rfl, by kernel_rfl⟩
  | 55, j, h => ⟨Go.Proofs.Try.f55, Go.Proofs.Try.func55, by kernel_rfl, by kernel_rfl⟩
  | 56, j, h => ⟨Go.Proofs.Try.f56, Go.Proofs.Try.func56, by kernel_rfl, by kernel_rfl⟩
  | 57, j, h => ⟨Go.Proofs.Try.f57, Go.Proofs.Try.func57, by kernel_rfl, by kernel_rfl⟩
  | 58, j, h => ⟨Go.Proofs.Try.f58, Go.Proofs.Try.func58, by kernel_rfl, by kernel_rfl⟩
  | 59, j, h => ⟨Go.Proofs.Try.f59, Go.Proofs.Try.func59, by kernel_rfl, by kernel_rfl⟩
  | 60, j, h => ⟨Go.Proofs.Try.f60, Go.Proofs.Try.func60, by kernel_rfl, by kernel_rfl⟩
  | 61, j, h => ⟨Go.Proofs.Try.f61, Go.Proofs.Try.func61, by kernel_rfl, by kernel_rfl⟩
  | 62, j, h => ⟨Go.Proofs.Try.f62, Go.Proofs.Try.func62, by kernel_rfl, by kernel_rfl⟩
  | 63, j, h => ⟨Go.Proofs.Try.f63, Go.Proofs.Try.func63, by kernel_rfl, by kernel_rfl⟩
  | 64, j, h => ⟨Go.Proofs.Try.f64, Go.Proofs.Try.func64, by kernel_rfl, by kernel_rfl⟩
  | 65, j, h => ⟨Go.Proofs.Try.f65, Go.Proofs.Try.func65, by kernel_rfl, by kernel_rfl⟩
  | 66, j, h => ⟨Go.Proofs.Try.f66, Go.Proofs.Try.func66, by kernel_rfl, by kernel_rfl⟩
  | 67, j, h => ⟨Go.Proofs.Try.f67, Go.Proofs.Try.func67, by kernel_rfl, by kernel_rfl⟩
  | 68, j, h => ⟨Go.Proofs.Try.f68, Go.Proofs.Try.func68, by kernel_rfl, by kernel_rfl⟩
  | 69, j, h => ⟨Go.Proofs.Try.f69, Go.Proofs.Try.func69, by kernel_rfl, by kernel_rfl⟩
  | 70, j, h => ⟨Go.Proofs.Try.f70, Go.Proofs.Try.func70, by kernel_rfl, by kernel_rfl⟩
  | 71, j, h => ⟨Go.Proofs.Try.f71, Go.Proofs.Try.func71, by kernel_rfl, by kernel_rfl⟩
  | 72, j, h => ⟨Go.Proofs.Try.f72, Go.Proofs.Try.func72, by kernel_rfl, by kernel_rfl⟩
  | 73, j, h => ⟨Go.Proofs.Try.f73, Go.Proofs.Try.func73, by kernel_rfl, by kernel_rfl⟩
  | 74, j, h => ⟨Go.Proofs.Try.f74, Go.Proofs.Try.func74, by kernel_rfl, by kernel_rfl⟩
  | 75, j, h => ⟨Go.Proofs.Try.f75, Go.Proofs.Try.func75, by kernel_rfl, by kernel_rfl⟩
  | 76, j, h => ⟨Go.Proofs.Try.f76, Go.Proofs.Try.func76, by kernel_rfl, by kernel_rfl⟩
  | 77, j, h => ⟨Go.Proofs.Try.f77, Go.Proofs.Try.func77, by kernel_rfl, by kernel_rfl⟩
  | 78, j, h => ⟨Go.Proofs.Try.f78, Go.Proofs.Try.func78, by kernel_rfl, by kernel_rfl⟩
  | 79, j, h => ⟨Go.Proofs.Try.f79, Go.Proofs.Try.func79, by kernel_rfl, by kernel_rfl⟩
  | 80, j, h => ⟨Go.Proofs.Try.f80, Go.Proofs.Try.func80, by kernel_rfl, by kernel_rfl⟩
  | 81, j, h => ⟨Go.Proofs.Try.f81, Go.Proofs.Try.func81, by kernel_rfl, by kernel_rfl⟩
  | 82, j, h => ⟨Go.Proofs.Try.f82, Go.Proofs.Try.func82, by kernel_rfl, by kernel_rfl⟩
  | 83, j, h => ⟨Go.Proofs.Try.f83, Go.Proofs.Try.func83, by kernel_rfl, by kernel_rfl⟩
  | 84, j, h => ⟨Go.Proofs.Try.f84, Go.Proofs.Try.func84, by kernel_rfl, by kernel_rfl⟩
  | 85, j, h => ⟨Go.Proofs.Try.f85, Go.Proofs.Try.func85, by kernel_rfl, by kernel_rfl⟩
  | 86, j, h => ⟨Go.Proofs.Try.f86, Go.Proofs.Try.func86, by kernel_rfl, by kernel_rfl⟩
  | 87, j, h => ⟨Go.Proofs.Try.f87, Go.Proofs.Try.func87, by kernel_rfl, by kernel_rfl⟩
  | 88, j, h => ⟨Go.Proofs.Try.f88, Go.Proofs.Try.func88, by kernel_rfl, by kernel_rfl⟩
  | 89, j, h => ⟨Go.Proofs.Try.f89, Go.Proofs.Try.func89, by kernel_rfl, by kernel_rfl⟩
  | 90, j, h => ⟨Go.Proofs.Try.f90, Go.Proofs.Try.func90, by kernel_rfl, by kernel_rfl⟩
  | 91, j, h => ⟨Go.Proofs.Try.f91, Go.Proofs.Try.func91, by kernel_rfl, by kernel_rfl⟩
  | 92, j, h => ⟨Go.Proofs.Try.f92, Go.Proofs.Try.func92, by kernel_rfl, by kernel_rfl⟩
  | 93, j, h => ⟨Go.Proofs.Try.f93, Go.Proofs.Try.func93, by kernel_rfl, by kernel_rfl⟩
  | 94, j, h => ⟨Go.Proofs.Try.f94, Go.Proofs.Try.func94, by kernel_rfl, by kernel_rfl⟩
  | 95, j, h => ⟨Go.Proofs.Try.f95, Go.Proofs.Try.func95, by kernel_rfl, by kernel_rfl⟩
  | 96, j, h => ⟨Go.Proofs.Try.f96, Go.Proofs.Try.func96, by kernel_rfl, by kernel_rfl⟩
  | 97, j, h => ⟨Go.Proofs.Try.f97, Go.Proofs.Try.func97, by kernel_rfl, by kernel_rfl⟩
  | 98, j, h => ⟨Go.Proofs.Try.f98, Go.Proofs.Try.func98, by kernel_rfl, by kernel_rfl⟩
  | 99, j, h => ⟨Go.Proofs.Try.f99, Go.Proofs.Try.func99, by kernel_rfl, by kernel_rfl⟩
  | 100, j, h => ⟨Go.Proofs.Try.f100, Go.Proofs.Try.func100, by kernel_rfl, by kernel_rfl⟩
  | 101, j, h => ⟨Go.Proofs.Try.f101, Go.Proofs.Try.func101, by kernel_rfl, by kernel_rfl⟩
  | 102, j, h => ⟨Go.Proofs.Try.f102, Go.Proofs.Try.func102, by kernel_rfl, by kernel_rfl⟩
  | 103, j, h => ⟨Go.Proofs.Try.f103, Go.Proofs.Try.func103, by kernel_rfl, by kernel_rfl⟩
  | 104, j, h => ⟨Go.Proofs.Try.f104, Go.Proofs.Try.func104, by kernel_rfl, by kernel_rfl⟩
  | 105, j, h => ⟨Go.Proofs.Try.f105, Go.Proofs.Try.func105, by kernel_rfl, by kernel_rfl⟩
  | 106, j, h => ⟨Go.Proofs.Try.f106, Go.Proofs.Try.func106, by kernel_rfl, by kernel_rfl⟩
  | 107, j, h => ⟨Go.Proofs.Try.f107, Go.Proofs.Try.func107, by kernel_rfl, by kernel_rfl⟩
  | 108, j, h => ⟨Go.Proofs.Try.f108, Go.Proofs.Try.func108, by kernel_rfl, by kernel_rfl⟩
  | 109, j, h => ⟨Go.Proofs.Try.f109, Go.Proofs.Try.func109, by kernel_rfl, by kernel_rfl⟩
  | 110, j, h => ⟨Go.Proofs.Try.f110, Go.Proofs.Try.func110, by kernel_rfl, by kernel_rfl⟩
  | 111, j, h => ⟨Go.Proofs.Try.f111, Go.Proofs.Try.func111, by kernel_rfl, by kernel_rfl⟩
  | 112, j, h => ⟨Go.Proofs.Try.f112, Go.Proofs.Try.func112, by kernel_rfl, by kernel_rfl⟩
  | 113, j, h => ⟨Go.Proofs.Try.f113, Go.Proofs.Try.func113, by kernel_rfl, by kernel_rfl⟩
  | 114, j, h => ⟨Go.Proofs.Try.f114, Go.Proofs.Try.func114, by kernel_rfl, by kernel_rfl⟩
  | 115, j, h => absurd h (by intro h; cases h)
  | 116, j, h => absurd h (by intro h; cases h)
  | 117, j, h => absurd h (by intro h; cases h)
  | 118, j, h => absurd h (by intro h; cases h)
  | 119, j, h => absurd h (by intro h; cases h)
  | 120, j, h => absurd h (by intro h; cases h)
  | 121, j, h => absurd h (by intro h; cases h)
  | 122, j, h => absurd h (by intro h; cases h)
  | 123, j, h => absurd h (by intro h; cases h)
  | 124, j, h => absurd h (by intro h; cases h)
  | 125, j, h => absurd h (by intro h; cases h)
  | 126, j, h => absurd h (by intro h; cases h)
  | 127, j, h => absurd h (by intro h; cases h)
  | 128, j, h => absurd h (by intro h; cases h)
  | 129, j, h => absurd h (by intro h; cases h)
  | 130, j, h => absurd h (by intro h; cases h)
  | 131, j, h => absurd h (by intro h; cases h)
  | g + 132, j, h => absurd h (by intro h; cases h)
theorem all : HasAll Go.Proofs.Try.prog inv := ⟨⟨by kernel_rfl, calls⟩, fun j F hc g hg => has g j F hg hc⟩
end
end Go.Eng.Try
