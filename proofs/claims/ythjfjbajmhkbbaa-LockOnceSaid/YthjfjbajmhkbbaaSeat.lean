/-
  THE SEAT: its functions have the codes that the engine walks.
-/
import Derived.Test.YthjfjbajmhkbbaaChecked
import Derived.Test.YthjfjbajmhkbbaaK5
namespace Go.Eng.Try
def tab : List Nat := [0, 0, 0, 323, 155, 72, 9, 157, 159, 77, 324, 12, 156, 158, 172, 10, 173, 90, 91, 35, 36, 37, 66, 80, 174, 181, 182, 183, 32, 33, 34, 98, 184, 99, 100, 101, 102, 103, 104, 105, 106, 107, 108, 109, 71, 94, 177, 110, 190, 96, 128, 129, 130, 131, 17, 83, 84, 85, 111, 112, 113, 114, 115, 116, 117, 118, 119, 120, 121, 122, 185, 27, 123, 124, 125, 126, 127, 139, 140, 136, 95, 141, 42, 43, 51, 47, 132, 92, 133, 134, 135, 137, 138, 52, 53, 54, 142, 143, 144, 145, 146, 56, 0, 0, 0, 0, 0, 0, 0, 0, 0, 0, 0, 0, 0, 0, 0, 0, 0]
def inv (g : Nat) : Option Nat := match tab[g]? with | some (k + 1) => some k | _ => none
section
set_option maxRecDepth 100000
theorem e3 : zjh Go.Proofs.Try.prog inv Go.Proofs.Try.f3 = some cd322 := by kernel_rfl
theorem e4 : zjh Go.Proofs.Try.prog inv Go.Proofs.Try.f4 = some cd154 := by kernel_rfl
theorem e5 : zjh Go.Proofs.Try.prog inv Go.Proofs.Try.f5 = some cd71 := by kernel_rfl
theorem e6 : zjh Go.Proofs.Try.prog inv Go.Proofs.Try.f6 = some cd8 := by kernel_rfl
theorem e7 : zjh Go.Proofs.Try.prog inv Go.Proofs.Try.f7 = some cd156 := by kernel_rfl
theorem e8 : zjh Go.Proofs.Try.prog inv Go.Proofs.Try.f8 = some cd158 := by kernel_rfl
theorem e9 : zjh Go.Proofs.Try.prog inv Go.Proofs.Try.f9 = some cd76 := by kernel_rfl
theorem e10 : zjh Go.Proofs.Try.prog inv Go.Proofs.Try.f10 = some cd323 := by kernel_rfl
theorem e11 : zjh Go.Proofs.Try.prog inv Go.Proofs.Try.f11 = some cd11 := by kernel_rfl
theorem e12 : zjh Go.Proofs.Try.prog inv Go.Proofs.Try.f12 = some cd155 := by kernel_rfl
theorem e13 : zjh Go.Proofs.Try.prog inv Go.Proofs.Try.f13 = some cd157 := by kernel_rfl
theorem e14 : zjh Go.Proofs.Try.prog inv Go.Proofs.Try.f14 = some cd171 := by kernel_rfl
theorem e15 : zjh Go.Proofs.Try.prog inv Go.Proofs.Try.f15 = some cd9 := by kernel_rfl
theorem e16 : zjh Go.Proofs.Try.prog inv Go.Proofs.Try.f16 = some cd172 := by kernel_rfl
theorem e17 : zjh Go.Proofs.Try.prog inv Go.Proofs.Try.f17 = some cd89 := by kernel_rfl
theorem e18 : zjh Go.Proofs.Try.prog inv Go.Proofs.Try.f18 = some cd90 := by kernel_rfl
theorem e19 : zjh Go.Proofs.Try.prog inv Go.Proofs.Try.f19 = some cd34 := by kernel_rfl
theorem e20 : zjh Go.Proofs.Try.prog inv Go.Proofs.Try.f20 = some cd35 := by kernel_rfl
theorem e21 : zjh Go.Proofs.Try.prog inv Go.Proofs.Try.f21 = some cd36 := by kernel_rfl
theorem e22 : zjh Go.Proofs.Try.prog inv Go.Proofs.Try.f22 = some cd65 := by kernel_rfl
theorem e23 : zjh Go.Proofs.Try.prog inv Go.Proofs.Try.f23 = some cd79 := by kernel_rfl
theorem e24 : zjh Go.Proofs.Try.prog inv Go.Proofs.Try.f24 = some cd173 := by kernel_rfl
theorem e25 : zjh Go.Proofs.Try.prog inv Go.Proofs.Try.f25 = some cd180 := by kernel_rfl
theorem e26 : zjh Go.Proofs.Try.prog inv Go.Proofs.Try.f26 = some cd181 := by kernel_rfl
theorem e27 : zjh Go.Proofs.Try.prog inv Go.Proofs.Try.f27 = some cd182 := by kernel_rfl
theorem e28 : zjh Go.Proofs.Try.prog inv Go.Proofs.Try.f28 = some cd31 := by kernel_rfl
theorem e29 : zjh Go.Proofs.Try.prog inv Go.Proofs.Try.f29 = some cd32 := by kernel_rfl
theorem e30 : zjh Go.Proofs.Try.prog inv Go.Proofs.Try.f30 = some cd33 := by kernel_rfl
theorem e31 : zjh Go.Proofs.Try.prog inv Go.Proofs.Try.f31 = some cd97 := by kernel_rfl
theorem e32 : zjh Go.Proofs.Try.prog inv Go.Proofs.Try.f32 = some cd183 := by kernel_rfl
theorem e33 : zjh Go.Proofs.Try.prog inv Go.Proofs.Try.f33 = some cd98 := by kernel_rfl
theorem e34 : zjh Go.Proofs.Try.prog inv Go.Proofs.Try.f34 = some cd99 := by kernel_rfl
theorem e35 : zjh Go.Proofs.Try.prog inv Go.Proofs.Try.f35 = some cd100 := by kernel_rfl
theorem e36 : zjh Go.Proofs.Try.prog inv Go.Proofs.Try.f36 = some cd101 := by kernel_rfl
theorem e37 : zjh Go.Proofs.Try.prog inv Go.Proofs.Try.f37 = some cd102 := by kernel_rfl
theorem e38 : zjh Go.Proofs.Try.prog inv Go.Proofs.Try.f38 = some cd103 := by kernel_rfl
theorem e39 : zjh Go.Proofs.Try.prog inv Go.Proofs.Try.f39 = some cd104 := by kernel_rfl
theorem e40 : zjh Go.Proofs.Try.prog inv Go.Proofs.Try.f40 = some cd105 := by kernel_rfl
theorem e41 : zjh Go.Proofs.Try.prog inv Go.Proofs.Try.f41 = some cd106 := by kernel_rfl
theorem e42 : zjh Go.Proofs.Try.prog inv Go.Proofs.Try.f42 = some cd107 := by kernel_rfl
theorem e43 : zjh Go.Proofs.Try.prog inv Go.Proofs.Try.f43 = some cd108 := by kernel_rfl
theorem e44 : zjh Go.Proofs.Try.prog inv Go.Proofs.Try.f44 = some cd70 := by kernel_rfl
theorem e45 : zjh Go.Proofs.Try.prog inv Go.Proofs.Try.f45 = some cd93 := by kernel_rfl
theorem e46 : zjh Go.Proofs.Try.prog inv Go.Proofs.Try.f46 = some cd176 := by kernel_rfl
theorem e47 : zjh Go.Proofs.Try.prog inv Go.Proofs.Try.f47 = some cd109 := by kernel_rfl
theorem e48 : zjh Go.Proofs.Try.prog inv Go.Proofs.Try.f48 = some cd189 := by kernel_rfl
theorem e49 : zjh Go.Proofs.Try.prog inv Go.Proofs.Try.f49 = some cd95 := by kernel_rfl
theorem e50 : zjh Go.Proofs.Try.prog inv Go.Proofs.Try.f50 = some cd127 := by kernel_rfl
theorem e51 : zjh Go.Proofs.Try.prog inv Go.Proofs.Try.f51 = some cd128 := by kernel_rfl
theorem e52 : zjh Go.Proofs.Try.prog inv Go.Proofs.Try.f52 = some cd129 := by kernel_rfl
theorem e53 : zjh Go.Proofs.Try.prog inv Go.Proofs.Try.f53 = some cd130 := by kernel_rfl
theorem e54 : zjh Go.Proofs.Try.prog inv Go.Proofs.Try.f54 = some cd16 := by kernel_rfl
theorem e55 : zjh Go.Proofs.Try.prog inv Go.Proofs.Try.f55 = some cd82 := by kernel_rfl
theorem e56 : zjh Go.Proofs.Try.prog inv Go.Proofs.Try.f56 = some cd83 := by kernel_rfl
theorem e57 : zjh Go.Proofs.Try.prog inv Go.Proofs.Try.f57 = some cd84 := by kernel_rfl
theorem e58 : zjh Go.Proofs.Try.prog inv Go.Proofs.Try.f58 = some cd110 := by kernel_rfl
theorem e59 : zjh Go.Proofs.Try.prog inv Go.Proofs.Try.f59 = some cd111 := by kernel_rfl
theorem e60 : zjh Go.Proofs.Try.prog inv Go.Proofs.Try.f60 = some cd112 := by kernel_rfl
theorem e61 : zjh Go.Proofs.Try.prog inv Go.Proofs.Try.f61 = some cd113 := by kernel_rfl
theorem e62 : zjh Go.Proofs.Try.prog inv Go.Proofs.Try.f62 = some cd114 := by kernel_rfl
theorem e63 : zjh Go.Proofs.Try.prog inv Go.Proofs.Try.f63 = some cd115 := by kernel_rfl
theorem e64 : zjh Go.Proofs.Try.prog inv Go.Proofs.Try.f64 = some cd116 := by kernel_rfl
theorem e65 : zjh Go.Proofs.Try.prog inv Go.Proofs.Try.f65 = some cd117 := by kernel_rfl
theorem e66 : zjh Go.Proofs.Try.prog inv Go.Proofs.Try.f66 = some cd118 := by kernel_rfl
theorem e67 : zjh Go.Proofs.Try.prog inv Go.Proofs.Try.f67 = some cd119 := by kernel_rfl
theorem e68 : zjh Go.Proofs.Try.prog inv Go.Proofs.Try.f68 = some cd120 := by kernel_rfl
theorem e69 : zjh Go.Proofs.Try.prog inv Go.Proofs.Try.f69 = some cd121 := by kernel_rfl
theorem e70 : zjh Go.Proofs.Try.prog inv Go.Proofs.Try.f70 = some cd184 := by kernel_rfl
theorem e71 : zjh Go.Proofs.Try.prog inv Go.Proofs.Try.f71 = some cd26 := by kernel_rfl
theorem e72 : zjh Go.Proofs.Try.prog inv Go.Proofs.Try.f72 = some cd122 := by kernel_rfl
theorem e73 : zjh Go.Proofs.Try.prog inv Go.Proofs.Try.f73 = some cd123 := by kernel_rfl
theorem e74 : zjh Go.Proofs.Try.prog inv Go.Proofs.Try.f74 = some cd124 := by kernel_rfl
theorem e75 : zjh Go.Proofs.Try.prog inv Go.Proofs.Try.f75 = some cd125 := by kernel_rfl
theorem e76 : zjh Go.Proofs.Try.prog inv Go.Proofs.Try.f76 = some cd126 := by kernel_rfl
theorem e77 : zjh Go.Proofs.Try.prog inv Go.Proofs.Try.f77 = some cd138 := by kernel_rfl
theorem e78 : zjh Go.Proofs.Try.prog inv Go.Proofs.Try.f78 = some cd139 := by kernel_rfl
theorem e79 : zjh Go.Proofs.Try.prog inv Go.Proofs.Try.f79 = some cd135 := by kernel_rfl
theorem e80 : zjh Go.Proofs.Try.prog inv Go.Proofs.Try.f80 = some cd94 := by kernel_rfl
theorem e81 : zjh Go.Proofs.Try.prog inv Go.Proofs.Try.f81 = some cd140 := by kernel_rfl
theorem e82 : zjh Go.Proofs.Try.prog inv Go.Proofs.Try.f82 = some cd41 := by kernel_rfl
theorem e83 : zjh Go.Proofs.Try.prog inv Go.Proofs.Try.f83 = some cd42 := by kernel_rfl
theorem e84 : zjh Go.Proofs.Try.prog inv Go.Proofs.Try.f84 = some cd50 := by kernel_rfl
theorem e85 : zjh Go.Proofs.Try.prog inv Go.Proofs.Try.f85 = some cd46 := by kernel_rfl
theorem e86 : zjh Go.Proofs.Try.prog inv Go.Proofs.Try.f86 = some cd131 := by kernel_rfl
theorem e87 : zjh Go.Proofs.Try.prog inv Go.Proofs.Try.f87 = some cd91 := by kernel_rfl
theorem e88 : zjh Go.Proofs.Try.prog inv Go.Proofs.Try.f88 = some cd132 := by kernel_rfl
theorem e89 : zjh Go.Proofs.Try.prog inv Go.Proofs.Try.f89 = some cd133 := by kernel_rfl
theorem e90 : zjh Go.Proofs.Try.prog inv Go.Proofs.Try.f90 = some cd134 := by kernel_rfl
theorem e91 : zjh Go.Proofs.Try.prog inv Go.Proofs.Try.f91 = some cd136 := by kernel_rfl
theorem e92 : zjh Go.Proofs.Try.prog inv Go.Proofs.Try.f92 = some cd137 := by kernel_rfl
theorem e93 : zjh Go.Proofs.Try.prog inv Go.Proofs.Try.f93 = some cd51 := by kernel_rfl
theorem e94 : zjh Go.Proofs.Try.prog inv Go.Proofs.Try.f94 = some cd52 := by kernel_rfl
theorem e95 : zjh Go.Proofs.Try.prog inv Go.Proofs.Try.f95 = some cd53 := by kernel_rfl
theorem e96 : zjh Go.Proofs.Try.prog inv Go.Proofs.Try.f96 = some cd141 := by kernel_rfl
theorem e97 : zjh Go.Proofs.Try.prog inv Go.Proofs.Try.f97 = some cd142 := by kernel_rfl
theorem e98 : zjh Go.Proofs.Try.prog inv Go.Proofs.Try.f98 = some cd143 := by kernel_rfl
theorem e99 : zjh Go.Proofs.Try.prog inv Go.Proofs.Try.f99 = some cd144 := by kernel_rfl
theorem e100 : zjh Go.Proofs.Try.prog inv Go.Proofs.Try.f100 = some cd145 := by kernel_rfl
theorem e101 : zjh Go.Proofs.Try.prog inv Go.Proofs.Try.f101 = some cd55 := by kernel_rfl
theorem has : ∀ (g j : Nat) (F : AFn), inv g = some j → code j = some F → ∃ fn, Go.Proofs.Try.prog.funcs[g]? = some fn ∧ zjh Go.Proofs.Try.prog inv fn = some F
  | 0, j, F, h, hc => absurd h (by intro h; cases h)
  | 1, j, F, h, hc => absurd h (by intro h; cases h)
  | 2, j, F, h, hc => absurd h (by intro h; cases h)
  | 3, j, F, h, hc => by
    obtain rfl : 322 = j := Option.some.inj h
    obtain rfl : cd322 = F := Option.some.inj hc
    exact ⟨Go.Proofs.Try.f3, Go.Proofs.Try.func3, e3⟩
  | 4, j, F, h, hc => by
    obtain rfl : 154 = j := Option.some.inj h
    obtain rfl : cd154 = F := Option.some.inj hc
    exact ⟨Go.Proofs.Try.f4, Go.Proofs.Try.func4, e4⟩
  | 5, j, F, h, hc => by
    obtain rfl : 71 = j := Option.some.inj h
    obtain rfl : cd71 = F := Option.some.inj hc
    exact ⟨Go.Proofs.Try.f5, Go.Proofs.Try.func5, e5⟩
  | 6, j, F, h, hc => by
    obtain rfl : 8 = j := Option.some.inj h
    obtain rfl : cd8 = F := Option.some.inj hc
    exact ⟨Go.Proofs.Try.f6, Go.Proofs.Try.func6, e6⟩
  | 7, j, F, h, hc => by
    obtain rfl : 156 = j := Option.some.inj h
    obtain rfl : cd156 = F := Option.some.inj hc
    exact ⟨Go.Proofs.Try.f7, Go.Proofs.Try.func7, e7⟩
  | 8, j, F, h, hc => by
    obtain rfl : 158 = j := Option.some.inj h
    obtain rfl : cd158 = F := Option.some.inj hc
    exact ⟨Go.Proofs.Try.f8, Go.Proofs.Try.func8, e8⟩
  | 9, j, F, h, hc => by
    obtain rfl : 76 = j := Option.some.inj h
    obtain rfl : cd76 = F := Option.some.inj hc
    exact ⟨Go.Proofs.Try.f9, Go.Proofs.Try.func9, e9⟩
  | 10, j, F, h, hc => by
    obtain rfl : 323 = j := Option.some.inj h
    obtain rfl : cd323 = F := Option.some.inj hc
    exact ⟨Go.Proofs.Try.f10, Go.Proofs.Try.func10, e10⟩
  | 11, j, F, h, hc => by
    obtain rfl : 11 = j := Option.some.inj h
    obtain rfl : cd11 = F := Option.some.inj hc
    exact ⟨Go.Proofs.Try.f11, Go.Proofs.Try.func11, e11⟩
  | 12, j, F, h, hc => by
    obtain rfl : 155 = j := Option.some.inj h
    obtain rfl : cd155 = F := Option.some.inj hc
    exact ⟨Go.Proofs.Try.f12, Go.Proofs.Try.func12, e12⟩
  | 13, j, F, h, hc => by
    obtain rfl : 157 = j := Option.some.inj h
    obtain rfl : cd157 = F := Option.some.inj hc
    exact ⟨Go.Proofs.Try.f13, Go.Proofs.Try.func13, e13⟩
  | 14, j, F, h, hc => by
    obtain rfl : 171 = j := Option.some.inj h
    obtain rfl : cd171 = F := Option.some.inj hc
    exact ⟨Go.Proofs.Try.f14, Go.Proofs.Try.func14, e14⟩
  | 15, j, F, h, hc => by
    obtain rfl : 9 = j := Option.some.inj h
    obtain rfl : cd9 = F := Option.some.inj hc
    exact ⟨Go.Proofs.Try.f15, Go.Proofs.Try.func15, e15⟩
  | 16, j, F, h, hc => by
    obtain rfl : 172 = j := Option.some.inj h
    obtain rfl : cd172 = F := Option.some.inj hc
    exact ⟨Go.Proofs.Try.f16, Go.Proofs.Try.func16, e16⟩
  | 17, j, F, h, hc => by
    obtain rfl : 89 = j := Option.some.inj h
    obtain rfl : cd89 = F := Option.some.inj hc
    exact ⟨Go.Proofs.Try.f17, Go.Proofs.Try.func17, e17⟩
  | 18, j, F, h, hc => by
    obtain rfl : 90 = j := Option.some.inj h
    obtain rfl : cd90 = F := Option.some.inj hc
    exact ⟨Go.Proofs.Try.f18, Go.Proofs.Try.func18, e18⟩
  | 19, j, F, h, hc => by
    obtain rfl : 34 = j := Option.some.inj h
    obtain rfl : cd34 = F := Option.some.inj hc
    exact ⟨Go.Proofs.Try.f19, Go.Proofs.Try.func19, e19⟩
  | 20, j, F, h, hc => by
    obtain rfl : 35 = j := Option.some.inj h
    obtain rfl : cd35 = F := Option.some.inj hc
    exact ⟨Go.Proofs.Try.f20, Go.Proofs.Try.func20, e20⟩
  | 21, j, F, h, hc => by
    obtain rfl : 36 = j := Option.some.inj h
    obtain rfl : cd36 = F := Option.some.inj hc
    exact ⟨Go.Proofs.Try.f21, Go.Proofs.Try.func21, e21⟩
  | 22, j, F, h, hc => by
    obtain rfl : 65 = j := Option.some.inj h
    obtain rfl : cd65 = F := Option.some.inj hc
    exact ⟨Go.Proofs.Try.f22, Go.Proofs.Try.func22, e22⟩
  | 23, j, F, h, hc => by
    obtain rfl : 79 = j := Option.some.inj h
    obtain rfl : cd79 = F := Option.some.inj hc
    exact ⟨Go.Proofs.Try.f23, Go.Proofs.Try.func23, e23⟩
  | 24, j, F, h, hc => by
    obtain rfl : 173 = j := Option.some.inj h
    obtain rfl : cd173 = F := Option.some.inj hc
    exact ⟨Go.Proofs.Try.f24, Go.Proofs.Try.func24, e24⟩
  | 25, j, F, h, hc => by
    obtain rfl : 180 = j := Option.some.inj h
    obtain rfl : cd180 = F := Option.some.inj hc
    exact ⟨Go.Proofs.Try.f25, Go.Proofs.Try.func25, e25⟩
  | 26, j, F, h, hc => by
    obtain rfl : 181 = j := Option.some.inj h
    obtain rfl : cd181 = F := Option.some.inj hc
    exact ⟨Go.Proofs.Try.f26, Go.Proofs.Try.func26, e26⟩
  | 27, j, F, h, hc => by
    obtain rfl : 182 = j := Option.some.inj h
    obtain rfl : cd182 = F := Option.some.inj hc
    exact ⟨Go.Proofs.Try.f27, Go.Proofs.Try.func27, e27⟩
  | 28, j, F, h, hc => by
    obtain rfl : 31 = j := Option.some.inj h
    obtain rfl : cd31 = F := Option.some.inj hc
    exact ⟨Go.Proofs.Try.f28, Go.Proofs.Try.func28, e28⟩
  | 29, j, F, h, hc => by
    obtain rfl : 32 = j := Option.some.inj h
    obtain rfl : cd32 = F := Option.some.inj hc
    exact ⟨Go.Proofs.Try.f29, Go.Proofs.Try.func29, e29⟩
  | 30, j, F, h, hc => by
    obtain rfl : 33 = j := Option.some.inj h
    obtain rfl : cd33 = F := Option.some.inj hc
    exact ⟨Go.Proofs.Try.f30, Go.Proofs.Try.func30, e30⟩
  | 31, j, F, h, hc => by
    obtain rfl : 97 = j := Option.some.inj h
    obtain rfl : cd97 = F := Option.some.inj hc
    exact ⟨Go.Proofs.Try.f31, Go.Proofs.Try.func31, e31⟩
  | 32, j, F, h, hc => by
    obtain rfl : 183 = j := Option.some.inj h
    obtain rfl : cd183 = F := Option.some.inj hc
    exact ⟨Go.Proofs.Try.f32, Go.Proofs.Try.func32, e32⟩
  | 33, j, F, h, hc => by
    obtain rfl : 98 = j := Option.some.inj h
    obtain rfl : cd98 = F := Option.some.inj hc
    exact ⟨Go.Proofs.Try.f33, Go.Proofs.Try.func33, e33⟩
  | 34, j, F, h, hc => by
    obtain rfl : 99 = j := Option.some.inj h
    obtain rfl : cd99 = F := Option.some.inj hc
    exact ⟨Go.Proofs.Try.f34, Go.Proofs.Try.func34, e34⟩
  | 35, j, F, h, hc => by
    obtain rfl : 100 = j := Option.some.inj h
    obtain rfl : cd100 = F := Option.some.inj hc
    exact ⟨Go.Proofs.Try.f35, Go.Proofs.Try.func35, e35⟩
  | 36, j, F, h, hc => by
    obtain rfl : 101 = j := Option.some.inj h
    obtain rfl : cd101 = F := Option.some.inj hc
    exact ⟨Go.Proofs.Try.f36, Go.Proofs.Try.func36, e36⟩
  | 37, j, F, h, hc => by
    obtain rfl : 102 = j := Option.some.inj h
    obtain rfl : cd102 = F := Option.some.inj hc
    exact ⟨Go.Proofs.Try.f37, Go.Proofs.Try.func37, e37⟩
  | 38, j, F, h, hc => by
    obtain rfl : 103 = j := Option.some.inj h
    obtain rfl : cd103 = F := Option.some.inj hc
    exact ⟨Go.Proofs.Try.f38, Go.Proofs.Try.func38, e38⟩
  | 39, j, F, h, hc => by
    obtain rfl : 104 = j := Option.some.inj h
    obtain rfl : cd104 = F := Option.some.inj hc
    exact ⟨Go.Proofs.Try.f39, Go.Proofs.Try.func39, e39⟩
  | 40, j, F, h, hc => by
    obtain rfl : 105 = j := Option.some.inj h
    obtain rfl : cd105 = F := Option.some.inj hc
    exact ⟨Go.Proofs.Try.f40, Go.Proofs.Try.func40, e40⟩
  | 41, j, F, h, hc => by
    obtain rfl : 106 = j := Option.some.inj h
    obtain rfl : cd106 = F := Option.some.inj hc
    exact ⟨Go.Proofs.Try.f41, Go.Proofs.Try.func41, e41⟩
  | 42, j, F, h, hc => by
    obtain rfl : 107 = j := Option.some.inj h
    obtain rfl : cd107 = F := Option.some.inj hc
    exact ⟨Go.Proofs.Try.f42, Go.Proofs.Try.func42, e42⟩
  | 43, j, F, h, hc => by
    obtain rfl : 108 = j := Option.some.inj h
    obtain rfl : cd108 = F := Option.some.inj hc
    exact ⟨Go.Proofs.Try.f43, Go.Proofs.Try.func43, e43⟩
  | 44, j, F, h, hc => by
    obtain rfl : 70 = j := Option.some.inj h
    obtain rfl : cd70 = F := Option.some.inj hc
    exact ⟨Go.Proofs.Try.f44, Go.Proofs.Try.func44, e44⟩
  | 45, j, F, h, hc => by
    obtain rfl : 93 = j := Option.some.inj h
    obtain rfl : cd93 = F := Option.some.inj hc
    exact ⟨Go.Proofs.Try.f45, Go.Proofs.Try.func45, e45⟩
  | 46, j, F, h, hc => by
    obtain rfl : 176 = j := Option.some.inj h
    obtain rfl : cd176 = F := Option.some.inj hc
    exact ⟨Go.Proofs.Try.f46, Go.Proofs.Try.func46, e46⟩
  | 47, j, F, h, hc => by
    obtain rfl : 109 = j := Option.some.inj h
    obtain rfl : cd109 = F := Option.some.inj hc
    exact ⟨Go.Proofs.Try.f47, Go.Proofs.Try.func47, e47⟩
  | 48, j, F, h, hc => by
    obtain rfl : 189 = j := Option.some.inj h
    obtain rfl : cd189 = F := Option.some.inj hc
    exact ⟨Go.Proofs.Try.f48, Go.Proofs.Try.func48, e48⟩
  | 49, j, F, h, hc => by
    obtain rfl : 95 = j := Option.some.inj h
    obtain rfl : cd95 = F := Option.some.inj hc
    exact ⟨Go.Proofs.Try.f49, Go.Proofs.Try.func49, e49⟩
  | 50, j, F, h, hc => by
    obtain rfl : 127 = j := Option.some.inj h
    obtain rfl : cd127 = F := Option.some.inj hc
    exact ⟨Go.Proofs.Try.f50, Go.Proofs.Try.func50, e50⟩
  | 51, j, F, h, hc => by
    obtain rfl : 128 = j := Option.some.inj h
    obtain rfl : cd128 = F := Option.some.inj hc
    exact ⟨Go.Proofs.Try.f51, Go.Proofs.Try.func51, e51⟩
  | 52, j, F, h, hc => by
    obtain rfl : 129 = j := Option.some.inj h
    obtain rfl : cd129 = F := Option.some.inj hc
    exact ⟨Go.Proofs.Try.f52, Go.Proofs.Try.func52, e52⟩
  | 53, j, F, h, hc => by
    obtain rfl : 130 = j := Option.some.inj h
    obtain rfl : cd130 = F := Option.some.inj hc
    exact ⟨Go.Proofs.Try.f53, Go.Proofs.Try.func53, e53⟩
  | 54, j, F, h, hc => by
    obtain rfl : 16 = j := Option.some.inj h
    obtain rfl : cd16 = F := Option.some.inj hc
    exact ⟨Go.Proofs.Try.f54, Go.Proofs.Try.func54, e54⟩
  | 55, j, F, h, hc => by
    obtain rfl : 82 = j := Option.some.inj h
    obtain rfl : cd82 = F := Option.some.inj hc
    exact ⟨Go.Proofs.Try.f55, Go.Proofs.Try.func55, e55⟩
  | 56, j, F, h, hc => by
    obtain rfl : 83 = j := Option.some.inj h
    obtain rfl : cd83 = F := Option.some.inj hc
    exact ⟨Go.Proofs.Try.f56, Go.Proofs.Try.func56, e56⟩
  | 57, j, F, h, hc => by
    obtain rfl : 84 = j := Option.some.inj h
    obtain rfl : cd84 = F := Option.some.inj hc
    exact ⟨Go.Proofs.Try.f57, Go.Proofs.Try.func57, e57⟩
  | 58, j, F, h, hc => by
    obtain rfl : 110 = j := Option.some.inj h
    obtain rfl : cd110 = F := Option.some.inj hc
    exact ⟨Go.Proofs.Try.f58, Go.Proofs.Try.func58, e58⟩
  | 59, j, F, h, hc => by
    obtain rfl : 111 = j := Option.some.inj h
    obtain rfl : cd111 = F := Option.some.inj hc
    exact ⟨Go.Proofs.Try.f59, Go.Proofs.Try.func59, e59⟩
  | 60, j, F, h, hc => by
    obtain rfl : 112 = j := Option.some.inj h
    obtain rfl : cd112 = F := Option.some.inj hc
    exact ⟨Go.Proofs.Try.f60, Go.Proofs.Try.func60, e60⟩
  | 61, j, F, h, hc => by
    obtain rfl : 113 = j := Option.some.inj h
    obtain rfl : cd113 = F := Option.some.inj hc
    exact ⟨Go.Proofs.Try.f61, Go.Proofs.Try.func61, e61⟩
  | 62, j, F, h, hc => by
    obtain rfl : 114 = j := Option.some.inj h
    obtain rfl : cd114 = F := Option.some.inj hc
    exact ⟨Go.Proofs.Try.f62, Go.Proofs.Try.func62, e62⟩
  | 63, j, F, h, hc => by
    obtain rfl : 115 = j := Option.some.inj h
    obtain rfl : cd115 = F := Option.some.inj hc
    exact ⟨Go.Proofs.Try.f63, Go.Proofs.Try.func63, e63⟩
  | 64, j, F, h, hc => by
    obtain rfl : 116 = j := Option.some.inj h
    obtain rfl : cd116 = F := Option.some.inj hc
    exact ⟨Go.Proofs.Try.f64, Go.Proofs.Try.func64, e64⟩
  | 65, j, F, h, hc => by
    obtain rfl : 117 = j := Option.some.inj h
    obtain rfl : cd117 = F := Option.some.inj hc
    exact ⟨Go.Proofs.Try.f65, Go.Proofs.Try.func65, e65⟩
  | 66, j, F, h, hc => by
    obtain rfl : 118 = j := Option.some.inj h
    obtain rfl : cd118 = F := Option.some.inj hc
    exact ⟨Go.Proofs.Try.f66, Go.Proofs.Try.func66, e66⟩
  | 67, j, F, h, hc => by
    obtain rfl : 119 = j := Option.some.inj h
    obtain rfl : cd119 = F := Option.some.inj hc
    exact ⟨Go.Proofs.Try.f67, Go.Proofs.Try.func67, e67⟩
  | 68, j, F, h, hc => by
    obtain rfl : 120 = j := Option.some.inj h
    obtain rfl : cd120 = F := Option.some.inj hc
    exact ⟨Go.Proofs.Try.f68, Go.Proofs.Try.func68, e68⟩
  | 69, j, F, h, hc => by
    obtain rfl : 121 = j := Option.some.inj h
    obtain rfl : cd121 = F := Option.some.inj hc
    exact ⟨Go.Proofs.Try.f69, Go.Proofs.Try.func69, e69⟩
  | 70, j, F, h, hc => by
    obtain rfl : 184 = j := Option.some.inj h
    obtain rfl : cd184 = F := Option.some.inj hc
    exact ⟨Go.Proofs.Try.f70, Go.Proofs.Try.func70, e70⟩
  | 71, j, F, h, hc => by
    obtain rfl : 26 = j := Option.some.inj h
    obtain rfl : cd26 = F := Option.some.inj hc
    exact ⟨Go.Proofs.Try.f71, Go.Proofs.Try.func71, e71⟩
  | 72, j, F, h, hc => by
    obtain rfl : 122 = j := Option.some.inj h
    obtain rfl : cd122 = F := Option.some.inj hc
    exact ⟨Go.Proofs.Try.f72, Go.Proofs.Try.func72, e72⟩
  | 73, j, F, h, hc => by
    obtain rfl : 123 = j := Option.some.inj h
    obtain rfl : cd123 = F := Option.some.inj hc
    exact ⟨Go.Proofs.Try.f73, Go.Proofs.Try.func73, e73⟩
  | 74, j, F, h, hc => by
    obtain rfl : 124 = j := Option.some.inj h
    obtain rfl : cd124 = F := Option.some.inj hc
    exact ⟨Go.Proofs.Try.f74, Go.Proofs.Try.func74, e74⟩
  | 75, j, F, h, hc => by
    obtain rfl : 125 = j := Option.some.inj h
    obtain rfl : cd125 = F := Option.some.inj hc
    exact ⟨Go.Proofs.Try.f75, Go.Proofs.Try.func75, e75⟩
  | 76, j, F, h, hc => by
    obtain rfl : 126 = j := Option.some.inj h
    obtain rfl : cd126 = F := Option.some.inj hc
    exact ⟨Go.Proofs.Try.f76, Go.Proofs.Try.func76, e76⟩
  | 77, j, F, h, hc => by
    obtain rfl : 138 = j := Option.some.inj h
    obtain rfl : cd138 = F := Option.some.inj hc
    exact ⟨Go.Proofs.Try.f77, Go.Proofs.Try.func77, e77⟩
  | 78, j, F, h, hc => by
    obtain rfl : 139 = j := Option.some.inj h
    obtain rfl : cd139 = F := Option.some.inj hc
    exact ⟨Go.Proofs.Try.f78, Go.Proofs.Try.func78, e78⟩
  | 79, j, F, h, hc => by
    obtain rfl : 135 = j := Option.some.inj h
    obtain rfl : cd135 = F := Option.some.inj hc
    exact ⟨Go.Proofs.Try.f79, Go.Proofs.Try.func79, e79⟩
  | 80, j, F, h, hc => by
    obtain rfl : 94 = j := Option.some.inj h
    obtain rfl : cd94 = F := Option.some.inj hc
    exact ⟨Go.Proofs.Try.f80, Go.Proofs.Try.func80, e80⟩
  | 81, j, F, h, hc => by
    obtain rfl : 140 = j := Option.some.inj h
    obtain rfl : cd140 = F := Option.some.inj hc
    exact ⟨Go.Proofs.Try.f81, Go.Proofs.Try.func81, e81⟩
  | 82, j, F, h, hc => by
    obtain rfl : 41 = j := Option.some.inj h
    obtain rfl : cd41 = F := Option.some.inj hc
    exact ⟨Go.Proofs.Try.f82, Go.Proofs.Try.func82, e82⟩
  | 83, j, F, h, hc => by
    obtain rfl : 42 = j := Option.some.inj h
    obtain rfl : cd42 = F := Option.some.inj hc
    exact ⟨Go.Proofs.Try.f83, Go.Proofs.Try.func83, e83⟩
  | 84, j, F, h, hc => by
    obtain rfl : 50 = j := Option.some.inj h
    obtain rfl : cd50 = F := Option.some.inj hc
    exact ⟨Go.Proofs.Try.f84, Go.Proofs.Try.func84, e84⟩
  | 85, j, F, h, hc => by
    obtain rfl : 46 = j := Option.some.inj h
    obtain rfl : cd46 = F := Option.some.inj hc
    exact ⟨Go.Proofs.Try.f85, Go.Proofs.Try.func85, e85⟩
  | 86, j, F, h, hc => by
    obtain rfl : 131 = j := Option.some.inj h
    obtain rfl : cd131 = F := Option.some.inj hc
    exact ⟨Go.Proofs.Try.f86, Go.Proofs.Try.func86, e86⟩
  | 87, j, F, h, hc => by
    obtain rfl : 91 = j := Option.some.inj h
    obtain rfl : cd91 = F := Option.some.inj hc
    exact ⟨Go.Proofs.Try.f87, Go.Proofs.Try.func87, e87⟩
  | 88, j, F, h, hc => by
    obtain rfl : 132 = j := Option.some.inj h
    obtain rfl : cd132 = F := Option.some.inj hc
    exact ⟨Go.Proofs.Try.f88, Go.Proofs.Try.func88, e88⟩
  | 89, j, F, h, hc => by
    obtain rfl : 133 = j := Option.some.inj h
    obtain rfl : cd133 = F := Option.some.inj hc
    exact ⟨Go.Proofs.Try.f89, Go.Proofs.Try.func89, e89⟩
  | 90, j, F, h, hc => by
    obtain rfl : 134 = j := Option.some.inj h
    obtain rfl : cd134 = F := Option.some.inj hc
    exact ⟨Go.Proofs.Try.f90, Go.Proofs.Try.func90, e90⟩
  | 91, j, F, h, hc => by
    obtain rfl : 136 = j := Option.some.inj h
    obtain rfl : cd136 = F := Option.some.inj hc
    exact ⟨Go.Proofs.Try.f91, Go.Proofs.Try.func91, e91⟩
  | 92, j, F, h, hc => by
    obtain rfl : 137 = j := Option.some.inj h
    obtain rfl : cd137 = F := Option.some.inj hc
    exact ⟨Go.Proofs.Try.f92, Go.Proofs.Try.func92, e92⟩
  | 93, j, F, h, hc => by
    obtain rfl : 51 = j := Option.some.inj h
    obtain rfl : cd51 = F := Option.some.inj hc
    exact ⟨Go.Proofs.Try.f93, Go.Proofs.Try.func93, e93⟩
  | 94, j, F, h, hc => by
    obtain rfl : 52 = j := Option.some.inj h
    obtain rfl : cd52 = F := Option.some.inj hc
    exact ⟨Go.Proofs.Try.f94, Go.Proofs.Try.func94, e94⟩
  | 95, j, F, h, hc => by
    obtain rfl : 53 = j := Option.some.inj h
    obtain rfl : cd53 = F := Option.some.inj hc
    exact ⟨Go.Proofs.Try.f95, Go.Proofs.Try.func95, e95⟩
  | 96, j, F, h, hc => by
    obtain rfl : 141 = j := Option.some.inj h
    obtain rfl : cd141 = F := Option.some.inj hc
    exact ⟨Go.Proofs.Try.f96, Go.Proofs.Try.func96, e96⟩
  | 97, j, F, h, hc => by
    obtain rfl : 142 = j := Option.some.inj h
    obtain rfl : cd142 = F := Option.some.inj hc
    exact ⟨Go.Proofs.Try.f97, Go.Proofs.Try.func97, e97⟩
  | 98, j, F, h, hc => by
    obtain rfl : 143 = j := Option.some.inj h
    obtain rfl : cd143 = F := Option.some.inj hc
    exact ⟨Go.Proofs.Try.f98, Go.Proofs.Try.func98, e98⟩
  | 99, j, F, h, hc => by
    obtain rfl : 144 = j := Option.some.inj h
    obtain rfl : cd144 = F := Option.some.inj hc
    exact ⟨Go.Proofs.Try.f99, Go.Proofs.Try.func99, e99⟩
  | 100, j, F, h, hc => by
    obtain rfl : 145 = j := Option.some.inj h
    obtain rfl : cd145 = F := Option.some.inj hc
    exact ⟨Go.Proofs.Try.f100, Go.Proofs.Try.func100, e100⟩
  | 101, j, F, h, hc => by
    obtain rfl : 55 = j := Option.some.inj h
    obtain rfl : cd55 = F := Option.some.inj hc
    exact ⟨Go.Proofs.Try.f101, Go.Proofs.Try.func101, e101⟩
  | 102, j, F, h, hc => absurd h (by intro h; cases h)
  | 103, j, F, h, hc => absurd h (by intro h; cases h)
  | 104, j, F, h, hc => absurd h (by intro h; cases h)
  | 105, j, F, h, hc => absurd h (by intro h; cases h)
  | 106, j, F, h, hc => absurd h (by intro h; cases h)
  | 107, j, F, h, hc => absurd h (by intro h; cases h)
  | 108, j, F, h, hc => absurd h (by intro h; cases h)
  | 109, j, F, h, hc => absurd h (by intro h; cases h)
  | 110, j, F, h, hc => absurd h (by intro h; cases h)
  | 111, j, F, h, hc => absurd h (by intro h; cases h)
  | 112, j, F, h, hc => absurd h (by intro h; cases h)
  | 113, j, F, h, hc => absurd h (by intro h; cases h)
  | 114, j, F, h, hc => absurd h (by intro h; cases h)
  | 115, j, F, h, hc => absurd h (by intro h; cases h)
  | 116, j, F, h, hc => absurd h (by intro h; cases h)
  | 117, j, F, h, hc => absurd h (by intro h; cases h)
  | 118, j, F, h, hc => absurd h (by intro h; cases h)
  | g + 119, j, F, h, hc => absurd h (by intro h; cases h)
theorem calls : ∀ (g j : Nat), inv g = some j → ∃ fn, Go.Proofs.Try.prog.funcs[g]? = some fn ∧ fn.body.isNone = false ∧ (fn.name == "runtime.NumGoroutine") = false
  | 0, j, h => absurd h (by intro h; cases h)
  | 1, j, h => absurd h (by intro h; cases h)
  | 2, j, h => absurd h (by intro h; cases h)
  | 3, j, h => ⟨Go.Proofs.Try.f3, Go.Proofs.Try.func3, by kernel_rfl, by kernel_rfl⟩
  | 4, j, h => ⟨Go.Proofs.Try.f4, Go.Proofs.Try.func4, by kernel_rfl, by kernel_rfl⟩
  | 5, j, h => ⟨Go.Proofs.Try.f5, Go.Proofs.Try.func5, by kernel_rfl, by kernel_rfl⟩
  | 6, j, h => ⟨Go.Proofs.Try.f6, Go.Proofs.Try.func6, by kernel_rfl, by kernel_rfl⟩
  | 7, j, h => ⟨Go.Proofs.Try.f7, Go.Proofs.Try.func7, by kernel_rfl, by kernel_rfl⟩
  | 8, j, h => ⟨Go.Proofs.Try.f8, Go.Proofs.Try.func8, by kernel_rfl, by kernel_rfl⟩
  | 9, j, h => ⟨Go.Proofs.Try.f9, Go.Proofs.Try.func9, by kernel_rfl, by kernel_rfl⟩
  | 10, j, h => ⟨Go.Proofs.Try.f10, Go.Proofs.Try.func10, by kernel_rfl, by kernel_rfl⟩
  | 11, j, h => ⟨Go.Proofs.Try.f11, Go.Proofs.Try.func11, by kernel_rfl, by kernel_rfl⟩
  | 12, j, h => ⟨Go.Proofs.Try.f12, Go.Proofs.Try.func12, by kernel_rfl, by kernel_rfl⟩
  | 13, j, h => ⟨Go.Proofs.Try.f13, Go.Proofs.Try.func13, by kernel_rfl, by kernel_rfl⟩
  | 14, j, h => ⟨Go.Proofs.Try.f14, Go.Proofs.Try.func14, by kernel_rfl, by kernel_rfl⟩
  | 15, j, h => ⟨Go.Proofs.Try.f15, Go.Proofs.Try.func15, by kernel_rfl, by kernel_rfl⟩
  | 16, j, h => ⟨Go.Proofs.Try.f16, Go.Proofs.Try.func16, by kernel_rfl, by kernel_rfl⟩
  | 17, j, h => ⟨Go.Proofs.Try.f17, Go.Proofs.Try.func17, by kernel_rfl, by kernel_rfl⟩
  | 18, j, h => ⟨Go.Proofs.Try.f18, Go.Proofs.Try.func18, by kernel_rfl, by kernel_rfl⟩
  | 19, j, h => ⟨Go.Proofs.Try.f19, Go.Proofs.Try.func19, by kernel_rfl, by kernel_rfl⟩
  | 20, j, h => ⟨Go.Proofs.Try.f20, Go.Proofs.Try.func20, by kernel_rfl, by kernel_rfl⟩
  | 21, j, h => ⟨Go.Proofs.Try.f21, Go.Proofs.Try.func21, by kernel_rfl, by kernel_rfl⟩
  | 22, j, h => ⟨Go.Proofs.Try.f22, Go.Proofs.Try.func22, by kernel_rfl, by kernel_rfl⟩
  | 23, j, h => ⟨Go.Proofs.Try.f23, Go.Proofs.Try.func23, by kernel_rfl, by kernel_rfl⟩
  | 24, j, h => ⟨Go.Proofs.Try.f24, Go.Proofs.Try.func24, by kernel_rfl, by kernel_rfl⟩
  | 25, j, h => ⟨Go.Proofs.Try.f25, Go.Proofs.Try.func25, by kernel_rfl, by kernel_rfl⟩
  | 26, j, h => ⟨Go.Proofs.Try.f26, Go.Proofs.Try.func26, by kernel_rfl, by kernel_rfl⟩
  | 27, j, h => ⟨Go.Proofs.Try.f27, Go.Proofs.Try.func27, by kernel_rfl, by kernel_rfl⟩
  | 28, j, h => ⟨Go.Proofs.Try.f28, Go.Proofs.Try.func28, by kernel_rfl, by kernel_rfl⟩
  | 29, j, h => ⟨Go.Proofs.Try.f29, Go.Proofs.Try.func29, by kernel_rfl, by kernel_rfl⟩
  | 30, j, h => ⟨Go.Proofs.Try.f30, Go.Proofs.Try.func30, by kernel_rfl, by kernel_rfl⟩
  | 31, j, h => ⟨Go.Proofs.Try.f31, Go.Proofs.Try.func31, by kernel_rfl, by kernel_rfl⟩
  | 32, j, h => ⟨Go.Proofs.Try.f32, Go.Proofs.Try.func32, by kernel_rfl, by kernel_rfl⟩
  | 33, j, h => ⟨Go.Proofs.Try.f33, Go.Proofs.Try.func33, by kernel_rfl, by kernel_rfl⟩
  | 34, j, h => ⟨Go.Proofs.Try.f34, Go.Proofs.Try.func34, by kernel_rfl, by kernel_rfl⟩
  | 35, j, h => ⟨Go.Proofs.Try.f35, Go.Proofs.Try.func35, by kernel_rfl, by kernel_rfl⟩
  | 36, j, h => ⟨Go.Proofs.Try.f36, Go.Proofs.Try.func36, by kernel_rfl, by kernel_rfl⟩
  | 37, j, h => ⟨Go.Proofs.Try.f37, Go.Proofs.Try.func37, by kernel_rfl, by kernel_rfl⟩
  | 38, j, h => ⟨Go.Proofs.Try.f38, Go.Proofs.Try.func38, by kernel_rfl, by kernel_rfl⟩
  | 39, j, h => ⟨Go.Proofs.Try.f39, Go.Proofs.Try.func39, by kernel_rfl, by kernel_rfl⟩
  | 40, j, h => ⟨Go.Proofs.Try.f40, Go.Proofs.Try.func40, by kernel_rfl, by kernel_rfl⟩
  | 41, j, h => ⟨Go.Proofs.Try.f41, Go.Proofs.Try.func41, by kernel_rfl, by kernel_rfl⟩
  | 42, j, h => ⟨Go.Proofs.Try.f42, Go.Proofs.Try.func42, by kernel_rfl, by kernel_rfl⟩
  | 43, j, h => ⟨Go.Proofs.Try.f43, Go.Proofs.Try.func43, by kernel_rfl, by kernel_rfl⟩
  | 44, j, h => ⟨Go.Proofs.Try.f44, Go.Proofs.Try.func44, by kernel_rfl, by kernel_rfl⟩
  | 45, j, h => ⟨Go.Proofs.Try.f45, Go.Proofs.Try.func45, by kernel_rfl, by kernel_rfl⟩
  | 46, j, h => ⟨Go.Proofs.Try.f46, Go.Proofs.Try.func46, by kernel_rfl, by kernel_rfl⟩
  | 47, j, h => ⟨Go.Proofs.Try.f47, Go.Proofs.Try.func47, by kernel_rfl, by kernel_rfl⟩
  | 48, j, h => ⟨Go.Proofs.Try.f48, Go.Proofs.Try.func48, by kernel_rfl, by kernel_rfl⟩
  | 49, j, h => ⟨Go.Proofs.Try.f49, Go.Proofs.Try.func49, by kernel_rfl, by kernel_rfl⟩
  | 50, j, h => ⟨Go.Proofs.Try.f50, Go.Proofs.Try.func50, by kernel_rfl, by kernel_rfl⟩
  | 51, j, h => ⟨Go.Proofs.Try.f51, Go.Proofs.Try.func51, by kernel_rfl, by kernel_rfl⟩
  | 52, j, h => ⟨Go.Proofs.Try.f52, Go.Proofs.Try.func52, by kernel_rfl, by kernel_rfl⟩
  | 53, j, h => ⟨Go.Proofs.Try.f53, Go.Proofs.Try.func53, by kernel_rfl, by kernel_rfl⟩
  | 54, j, h => ⟨Go.Proofs.Try.f54, Go.Proofs.Try.func54, by kernel_rfl, by kernel_rfl⟩
  | 55, j, h => ⟨Go.Proofs.Try.f55, Go.Proofs.Try.func55, by kernel_rfl, by kernel_rfl⟩
  | 56, j, h => ⟨Go.Proofs.Try.f56, Go.Proofs.Try.func56, by kernel_rfl, by kernel_rfl⟩
  | 57, j, h => ⟨Go.Proofs.Try.f57, Go.Proofs.Try.func57, by kernel_rfl, by kernel_rfl⟩
  | 58, j, h => ⟨Go.Proofs.Try.f58, Go.Proofs.Try.func58, by kernel_rfl, by kernel_rfl⟩
  | 59, j, h => ⟨Go.Proofs.Try.f59, Go.Proofs.Try.func59, by kernel_rfl, by kernel_rfl⟩
  | 60, j, h => ⟨Go.Proofs.Try.f60, Go.Proofs.Try.func60, by kernel_rfl, by kernel_rfl⟩
  | 61, j, h => ⟨Go.Proofs.Try.f61, Go.Proofs.Try.func61, by kernel_rfl, by kernel_rfl⟩
  | 62, j, h => ⟨Go.Proofs.Try.f62, Go.Proofs.Try.func62, by kernel_rfl, by kernel_rfl⟩
  | 63, j, h => ⟨Go.Proofs.Try.f63, Go.Proofs.Try.func63, by kernel_rfl, by kernel_rfl⟩
  | 64, j, h => ⟨Go.Proofs.Try.f64, Go.Proofs.Try.func64, by kernel_rfl, by kernel_rfl⟩
  | 65, j, h => ⟨Go.Proofs.Try.f65, Go.Proofs.Try.func65, by kernel_rfl, by kernel_rfl⟩
  | 66, j, h => ⟨Go.Proofs.Try.f66, Go.Proofs.Try.func66, by kernel_rfl, by kernel_rfl⟩
  | 67, j, h => ⟨Go.Proofs.Try.f67, Go.Proofs.Try.func67, by kernel_rfl, by kernel_rfl⟩
  | 68, j, h => ⟨Go.Proofs.Try.f68, Go.Proofs.Try.func68, by kernel_rfl, by kernel_rfl⟩
  | 69, j, h => ⟨Go.Proofs.Try.f69, Go.Proofs.Try.func69, by kernel_rfl, by kernel_rfl⟩
  | 70, j, h => ⟨Go.Proofs.Try.f70, Go.Proofs.Try.func70, by kernel_rfl, by kernel_rfl⟩
  | 71, j, h => ⟨Go.Proofs.Try.f71, Go.Proofs.Try.func71, by kernel_rfl, by kernel_rfl⟩
  | 72, j, h => ⟨Go.Proofs.Try.f72, Go.Proofs.Try.func72, by kernel_rfl, by kernel_rfl⟩
  | 73, j, h => ⟨Go.Proofs.Try.f73, Go.Proofs.Try.func73, by kernel_rfl, by kernel_rfl⟩
  | 74, j, h => ⟨Go.Proofs.Try.f74, Go.Proofs.Try.func74, by kernel_rfl, by kernel_rfl⟩
  | 75, j, h => ⟨Go.Proofs.Try.f75, Go.Proofs.Try.func75, by kernel_rfl, by kernel_rfl⟩
  | 76, j, h => ⟨Go.Proofs.Try.f76, Go.Proofs.Try.func76, by kernel_rfl, by kernel_rfl⟩
  | 77, j, h => ⟨Go.Proofs.Try.f77, Go.Proofs.Try.func77, by kernel_rfl, by kernel_rfl⟩
  | 78, j, h => ⟨Go.Proofs.Try.f78, Go.Proofs.Try.func78, by kernel_rfl, by kernel_rfl⟩
  | 79, j, h => ⟨Go.Proofs.Try.f79, Go.Proofs.Try.func79, by kernel_rfl, by kernel_rfl⟩
  | 80, j, h => ⟨Go.Proofs.Try.f80, Go.Proofs.Try.func80, by kernel_rfl, by kernel_rfl⟩
  | 81, j, h => ⟨Go.Proofs.Try.f81, Go.Proofs.Try.func81, by kernel_rfl, by kernel_rfl⟩
  | 82, j, h => ⟨Go.Proofs.Try.f82, Go.Proofs.Try.func82, by kernel_rfl, by kernel_rfl⟩
  | 83, j, h => ⟨Go.Proofs.Try.f83, Go.Proofs.Try.func83, by kernel_rfl, by kernel_rfl⟩
  | 84, j, h => ⟨Go.Proofs.Try.f84, Go.Proofs.Try.func84, by kernel_rfl, by kernel_rfl⟩
  | 85, j, h => ⟨Go.Proofs.Try.f85, Go.Proofs.Try.func85, by kernel_rfl, by kernel_rfl⟩
  | 86, j, h => ⟨Go.Proofs.Try.f86, Go.Proofs.Try.func86, by kernel_rfl, by kernel_rfl⟩
  | 87, j, h => ⟨Go.Proofs.Try.f87, Go.Proofs.Try.func87, by kernel_rfl, by kernel_rfl⟩
  | 88, j, h => ⟨Go.Proofs.Try.f88, Go.Proofs.Try.func88, by kernel_rfl, by kernel_rfl⟩
  | 89, j, h => ⟨Go.Proofs.Try.f89, Go.Proofs.Try.func89, by kernel_rfl, by kernel_rfl⟩
  | 90, j, h => ⟨Go.Proofs.Try.f90, Go.Proofs.Try.func90, by kernel_rfl, by kernel_rfl⟩
  | 91, j, h => ⟨Go.Proofs.Try.f91, Go.Proofs.Try.func91, by kernel_rfl, by kernel_rfl⟩
  | 92, j, h => ⟨Go.Proofs.Try.f92, Go.Proofs.Try.func92, by kernel_rfl, by kernel_rfl⟩
  | 93, j, h => ⟨Go.Proofs.Try.f93, Go.Proofs.Try.func93, by kernel_rfl, by kernel_rfl⟩
  | 94, j, h => ⟨Go.Proofs.Try.f94, Go.Proofs.Try.func94, by kernel_rfl, by kernel_rfl⟩
  | 95, j, h => ⟨Go.Proofs.Try.f95, Go.Proofs.Try.func95, by kernel_rfl, by kernel_rfl⟩
  | 96, j, h => ⟨Go.Proofs.Try.f96, Go.Proofs.Try.func96, by kernel_rfl, by kernel_rfl⟩
  | 97, j, h => ⟨Go.Proofs.Try.f97, Go.Proofs.Try.func97, by kernel_rfl, by kernel_rfl⟩
  | 98, j, h => ⟨Go.Proofs.Try.f98, Go.Proofs.Try.func98, by kernel_rfl, by kernel_rfl⟩
  | 99, j, h => ⟨Go.Proofs.Try.f99, Go.Proofs.Try.func99, by kernel_rfl, by kernel_rfl⟩
  | 100, j, h => ⟨Go.Proofs.Try.f100, Go.Proofs.Try.func100, by kernel_rfl, by kernel_rfl⟩
  | 101, j, h => ⟨Go.Proofs.Try.f101, Go.Proofs.Try.func101, by kernel_rfl, by kernel_rfl⟩
  | 102, j, h => absurd h (by intro h; cases h)
  | 103, j, h => absurd h (by intro h; cases h)
  | 104, j, h => absurd h (by intro h; cases h)
  | 105, j, h => absurd h (by intro h; cases h)
  | 106, j, h => absurd h (by intro h; cases h)
  | 107, j, h => absurd h (by intro h; cases h)
  | 108, j, h => absurd h (by intro h; cases h)
  | 109, j, h => absurd h (by intro h; cases h)
  | 110, j, h => absurd h (by intro h; cases h)
  | 111, j, h => absurd h (by intro h; cases h)
  | 112, j, h => absurd h (by intro h; cases h)
  | 113, j, h => absurd h (by intro h; cases h)
  | 114, j, h => absurd h (by intro h; cases h)
  | 115, j, h => absurd h (by intro h; cases h)
  | 116, j, h => absurd h (by intro h; cases h)
  | 117, j, h => absurd h (by intro h; cases h)
  | 118, j, h => absurd h (by intro h; cases h)
  | g + 119, j, h => absurd h (by intro h; cases h)
theorem all : HasAll Go.Proofs.Try.prog inv := ⟨⟨by kernel_rfl, calls⟩, fun j F hc g hg => has g j F hg hc⟩
end
end Go.Eng.Try
