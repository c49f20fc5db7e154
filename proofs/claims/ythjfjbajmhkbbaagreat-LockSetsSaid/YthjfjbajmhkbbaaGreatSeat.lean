/-
  THE SEAT: its functions have the codes that the engine walks.
-/
import Derived.Test.YthjfjbajmhkbbaaGreatChecked
import Derived.Test.YthjfjbajmhkbbaaGreatK7
namespace Go.Eng.Tryz
def tab : List Nat := [0, 0, 0, 325, 284, 285, 326, 72, 9, 15, 152, 329, 11, 154, 330, 74, 286, 75, 287, 288, 66, 289, 68, 290, 78, 291, 79, 292, 70, 293, 157, 331, 159, 332, 10, 98, 169, 295, 334, 110, 170, 97, 171, 86, 87, 294, 88, 89, 71, 296, 80, 81, 82, 297, 92, 93, 298, 299, 300, 172, 173, 335, 313, 336, 32, 33, 34, 83, 84, 85, 301, 302, 94, 95, 303, 304, 305, 174, 181, 182, 183, 184, 310, 96, 91, 49, 306, 307, 308, 309, 311, 312, 111, 112, 113, 114, 115, 116, 117, 118, 119, 120, 121, 122, 314, 177, 190, 319, 316, 315, 50, 45, 27, 123, 124, 125, 126, 127, 101, 102, 103, 104, 105, 106, 107, 108, 109, 44, 55, 317, 318, 185, 51, 42, 47, 132, 133, 134, 135, 136, 137, 138, 130, 131, 17, 52, 53, 54, 142, 143, 144, 145, 146, 141, 43, 56, 0, 0, 0, 0, 0, 0, 0, 0, 0, 0, 0, 0, 0, 0, 0, 0, 0]
def inv (g : Nat) : Option Nat := match tab[g]? with | some (k + 1) => some k | _ => none
section
set_option maxRecDepth 100000
theorem e3 : zk8 Go.Proofs.Tryz.prog inv Go.Proofs.Tryz.f3 = some cd324 := by kernel_rfl
theorem e4 : zk8 Go.Proofs.Tryz.prog inv Go.Proofs.Tryz.f4 = some cd283 := by kernel_rfl
theorem e5 : zk8 Go.Proofs.Tryz.prog inv Go.Proofs.Tryz.f5 = some cd284 := by kernel_rfl
theorem e6 : zk8 Go.Proofs.Tryz.prog inv Go.Proofs.Tryz.f6 = some cd325 := by kernel_rfl
theorem e7 : zk8 Go.Proofs.Tryz.prog inv Go.Proofs.Tryz.f7 = some cd71 := by kernel_rfl
theorem e8 : zk8 Go.Proofs.Tryz.prog inv Go.Proofs.Tryz.f8 = some cd8 := by kernel_rfl
theorem e9 : zk8 Go.Proofs.Tryz.prog inv Go.Proofs.Tryz.f9 = some cd14 := by kernel_rfl
theorem e10 : zk8 Go.Proofs.Tryz.prog inv Go.Proofs.Tryz.f10 = some cd151 := by kernel_rfl
theorem e11 : zk8 Go.Proofs.Tryz.prog inv Go.Proofs.Tryz.f11 = some cd328 := by kernel_rfl
theorem e12 : zk8 Go.Proofs.Tryz.prog inv Go.Proofs.Tryz.f12 = some cd10 := by kernel_rfl
theorem e13 : zk8 Go.Proofs.Tryz.prog inv Go.Proofs.Tryz.f13 = some cd153 := by kernel_rfl
theorem e14 : zk8 Go.Proofs.Tryz.prog inv Go.Proofs.Tryz.f14 = some cd329 := by kernel_rfl
theorem e15 : zk8 Go.Proofs.Tryz.prog inv Go.Proofs.Tryz.f15 = some cd73 := by kernel_rfl
theorem e16 : zk8 Go.Proofs.Tryz.prog inv Go.Proofs.Tryz.f16 = some cd285 := by kernel_rfl
theorem e17 : zk8 Go.Proofs.Tryz.prog inv Go.Proofs.Tryz.f17 = some cd74 := by kernel_rfl
theorem e18 : zk8 Go.Proofs.Tryz.prog inv Go.Proofs.Tryz.f18 = some cd286 := by kernel_rfl
theorem e19 : zk8 Go.Proofs.Tryz.prog inv Go.Proofs.Tryz.f19 = some cd287 := by kernel_rfl
theorem e20 : zk8 Go.Proofs.Tryz.prog inv Go.Proofs.Tryz.f20 = some cd65 := by kernel_rfl
theorem e21 : zk8 Go.Proofs.Tryz.prog inv Go.Proofs.Tryz.f21 = some cd288 := by kernel_rfl
theorem e22 : zk8 Go.Proofs.Tryz.prog inv Go.Proofs.Tryz.f22 = some cd67 := by kernel_rfl
theorem e23 : zk8 Go.Proofs.Tryz.prog inv Go.Proofs.Tryz.f23 = some cd289 := by kernel_rfl
theorem e24 : zk8 Go.Proofs.Tryz.prog inv Go.Proofs.Tryz.f24 = some cd77 := by kernel_rfl
theorem e25 : zk8 Go.Proofs.Tryz.prog inv Go.Proofs.Tryz.f25 = some cd290 := by kernel_rfl
theorem e26 : zk8 Go.Proofs.Tryz.prog inv Go.Proofs.Tryz.f26 = some cd78 := by kernel_rfl
theorem e27 : zk8 Go.Proofs.Tryz.prog inv Go.Proofs.Tryz.f27 = some cd291 := by kernel_rfl
theorem e28 : zk8 Go.Proofs.Tryz.prog inv Go.Proofs.Tryz.f28 = some cd69 := by kernel_rfl
theorem e29 : zk8 Go.Proofs.Tryz.prog inv Go.Proofs.Tryz.f29 = some cd292 := by kernel_rfl
theorem e30 : zk8 Go.Proofs.Tryz.prog inv Go.Proofs.Tryz.f30 = some cd156 := by kernel_rfl
theorem e31 : zk8 Go.Proofs.Tryz.prog inv Go.Proofs.Tryz.f31 = some cd330 := by kernel_rfl
theorem e32 : zk8 Go.Proofs.Tryz.prog inv Go.Proofs.Tryz.f32 = some cd158 := by kernel_rfl
theorem e33 : zk8 Go.Proofs.Tryz.prog inv Go.Proofs.Tryz.f33 = some cd331 := by kernel_rfl
theorem e34 : zk8 Go.Proofs.Tryz.prog inv Go.Proofs.Tryz.f34 = some cd9 := by kernel_rfl
theorem e35 : zk8 Go.Proofs.Tryz.prog inv Go.Proofs.Tryz.f35 = some cd97 := by kernel_rfl
theorem e36 : zk8 Go.Proofs.Tryz.prog inv Go.Proofs.Tryz.f36 = some cd168 := by kernel_rfl
theorem e37 : zk8 Go.Proofs.Tryz.prog inv Go.Proofs.Tryz.f37 = some cd294 := by kernel_rfl
theorem e38 : zk8 Go.Proofs.Tryz.prog inv Go.Proofs.Tryz.f38 = some cd333 := by kernel_rfl
theorem e39 : zk8 Go.Proofs.Tryz.prog inv Go.Proofs.Tryz.f39 = some cd109 := by kernel_rfl
theorem e40 : zk8 Go.Proofs.Tryz.prog inv Go.Proofs.Tryz.f40 = some cd169 := by kernel_rfl
theorem e41 : zk8 Go.Proofs.Tryz.prog inv Go.Proofs.Tryz.f41 = some cd96 := by kernel_rfl
theorem e42 : zk8 Go.Proofs.Tryz.prog inv Go.Proofs.Tryz.f42 = some cd170 := by kernel_rfl
theorem e43 : zk8 Go.Proofs.Tryz.prog inv Go.Proofs.Tryz.f43 = some cd85 := by kernel_rfl
theorem e44 : zk8 Go.Proofs.Tryz.prog inv Go.Proofs.Tryz.f44 = some cd86 := by kernel_rfl
theorem e45 : zk8 Go.Proofs.Tryz.prog inv Go.Proofs.Tryz.f45 = some cd293 := by kernel_rfl
theorem e46 : zk8 Go.Proofs.Tryz.prog inv Go.Proofs.Tryz.f46 = some cd87 := by kernel_rfl
theorem e47 : zk8 Go.Proofs.Tryz.prog inv Go.Proofs.Tryz.f47 = some cd88 := by kernel_rfl
theorem e48 : zk8 Go.Proofs.Tryz.prog inv Go.Proofs.Tryz.f48 = some cd70 := by kernel_rfl
theorem e49 : zk8 Go.Proofs.Tryz.prog inv Go.Proofs.Tryz.f49 = some cd295 := by kernel_rfl
theorem e50 : zk8 Go.Proofs.Tryz.prog inv Go.Proofs.Tryz.f50 = some cd79 := by kernel_rfl
theorem e51 : zk8 Go.Proofs.Tryz.prog inv Go.Proofs.Tryz.f51 = some cd80 := by kernel_rfl
theorem e52 : zk8 Go.Proofs.Tryz.prog inv Go.Proofs.Tryz.f52 = some cd81 := by kernel_rfl
theorem e53 : zk8 Go.Proofs.Tryz.prog inv Go.Proofs.Tryz.f53 = some cd296 := by kernel_rfl
theorem e54 : zk8 Go.Proofs.Tryz.prog inv Go.Proofs.Tryz.f54 = some cd91 := by kernel_rfl
theorem e55 : zk8 Go.Proofs.Tryz.prog inv Go.Proofs.Tryz.f55 = some cd92 := by kernel_rfl
theorem e56 : zk8 Go.Proofs.Tryz.prog inv Go.Proofs.Tryz.f56 = some cd297 := by kernel_rfl
theorem e57 : zk8 Go.Proofs.Tryz.prog inv Go.Proofs.Tryz.f57 = some cd298 := by kernel_rfl
theorem e58 : zk8 Go.Proofs.Tryz.prog inv Go.Proofs.Tryz.f58 = some cd299 := by kernel_rfl
theorem e59 : zk8 Go.Proofs.Tryz.prog inv Go.Proofs.Tryz.f59 = some cd171 := by kernel_rfl
theorem e60 : zk8 Go.Proofs.Tryz.prog inv Go.Proofs.Tryz.f60 = some cd172 := by kernel_rfl
theorem e61 : zk8 Go.Proofs.Tryz.prog inv Go.Proofs.Tryz.f61 = some cd334 := by kernel_rfl
theorem e62 : zk8 Go.Proofs.Tryz.prog inv Go.Proofs.Tryz.f62 = some cd312 := by kernel_rfl
theorem e63 : zk8 Go.Proofs.Tryz.prog inv Go.Proofs.Tryz.f63 = some cd335 := by kernel_rfl
theorem e64 : zk8 Go.Proofs.Tryz.prog inv Go.Proofs.Tryz.f64 = some cd31 := by kernel_rfl
theorem e65 : zk8 Go.Proofs.Tryz.prog inv Go.Proofs.Tryz.f65 = some cd32 := by kernel_rfl
theorem e66 : zk8 Go.Proofs.Tryz.prog inv Go.Proofs.Tryz.f66 = some cd33 := by kernel_rfl
theorem e67 : zk8 Go.Proofs.Tryz.prog inv Go.Proofs.Tryz.f67 = some cd82 := by kernel_rfl
theorem e68 : zk8 Go.Proofs.Tryz.prog inv Go.Proofs.Tryz.f68 = some cd83 := by kernel_rfl
theorem e69 : zk8 Go.Proofs.Tryz.prog inv Go.Proofs.Tryz.f69 = some cd84 := by kernel_rfl
theorem e70 : zk8 Go.Proofs.Tryz.prog inv Go.Proofs.Tryz.f70 = some cd300 := by kernel_rfl
theorem e71 : zk8 Go.Proofs.Tryz.prog inv Go.Proofs.Tryz.f71 = some cd301 := by kernel_rfl
theorem e72 : zk8 Go.Proofs.Tryz.prog inv Go.Proofs.Tryz.f72 = some cd93 := by kernel_rfl
theorem e73 : zk8 Go.Proofs.Tryz.prog inv Go.Proofs.Tryz.f73 = some cd94 := by kernel_rfl
theorem e74 : zk8 Go.Proofs.Tryz.prog inv Go.Proofs.Tryz.f74 = some cd302 := by kernel_rfl
theorem e75 : zk8 Go.Proofs.Tryz.prog inv Go.Proofs.Tryz.f75 = some cd303 := by kernel_rfl
theorem e76 : zk8 Go.Proofs.Tryz.prog inv Go.Proofs.Tryz.f76 = some cd304 := by kernel_rfl
theorem e77 : zk8 Go.Proofs.Tryz.prog inv Go.Proofs.Tryz.f77 = some cd173 := by kernel_rfl
theorem e78 : zk8 Go.Proofs.Tryz.prog inv Go.Proofs.Tryz.f78 = some cd180 := by kernel_rfl
theorem e79 : zk8 Go.Proofs.Tryz.prog inv Go.Proofs.Tryz.f79 = some cd181 := by kernel_rfl
theorem e80 : zk8 Go.Proofs.Tryz.prog inv Go.Proofs.Tryz.f80 = some cd182 := by kernel_rfl
theorem e81 : zk8 Go.Proofs.Tryz.prog inv Go.Proofs.Tryz.f81 = some cd183 := by kernel_rfl
theorem e82 : zk8 Go.Proofs.Tryz.prog inv Go.Proofs.Tryz.f82 = some cd309 := by kernel_rfl
theorem e83 : zk8 Go.Proofs.Tryz.prog inv Go.Proofs.Tryz.f83 = some cd95 := by kernel_rfl
theorem e84 : zk8 Go.Proofs.Tryz.prog inv Go.Proofs.Tryz.f84 = some cd90 := by kernel_rfl
theorem e85 : zk8 Go.Proofs.Tryz.prog inv Go.Proofs.Tryz.f85 = some cd48 := by kernel_rfl
theorem e86 : zk8 Go.Proofs.Tryz.prog inv Go.Proofs.Tryz.f86 = some cd305 := by kernel_rfl
theorem e87 : zk8 Go.Proofs.Tryz.prog inv Go.Proofs.Tryz.f87 = some cd306 := by kernel_rfl
theorem e88 : zk8 Go.Proofs.Tryz.prog inv Go.Proofs.Tryz.f88 = some cd307 := by kernel_rfl
theorem e89 : zk8 Go.Proofs.Tryz.prog inv Go.Proofs.Tryz.f89 = some cd308 := by kernel_rfl
theorem e90 : zk8 Go.Proofs.Tryz.prog inv Go.Proofs.Tryz.f90 = some cd310 := by kernel_rfl
theorem e91 : zk8 Go.Proofs.Tryz.prog inv Go.Proofs.Tryz.f91 = some cd311 := by kernel_rfl
theorem e92 : zk8 Go.Proofs.Tryz.prog inv Go.Proofs.Tryz.f92 = some cd110 := by kernel_rfl
theorem e93 : zk8 Go.Proofs.Tryz.prog inv Go.Proofs.Tryz.f93 = some cd111 := by kernel_rfl
theorem e94 : zk8 Go.Proofs.Tryz.prog inv Go.Proofs.Tryz.f94 = some cd112 := by kernel_rfl
theorem e95 : zk8 Go.Proofs.Tryz.prog inv Go.Proofs.Tryz.f95 = some cd113 := by kernel_rfl
theorem e96 : zk8 Go.Proofs.Tryz.prog inv Go.Proofs.Tryz.f96 = some cd114 := by kernel_rfl
theorem e97 : zk8 Go.Proofs.Tryz.prog inv Go.Proofs.Tryz.f97 = some cd115 := by kernel_rfl
theorem e98 : zk8 Go.Proofs.Tryz.prog inv Go.Proofs.Tryz.f98 = some cd116 := by kernel_rfl
theorem e99 : zk8 Go.Proofs.Tryz.prog inv Go.Proofs.Tryz.f99 = some cd117 := by kernel_rfl
theorem e100 : zk8 Go.Proofs.Tryz.prog inv Go.Proofs.Tryz.f100 = some cd118 := by kernel_rfl
theorem e101 : zk8 Go.Proofs.Tryz.prog inv Go.Proofs.Tryz.f101 = some cd119 := by kernel_rfl
theorem e102 : zk8 Go.Proofs.Tryz.prog inv Go.Proofs.Tryz.f102 = some cd120 := by kernel_rfl
theorem e103 : zk8 Go.Proofs.Tryz.prog inv Go.Proofs.Tryz.f103 = some cd121 := by kernel_rfl
theorem e104 : zk8 Go.Proofs.Tryz.prog inv Go.Proofs.Tryz.f104 = some cd313 := by kernel_rfl
theorem e105 : zk8 Go.Proofs.Tryz.prog inv Go.Proofs.Tryz.f105 = some cd176 := by kernel_rfl
theorem e106 : zk8 Go.Proofs.Tryz.prog inv Go.Proofs.Tryz.f106 = some cd189 := by kernel_rfl
theorem e107 : zk8 Go.Proofs.Tryz.prog inv Go.Proofs.Tryz.f107 = some cd318 := by kernel_rfl
theorem e108 : zk8 Go.Proofs.Tryz.prog inv Go.Proofs.Tryz.f108 = some cd315 := by kernel_rfl
theorem e109 : zk8 Go.Proofs.Tryz.prog inv Go.Proofs.Tryz.f109 = some cd314 := by kernel_rfl
theorem e110 : zk8 Go.Proofs.Tryz.prog inv Go.Proofs.Tryz.f110 = some cd49 := by kernel_rfl
theorem e111 : zk8 Go.Proofs.Tryz.prog inv Go.Proofs.Tryz.f111 = some cd44 := by kernel_rfl
theorem e112 : zk8 Go.Proofs.Tryz.prog inv Go.Proofs.Tryz.f112 = some cd26 := by kernel_rfl
theorem e113 : zk8 Go.Proofs.Tryz.prog inv Go.Proofs.Tryz.f113 = some cd122 := by kernel_rfl
theorem e114 : zk8 Go.Proofs.Tryz.prog inv Go.Proofs.Tryz.f114 = some cd123 := by kernel_rfl
theorem e115 : zk8 Go.Proofs.Tryz.prog inv Go.Proofs.Tryz.f115 = some cd124 := by kernel_rfl
theorem e116 : zk8 Go.Proofs.Tryz.prog inv Go.Proofs.Tryz.f116 = some cd125 := by kernel_rfl
theorem e117 : zk8 Go.Proofs.Tryz.prog inv Go.Proofs.Tryz.f117 = some cd126 := by kernel_rfl
theorem e118 : zk8 Go.Proofs.Tryz.prog inv Go.Proofs.Tryz.f118 = some cd100 := by kernel_rfl
theorem e119 : zk8 Go.Proofs.Tryz.prog inv Go.Proofs.Tryz.f119 = some cd101 := by kernel_rfl
theorem e120 : zk8 Go.Proofs.Tryz.prog inv Go.Proofs.Tryz.f120 = some cd102 := by kernel_rfl
theorem e121 : zk8 Go.Proofs.Tryz.prog inv Go.Proofs.Tryz.f121 = some cd103 := by kernel_rfl
theorem e122 : zk8 Go.Proofs.Tryz.prog inv Go.Proofs.Tryz.f122 = some cd104 := by kernel_rfl
theorem e123 : zk8 Go.Proofs.Tryz.prog inv Go.Proofs.Tryz.f123 = some cd105 := by kernel_rfl
theorem e124 : zk8 Go.Proofs.Tryz.prog inv Go.Proofs.Tryz.f124 = some cd106 := by kernel_rfl
theorem e125 : zk8 Go.Proofs.Tryz.prog inv Go.Proofs.Tryz.f125 = some cd107 := by kernel_rfl
theorem e126 : zk8 Go.Proofs.Tryz.prog inv Go.Proofs.Tryz.f126 = some cd108 := by kernel_rfl
theorem e127 : zk8 Go.Proofs.Tryz.prog inv Go.Proofs.Tryz.f127 = some cd43 := by kernel_rfl
theorem e128 : zk8 Go.Proofs.Tryz.prog inv Go.Proofs.Tryz.f128 = some cd54 := by kernel_rfl
theorem e129 : zk8 Go.Proofs.Tryz.prog inv Go.Proofs.Tryz.f129 = some cd316 := by kernel_rfl
theorem e130 : zk8 Go.Proofs.Tryz.prog inv Go.Proofs.Tryz.f130 = some cd317 := by kernel_rfl
theorem e131 : zk8 Go.Proofs.Tryz.prog inv Go.Proofs.Tryz.f131 = some cd184 := by kernel_rfl
theorem e132 : zk8 Go.Proofs.Tryz.prog inv Go.Proofs.Tryz.f132 = some cd50 := by kernel_rfl
theorem e133 : zk8 Go.Proofs.Tryz.prog inv Go.Proofs.Tryz.f133 = some cd41 := by kernel_rfl
theorem e134 : zk8 Go.Proofs.Tryz.prog inv Go.Proofs.Tryz.f134 = some cd46 := by kernel_rfl
theorem e135 : zk8 Go.Proofs.Tryz.prog inv Go.Proofs.Tryz.f135 = some cd131 := by kernel_rfl
theorem e136 : zk8 Go.Proofs.Tryz.prog inv Go.Proofs.Tryz.f136 = some cd132 := by kernel_rfl
theorem e137 : zk8 Go.Proofs.Tryz.prog inv Go.Proofs.Tryz.f137 = some cd133 := by kernel_rfl
theorem e138 : zk8 Go.Proofs.Tryz.prog inv Go.Proofs.Tryz.f138 = some cd134 := by kernel_rfl
theorem e139 : zk8 Go.Proofs.Tryz.prog inv Go.Proofs.Tryz.f139 = some cd135 := by kernel_rfl
theorem e140 : zk8 Go.Proofs.Tryz.prog inv Go.Proofs.Tryz.f140 = some cd136 := by kernel_rfl
theorem e141 : zk8 Go.Proofs.Tryz.prog inv Go.Proofs.Tryz.f141 = some cd137 := by kernel_rfl
theorem e142 : zk8 Go.Proofs.Tryz.prog inv Go.Proofs.Tryz.f142 = some cd129 := by kernel_rfl
theorem e143 : zk8 Go.Proofs.Tryz.prog inv Go.Proofs.Tryz.f143 = some cd130 := by kernel_rfl
theorem e144 : zk8 Go.Proofs.Tryz.prog inv Go.Proofs.Tryz.f144 = some cd16 := by kernel_rfl
theorem e145 : zk8 Go.Proofs.Tryz.prog inv Go.Proofs.Tryz.f145 = some cd51 := by kernel_rfl
theorem e146 : zk8 Go.Proofs.Tryz.prog inv Go.Proofs.Tryz.f146 = some cd52 := by kernel_rfl
theorem e147 : zk8 Go.Proofs.Tryz.prog inv Go.Proofs.Tryz.f147 = some cd53 := by kernel_rfl
theorem e148 : zk8 Go.Proofs.Tryz.prog inv Go.Proofs.Tryz.f148 = some cd141 := by kernel_rfl
theorem e149 : zk8 Go.Proofs.Tryz.prog inv Go.Proofs.Tryz.f149 = some cd142 := by kernel_rfl
theorem e150 : zk8 Go.Proofs.Tryz.prog inv Go.Proofs.Tryz.f150 = some cd143 := by kernel_rfl
theorem e151 : zk8 Go.Proofs.Tryz.prog inv Go.Proofs.Tryz.f151 = some cd144 := by kernel_rfl
theorem e152 : zk8 Go.Proofs.Tryz.prog inv Go.Proofs.Tryz.f152 = some cd145 := by kernel_rfl
theorem e153 : zk8 Go.Proofs.Tryz.prog inv Go.Proofs.Tryz.f153 = some cd140 := by kernel_rfl
theorem e154 : zk8 Go.Proofs.Tryz.prog inv Go.Proofs.Tryz.f154 = some cd42 := by kernel_rfl
theorem e155 : zk8 Go.Proofs.Tryz.prog inv Go.Proofs.Tryz.f155 = some cd55 := by kernel_rfl
theorem has : ∀ (g j : Nat) (F : AFn), inv g = some j → code j = some F → ∃ fn, Go.Proofs.Tryz.prog.funcs[g]? = some fn ∧ zk8 Go.Proofs.Tryz.prog inv fn = some F
  | 0, j, F, h, hc => absurd h (by intro h; cases h)
  | 1, j, F, h, hc => absurd h (by intro h; cases h)
  | 2, j, F, h, hc => absurd h (by intro h; cases h)
  | 3, j, F, h, hc => by
    obtain rfl : 324 = j := Option.some.inj h
    obtain rfl : cd324 = F := Option.some.inj hc
    exact ⟨Go.Proofs.Tryz.f3, Go.Proofs.Tryz.func3, e3⟩
  | 4, j, F, h, hc => by
    obtain rfl : 283 = j := Option.some.inj h
    obtain rfl : cd283 = F := Option.some.inj hc
    exact ⟨Go.Proofs.Tryz.f4, Go.Proofs.Tryz.func4, e4⟩
  | 5, j, F, h, hc => by
    obtain rfl : 284 = j := Option.some.inj h
    obtain rfl : cd284 = F := Option.some.inj hc
    exact ⟨Go.Proofs.Tryz.f5, Go.Proofs.Tryz.func5, e5⟩
  | 6, j, F, h, hc => by
    obtain rfl : 325 = j := Option.some.inj h
    obtain rfl : cd325 = F := Option.some.inj hc
    exact ⟨Go.Proofs.Tryz.f6, Go.Proofs.Tryz.func6, e6⟩
  | 7, j, F, h, hc => by
    obtain rfl : 71 = j := Option.some.inj h
    obtain rfl : cd71 = F := Option.some.inj hc
    exact ⟨Go.Proofs.Tryz.f7, Go.Proofs.Tryz.func7, e7⟩
  | 8, j, F, h, hc => by
    obtain rfl : 8 = j := Option.some.inj h
    obtain rfl : cd8 = F := Option.some.inj hc
    exact ⟨Go.Proofs.Tryz.f8, Go.Proofs.Tryz.func8, e8⟩
  | 9, j, F, h, hc => by
    obtain rfl : 14 = j := Option.some.inj h
    obtain rfl : cd14 = F := Option.some.inj hc
    exact ⟨Go.Proofs.Tryz.f9, Go.Proofs.Tryz.func9, e9⟩
  | 10, j, F, h, hc => by
    obtain rfl : 151 = j := Option.some.inj h
    obtain rfl : cd151 = F := Option.some.inj hc
    exact ⟨Go.Proofs.Tryz.f10, Go.Proofs.Tryz.func10, e10⟩
  | 11, j, F, h, hc => by
    obtain rfl : 328 = j := Option.some.inj h
    obtain rfl : cd328 = F := Option.some.inj hc
    exact ⟨Go.Proofs.Tryz.f11, Go.Proofs.Tryz.func11, e11⟩
  | 12, j, F, h, hc => by
    obtain rfl : 10 = j := Option.some.inj h
    obtain rfl : cd10 = F := Option.some.inj hc
    exact ⟨Go.Proofs.Tryz.f12, Go.Proofs.Tryz.func12, e12⟩
  | 13, j, F, h, hc => by
    obtain rfl : 153 = j := Option.some.inj h
    obtain rfl : cd153 = F := Option.some.inj hc
    exact ⟨Go.Proofs.Tryz.f13, Go.Proofs.Tryz.func13, e13⟩
  | 14, j, F, h, hc => by
    obtain rfl : 329 = j := Option.some.inj h
    obtain rfl : cd329 = F := Option.some.inj hc
    exact ⟨Go.Proofs.Tryz.f14, Go.Proofs.Tryz.func14, e14⟩
  | 15, j, F, h, hc => by
    obtain rfl : 73 = j := Option.some.inj h
    obtain rfl : cd73 = F := Option.some.inj hc
    exact ⟨Go.Proofs.Tryz.f15, Go.Proofs.Tryz.func15, e15⟩
  | 16, j, F, h, hc => by
    obtain rfl : 285 = j := Option.some.inj h
    obtain rfl : cd285 = F := Option.some.inj hc
    exact ⟨Go.Proofs.Tryz.f16, Go.Proofs.Tryz.func16, e16⟩
  | 17, j, F, h, hc => by
    obtain rfl : 74 = j := Option.some.inj h
    obtain rfl : cd74 = F := Option.some.inj hc
    exact ⟨Go.Proofs.Tryz.f17, Go.Proofs.Tryz.func17, e17⟩
  | 18, j, F, h, hc => by
    obtain rfl : 286 = j := Option.some.inj h
    obtain rfl : cd286 = F := Option.some.inj hc
    exact ⟨Go.Proofs.Tryz.f18, Go.Proofs.Tryz.func18, e18⟩
  | 19, j, F, h, hc => by
    obtain rfl : 287 = j := Option.some.inj h
    obtain rfl : cd287 = F := Option.some.inj hc
    exact ⟨Go.Proofs.Tryz.f19, Go.Proofs.Tryz.func19, e19⟩
  | 20, j, F, h, hc => by
    obtain rfl : 65 = j := Option.some.inj h
    obtain rfl : cd65 = F := Option.some.inj hc
    exact ⟨Go.Proofs.Tryz.f20, Go.Proofs.Tryz.func20, e20⟩
  | 21, j, F, h, hc => by
    obtain rfl : 288 = j := Option.some.inj h
    obtain rfl : cd288 = F := Option.some.inj hc
    exact ⟨Go.Proofs.Tryz.f21, Go.Proofs.Tryz.func21, e21⟩
  | 22, j, F, h, hc => by
    obtain rfl : 67 = j := Option.some.inj h
    obtain rfl : cd67 = F := Option.some.inj hc
    exact ⟨Go.Proofs.Tryz.f22, Go.Proofs.Tryz.func22, e22⟩
  | 23, j, F, h, hc => by
    obtain rfl : 289 = j := Option.some.inj h
    obtain rfl : cd289 = F := Option.some.inj hc
    exact ⟨Go.Proofs.Tryz.f23, Go.Proofs.Tryz.func23, e23⟩
  | 24, j, F, h, hc => by
    obtain rfl : 77 = j := Option.some.inj h
    obtain rfl : cd77 = F := Option.some.inj hc
    exact ⟨Go.Proofs.Tryz.f24, Go.Proofs.Tryz.func24, e24⟩
  | 25, j, F, h, hc => by
    obtain rfl : 290 = j := Option.some.inj h
    obtain rfl : cd290 = F := Option.some.inj hc
    exact ⟨Go.Proofs.Tryz.f25, Go.Proofs.Tryz.func25, e25⟩
  | 26, j, F, h, hc => by
    obtain rfl : 78 = j := Option.some.inj h
    obtain rfl : cd78 = F := Option.some.inj hc
    exact ⟨Go.Proofs.Tryz.f26, Go.Proofs.Tryz.func26, e26⟩
  | 27, j, F, h, hc => by
    obtain rfl : 291 = j := Option.some.inj h
    obtain rfl : cd291 = F := Option.some.inj hc
    exact ⟨Go.Proofs.Tryz.f27, Go.Proofs.Tryz.func27, e27⟩
  | 28, j, F, h, hc => by
    obtain rfl : 69 = j := Option.some.inj h
    obtain rfl : cd69 = F := Option.some.inj hc
    exact ⟨Go.Proofs.Tryz.f28, Go.Proofs.Tryz.func28, e28⟩
  | 29, j, F, h, hc => by
    obtain rfl : 292 = j := Option.some.inj h
    obtain rfl : cd292 = F := Option.some.inj hc
    exact ⟨Go.Proofs.Tryz.f29, Go.Proofs.Tryz.func29, e29⟩
  | 30, j, F, h, hc => by
    obtain rfl : 156 = j := Option.some.inj h
    obtain rfl : cd156 = F := Option.some.inj hc
    exact ⟨Go.Proofs.Tryz.f30, Go.Proofs.Tryz.func30, e30⟩
  | 31, j, F, h, hc => by
    obtain rfl : 330 = j := Option.some.inj h
    obtain rfl : cd330 = F := Option.some.inj hc
    exact ⟨Go.Proofs.Tryz.f31, Go.Proofs.Tryz.func31, e31⟩
  | 32, j, F, h, hc => by
    obtain rfl : 158 = j := Option.some.inj h
    obtain rfl : cd158 = F := Option.some.inj hc
    exact ⟨Go.Proofs.Tryz.f32, Go.Proofs.Tryz.func32, e32⟩
  | 33, j, F, h, hc => by
    obtain rfl : 331 = j := Option.some.inj h
    obtain rfl : cd331 = F := Option.some.inj hc
    exact ⟨Go.Proofs.Tryz.f33, Go.Proofs.Tryz.func33, e33⟩
  | 34, j, F, h, hc => by
    obtain rfl : 9 = j := Option.some.inj h
    obtain rfl : cd9 = F := Option.some.inj hc
    exact ⟨Go.Proofs.Tryz.f34, Go.Proofs.Tryz.func34, e34⟩
  | 35, j, F, h, hc => by
    obtain rfl : 97 = j := Option.some.inj h
    obtain rfl : cd97 = F := Option.some.inj hc
    exact ⟨Go.Proofs.Tryz.f35, Go.Proofs.Tryz.func35, e35⟩
  | 36, j, F, h, hc => by
    obtain rfl : 168 = j := Option.some.inj h
    obtain rfl : cd168 = F := Option.some.inj hc
    exact ⟨Go.Proofs.Tryz.f36, Go.Proofs.Tryz.func36, e36⟩
  | 37, j, F, h, hc => by
    obtain rfl : 294 = j := Option.some.inj h
    obtain rfl : cd294 = F := Option.some.inj hc
    exact ⟨Go.Proofs.Tryz.f37, Go.Proofs.Tryz.func37, e37⟩
  | 38, j, F, h, hc => by
    obtain rfl : 333 = j := Option.some.inj h
    obtain rfl : cd333 = F := Option.some.inj hc
    exact ⟨Go.Proofs.Tryz.f38, Go.Proofs.Tryz.func38, e38⟩
  | 39, j, F, h, hc => by
    obtain rfl : 109 = j := Option.some.inj h
    obtain rfl : cd109 = F := Option.some.inj hc
    exact ⟨Go.Proofs.Tryz.f39, Go.Proofs.Tryz.func39, e39⟩
  | 40, j, F, h, hc => by
    obtain rfl : 169 = j := Option.some.inj h
    obtain rfl : cd169 = F := Option.some.inj hc
    exact ⟨Go.Proofs.Tryz.f40, Go.Proofs.Tryz.func40, e40⟩
  | 41, j, F, h, hc => by
    obtain rfl : 96 = j := Option.some.inj h
    obtain rfl : cd96 = F := Option.some.inj hc
    exact ⟨Go.Proofs.Tryz.f41, Go.Proofs.Tryz.func41, e41⟩
  | 42, j, F, h, hc => by
    obtain rfl : 170 = j := Option.some.inj h
    obtain rfl : cd170 = F := Option.some.inj hc
    exact ⟨Go.Proofs.Tryz.f42, Go.Proofs.Tryz.func42, e42⟩
  | 43, j, F, h, hc => by
    obtain rfl : 85 = j := Option.some.inj h
    obtain rfl : cd85 = F := Option.some.inj hc
    exact ⟨Go.Proofs.Tryz.f43, Go.Proofs.Tryz.func43, e43⟩
  | 44, j, F, h, hc => by
    obtain rfl : 86 = j := Option.some.inj h
    obtain rfl : cd86 = F := Option.some.inj hc
    exact ⟨Go.Proofs.Tryz.f44, Go.Proofs.Tryz.func44, e44⟩
  | 45, j, F, h, hc => by
    obtain rfl : 293 = j := Option.some.inj h
    obtain rfl : cd293 = F := Option.some.inj hc
    exact ⟨Go.Proofs.Tryz.f45, Go.Proofs.Tryz.func45, e45⟩
  | 46, j, F, h, hc => by
    obtain rfl : 87 = j := Option.some.inj h
    obtain rfl : cd87 = F := Option.some.inj hc
    exact ⟨Go.Proofs.Tryz.f46, Go.Proofs.Tryz.func46, e46⟩
  | 47, j, F, h, hc => by
    obtain rfl : 88 = j := Option.some.inj h
    obtain rfl : cd88 = F := Option.some.inj hc
    exact ⟨Go.Proofs.Tryz.f47, Go.Proofs.Tryz.func47, e47⟩
  | 48, j, F, h, hc => by
    obtain rfl : 70 = j := Option.some.inj h
    obtain rfl : cd70 = F := Option.some.inj hc
    exact ⟨Go.Proofs.Tryz.f48, Go.Proofs.Tryz.func48, e48⟩
  | 49, j, F, h, hc => by
    obtain rfl : 295 = j := Option.some.inj h
    obtain rfl : cd295 = F := Option.some.inj hc
    exact ⟨Go.Proofs.Tryz.f49, Go.Proofs.Tryz.func49, e49⟩
  | 50, j, F, h, hc => by
    obtain rfl : 79 = j := Option.some.inj h
    obtain rfl : cd79 = F := Option.some.inj hc
    exact ⟨Go.Proofs.Tryz.f50, Go.Proofs.Tryz.func50, e50⟩
  | 51, j, F, h, hc => by
    obtain rfl : 80 = j := Option.some.inj h
    obtain rfl : cd80 = F := Option.some.inj hc
    exact ⟨Go.Proofs.Tryz.f51, Go.Proofs.Tryz.func51, e51⟩
  | 52, j, F, h, hc => by
    obtain rfl : 81 = j := Option.some.inj h
    obtain rfl : cd81 = F := Option.some.inj hc
    exact ⟨Go.Proofs.Tryz.f52, Go.Proofs.Tryz.func52, e52⟩
  | 53, j, F, h, hc => by
    obtain rfl : 296 = j := Option.some.inj h
    obtain rfl : cd296 = F := Option.some.inj hc
    exact ⟨Go.Proofs.Tryz.f53, Go.Proofs.Tryz.func53, e53⟩
  | 54, j, F, h, hc => by
    obtain rfl : 91 = j := Option.some.inj h
    obtain rfl : cd91 = F := Option.some.inj hc
    exact ⟨Go.Proofs.Tryz.f54, Go.Proofs.Tryz.func54, e54⟩
  | 55, j, F, h, hc => by
    obtain rfl : 92 = j := Option.some.inj h
    obtain rfl : cd92 = F := Option.some.inj hc
    exact ⟨Go.Proofs.Tryz.f55, Go.Proofs.Tryz.func55, e55⟩
  | 56, j, F, h, hc => by
    obtain rfl : 297 = j := Option.some.inj h
    obtain rfl : cd297 = F := Option.some.inj hc
    exact ⟨Go.Proofs.Tryz.f56, Go.Proofs.Tryz.func56, e56⟩
  | 57, j, F, h, hc => by
    obtain rfl : 298 = j := Option.some.inj h
    obtain rfl : cd298 = F := Option.some.inj hc
    exact ⟨Go.Proofs.Tryz.f57, Go.Proofs.Tryz.func57, e57⟩
  | 58, j, F, h, hc => by
    obtain rfl : 299 = j := Option.some.inj h
    obtain rfl : cd299 = F := Option.some.inj hc
    exact ⟨Go.Proofs.Tryz.f58, Go.Proofs.Tryz.func58, e58⟩
  | 59, j, F, h, hc => by
    obtain rfl : 171 = j := Option.some.inj h
    obtain rfl : cd171 = F := Option.some.inj hc
    exact ⟨Go.Proofs.Tryz.f59, Go.Proofs.Tryz.func59, e59⟩
  | 60, j, F, h, hc => by
    obtain rfl : 172 = j := Option.some.inj h
    obtain rfl : cd172 = F := Option.some.inj hc
    exact ⟨Go.Proofs.Tryz.f60, Go.Proofs.Tryz.func60, e60⟩
  | 61, j, F, h, hc => by
    obtain rfl : 334 = j := Option.some.inj h
    obtain rfl : cd334 = F := Option.some.inj hc
    exact ⟨Go.Proofs.Tryz.f61, Go.Proofs.Tryz.func61, e61⟩
  | 62, j, F, h, hc => by
    obtain rfl : 312 = j := Option.some.inj h
    obtain rfl : cd312 = F := Option.some.inj hc
    exact ⟨Go.Proofs.Tryz.f62, Go.Proofs.Tryz.func62, e62⟩
  | 63, j, F, h, hc => by
    obtain rfl : 335 = j := Option.some.inj h
    obtain rfl : cd335 = F := Option.some.inj hc
    exact ⟨Go.Proofs.Tryz.f63, Go.Proofs.Tryz.func63, e63⟩
  | 64, j, F, h, hc => by
    obtain rfl : 31 = j := Option.some.inj h
    obtain rfl : cd31 = F := Option.some.inj hc
    exact ⟨Go.Proofs.Tryz.f64, Go.Proofs.Tryz.func64, e64⟩
  | 65, j, F, h, hc => by
    obtain rfl : 32 = j := Option.some.inj h
    obtain rfl : cd32 = F := Option.some.inj hc
    exact ⟨Go.Proofs.Tryz.f65, Go.Proofs.Tryz.func65, e65⟩
  | 66, j, F, h, hc => by
    obtain rfl : 33 = j := Option.some.inj h
    obtain rfl : cd33 = F := Option.some.inj hc
    exact ⟨Go.Proofs.Tryz.f66, Go.Proofs.Tryz.func66, e66⟩
  | 67, j, F, h, hc => by
    obtain rfl : 82 = j := Option.some.inj h
    obtain rfl : cd82 = F := Option.some.inj hc
    exact ⟨Go.Proofs.Tryz.f67, Go.Proofs.Tryz.func67, e67⟩
  | 68, j, F, h, hc => by
    obtain rfl : 83 = j := Option.some.inj h
    obtain rfl : cd83 = F := Option.some.inj hc
    exact ⟨Go.Proofs.Tryz.f68, Go.Proofs.Tryz.func68, e68⟩
  | 69, j, F, h, hc => by
    obtain rfl : 84 = j := Option.some.inj h
    obtain rfl : cd84 = F := Option.some.inj hc
    exact ⟨Go.Proofs.Tryz.f69, Go.Proofs.Tryz.func69, e69⟩
  | 70, j, F, h, hc => by
    obtain rfl : 300 = j := Option.some.inj h
    obtain rfl : cd300 = F := Option.some.inj hc
    exact ⟨Go.Proofs.Tryz.f70, Go.Proofs.Tryz.func70, e70⟩
  | 71, j, F, h, hc => by
    obtain rfl : 301 = j := Option.some.inj h
    obtain rfl : cd301 = F := Option.some.inj hc
    exact ⟨Go.Proofs.Tryz.f71, Go.Proofs.Tryz.func71, e71⟩
  | 72, j, F, h, hc => by
    obtain rfl : 93 = j := Option.some.inj h
    obtain rfl : cd93 = F := Option.some.inj hc
    exact ⟨Go.Proofs.Tryz.f72, Go.Proofs.Tryz.func72, e72⟩
  | 73, j, F, h, hc => by
    obtain rfl : 94 = j := Option.some.inj h
    obtain rfl : cd94 = F := Option.some.inj hc
    exact ⟨Go.Proofs.Tryz.f73, Go.Proofs.Tryz.func73, e73⟩
  | 74, j, F, h, hc => by
    obtain rfl : 302 = j := Option.some.inj h
    obtain rfl : cd302 = F := Option.some.inj hc
    exact ⟨Go.Proofs.Tryz.f74, Go.Proofs.Tryz.func74, e74⟩
  | 75, j, F, h, hc => by
    obtain rfl : 303 = j := Option.some.inj h
    obtain rfl : cd303 = F := Option.some.inj hc
    exact ⟨Go.Proofs.Tryz.f75, Go.Proofs.Tryz.func75, e75⟩
  | 76, j, F, h, hc => by
    obtain rfl : 304 = j := Option.some.inj h
    obtain rfl : cd304 = F := Option.some.inj hc
    exact ⟨Go.Proofs.Tryz.f76, Go.Proofs.Tryz.func76, e76⟩
  | 77, j, F, h, hc => by
    obtain rfl : 173 = j := Option.some.inj h
    obtain rfl : cd173 = F := Option.some.inj hc
    exact ⟨Go.Proofs.Tryz.f77, Go.Proofs.Tryz.func77, e77⟩
  | 78, j, F, h, hc => by
    obtain rfl : 180 = j := Option.some.inj h
    obtain rfl : cd180 = F := Option.some.inj hc
    exact ⟨Go.Proofs.Tryz.f78, Go.Proofs.Tryz.func78, e78⟩
  | 79, j, F, h, hc => by
    obtain rfl : 181 = j := Option.some.inj h
    obtain rfl : cd181 = F := Option.some.inj hc
    exact ⟨Go.Proofs.Tryz.f79, Go.Proofs.Tryz.func79, e79⟩
  | 80, j, F, h, hc => by
    obtain rfl : 182 = j := Option.some.inj h
    obtain rfl : cd182 = F := Option.some.inj hc
    exact ⟨Go.Proofs.Tryz.f80, Go.Proofs.Tryz.func80, e80⟩
  | 81, j, F, h, hc => by
    obtain rfl : 183 = j := Option.some.inj h
    obtain rfl : cd183 = F := Option.some.inj hc
    exact ⟨Go.Proofs.Tryz.f81, Go.Proofs.Tryz.func81, e81⟩
  | 82, j, F, h, hc => by
    obtain rfl : 309 = j := Option.some.inj h
    obtain rfl : cd309 = F := Option.some.inj hc
    exact ⟨Go.Proofs.Tryz.f82, Go.Proofs.Tryz.func82, e82⟩
  | 83, j, F, h, hc => by
    obtain rfl : 95 = j := Option.some.inj h
    obtain rfl : cd95 = F := Option.some.inj hc
    exact ⟨Go.Proofs.Tryz.f83, Go.Proofs.Tryz.func83, e83⟩
  | 84, j, F, h, hc => by
    obtain rfl : 90 = j := Option.some.inj h
    obtain rfl : cd90 = F := Option.some.inj hc
    exact ⟨Go.Proofs.Tryz.f84, Go.Proofs.Tryz.func84, e84⟩
  | 85, j, F, h, hc => by
    obtain rfl : 48 = j := Option.some.inj h
    obtain rfl : cd48 = F := Option.some.inj hc
    exact ⟨Go.Proofs.Tryz.f85, Go.Proofs.Tryz.func85, e85⟩
  | 86, j, F, h, hc => by
    obtain rfl : 305 = j := Option.some.inj h
    obtain rfl : cd305 = F := Option.some.inj hc
    exact ⟨Go.Proofs.Tryz.f86, Go.Proofs.Tryz.func86, e86⟩
  | 87, j, F, h, hc => by
    obtain rfl : 306 = j := Option.some.inj h
    obtain rfl : cd306 = F := Option.some.inj hc
    exact ⟨Go.Proofs.Tryz.f87, Go.Proofs.Tryz.func87, e87⟩
  | 88, j, F, h, hc => by
    obtain rfl : 307 = j := Option.some.inj h
    obtain rfl : cd307 = F := Option.some.inj hc
    exact ⟨Go.Proofs.Tryz.f88, Go.Proofs.Tryz.func88, e88⟩
  | 89, j, F, h, hc => by
    obtain rfl : 308 = j := Option.some.inj h
    obtain rfl : cd308 = F := Option.some.inj hc
    exact ⟨Go.Proofs.Tryz.f89, Go.Proofs.Tryz.func89, e89⟩
  | 90, j, F, h, hc => by
    obtain rfl : 310 = j := Option.some.inj h
    obtain rfl : cd310 = F := Option.some.inj hc
    exact ⟨Go.Proofs.Tryz.f90, Go.Proofs.Tryz.func90, e90⟩
  | 91, j, F, h, hc => by
    obtain rfl : 311 = j := Option.some.inj h
    obtain rfl : cd311 = F := Option.some.inj hc
    exact ⟨Go.Proofs.Tryz.f91, Go.Proofs.Tryz.func91, e91⟩
  | 92, j, F, h, hc => by
    obtain rfl : 110 = j := Option.some.inj h
    obtain rfl : cd110 = F := Option.some.inj hc
    exact ⟨Go.Proofs.Tryz.f92, Go.Proofs.Tryz.func92, e92⟩
  | 93, j, F, h, hc => by
    obtain rfl : 111 = j := Option.some.inj h
    obtain rfl : cd111 = F := Option.some.inj hc
    exact ⟨Go.Proofs.Tryz.f93, Go.Proofs.Tryz.func93, e93⟩
  | 94, j, F, h, hc => by
    obtain rfl : 112 = j := Option.some.inj h
    obtain rfl : cd112 = F := Option.some.inj hc
    exact ⟨Go.Proofs.Tryz.f94, Go.Proofs.Tryz.func94, e94⟩
  | 95, j, F, h, hc => by
    obtain rfl : 113 = j := Option.some.inj h
    obtain rfl : cd113 = F := Option.some.inj hc
    exact ⟨Go.Proofs.Tryz.f95, Go.Proofs.Tryz.func95, e95⟩
  | 96, j, F, h, hc => by
    obtain rfl : 114 = j := Option.some.inj h
    obtain rfl : cd114 = F := Option.some.inj hc
    exact ⟨Go.Proofs.Tryz.f96, Go.Proofs.Tryz.func96, e96⟩
  | 97, j, F, h, hc => by
    obtain rfl : 115 = j := Option.some.inj h
    obtain rfl : cd115 = F := Option.some.inj hc
    exact ⟨Go.Proofs.Tryz.f97, Go.Proofs.Tryz.func97, e97⟩
  | 98, j, F, h, hc => by
    obtain rfl : 116 = j := Option.some.inj h
    obtain rfl : cd116 = F := Option.some.inj hc
    exact ⟨Go.Proofs.Tryz.f98, Go.Proofs.Tryz.func98, e98⟩
  | 99, j, F, h, hc => by
    obtain rfl : 117 = j := Option.some.inj h
    obtain rfl : cd117 = F := Option.some.inj hc
    exact ⟨Go.Proofs.Tryz.f99, Go.Proofs.Tryz.func99, e99⟩
  | 100, j, F, h, hc => by
    obtain rfl : 118 = j := Option.some.inj h
    obtain rfl : cd118 = F := Option.some.inj hc
    exact ⟨Go.Proofs.Tryz.f100, Go.Proofs.Tryz.func100, e100⟩
  | 101, j, F, h, hc => by
    obtain rfl : 119 = j := Option.some.inj h
    obtain rfl : cd119 = F := Option.some.inj hc
    exact ⟨Go.Proofs.Tryz.f101, Go.Proofs.Tryz.func101, e101⟩
  | 102, j, F, h, hc => by
    obtain rfl : 120 = j := Option.some.inj h
    obtain rfl : cd120 = F := Option.some.inj hc
    exact ⟨Go.Proofs.Tryz.f102, Go.Proofs.Tryz.func102, e102⟩
  | 103, j, F, h, hc => by
    obtain rfl : 121 = j := Option.some.inj h
    obtain rfl : cd121 = F := Option.some.inj hc
    exact ⟨Go.Proofs.Tryz.f103, Go.Proofs.Tryz.func103, e103⟩
  | 104, j, F, h, hc => by
    obtain rfl : 313 = j := Option.some.inj h
    obtain rfl : cd313 = F := Option.some.inj hc
    exact ⟨Go.Proofs.Tryz.f104, Go.Proofs.Tryz.func104, e104⟩
  | 105, j, F, h, hc => by
    obtain rfl : 176 = j := Option.some.inj h
    obtain rfl : cd176 = F := Option.some.inj hc
    exact ⟨Go.Proofs.Tryz.f105, Go.Proofs.Tryz.func105, e105⟩
  | 106, j, F, h, hc => by
    obtain rfl : 189 = j := Option.some.inj h
    obtain rfl : cd189 = F := Option.some.inj hc
    exact ⟨Go.Proofs.Tryz.f106, Go.Proofs.Tryz.func106, e106⟩
  | 107, j, F, h, hc => by
    obtain rfl : 318 = j := Option.some.inj h
    obtain rfl : cd318 = F := Option.some.inj hc
    exact ⟨Go.Proofs.Tryz.f107, Go.Proofs.Tryz.func107, e107⟩
  | 108, j, F, h, hc => by
    obtain rfl : 315 = j := Option.some.inj h
    obtain rfl : cd315 = F := Option.some.inj hc
    exact ⟨Go.Proofs.Tryz.f108, Go.Proofs.Tryz.func108, e108⟩
  | 109, j, F, h, hc => by
    obtain rfl : 314 = j := Option.some.inj h
    obtain rfl : cd314 = F := Option.some.inj hc
    exact ⟨Go.Proofs.Tryz.f109, Go.Proofs.Tryz.func109, e109⟩
  | 110, j, F, h, hc => by
    obtain rfl : 49 = j := Option.some.inj h
    obtain rfl : cd49 = F := Option.some.inj hc
    exact ⟨Go.Proofs.Tryz.f110, Go.Proofs.Tryz.func110, e110⟩
  | 111, j, F, h, hc => by
    obtain rfl : 44 = j := Option.some.inj h
    obtain rfl : cd44 = F := Option.some.inj hc
    exact ⟨Go.Proofs.Tryz.f111, Go.Proofs.Tryz.func111, e111⟩
  | 112, j, F, h, hc => by
    obtain rfl : 26 = j := Option.some.inj h
    obtain rfl : cd26 = F := Option.some.inj hc
    exact ⟨Go.Proofs.Tryz.f112, Go.Proofs.Tryz.func112, e112⟩
  | 113, j, F, h, hc => by
    obtain rfl : 122 = j := Option.some.inj h
    obtain rfl : cd122 = F := Option.some.inj hc
    exact ⟨Go.Proofs.Tryz.f113, Go.Proofs.Tryz.func113, e113⟩
  | 114, j, F, h, hc => by
    obtain rfl : 123 = j := Option.some.inj h
    obtain rfl : cd123 = F := Option.some.inj hc
    exact ⟨Go.Proofs.Tryz.f114, Go.Proofs.Tryz.func114, e114⟩
  | 115, j, F, h, hc => by
    obtain rfl : 124 = j := Option.some.inj h
    obtain rfl : cd124 = F := Option.some.inj hc
    exact ⟨Go.Proofs.Tryz.f115, Go.Proofs.Tryz.func115, e115⟩
  | 116, j, F, h, hc => by
    obtain rfl : 125 = j := Option.some.inj h
    obtain rfl : cd125 = F := Option.some.inj hc
    exact ⟨Go.Proofs.Tryz.f116, Go.Proofs.Tryz.func116, e116⟩
  | 117, j, F, h, hc => by
    obtain rfl : 126 = j := Option.some.inj h
    obtain rfl : cd126 = F := Option.some.inj hc
    exact ⟨Go.Proofs.Tryz.f117, Go.Proofs.Tryz.func117, e117⟩
  | 118, j, F, h, hc => by
    obtain rfl : 100 = j := Option.some.inj h
    obtain rfl : cd100 = F := Option.some.inj hc
    exact ⟨Go.Proofs.Tryz.f118, Go.Proofs.Tryz.func118, e118⟩
  | 119, j, F, h, hc => by
    obtain rfl : 101 = j := Option.some.inj h
    obtain rfl : cd101 = F := Option.some.inj hc
    exact ⟨Go.Proofs.Tryz.f119, Go.Proofs.Tryz.func119, e119⟩
  | 120, j, F, h, hc => by
    obtain rfl : 102 = j := Option.some.inj h
    obtain rfl : cd102 = F := Option.some.inj hc
    exact ⟨Go.Proofs.Tryz.f120, Go.Proofs.Tryz.func120, e120⟩
  | 121, j, F, h, hc => by
    obtain rfl : 103 = j := Option.some.inj h
    obtain rfl : cd103 = F := Option.some.inj hc
    exact ⟨Go.Proofs.Tryz.f121, Go.Proofs.Tryz.func121, e121⟩
  | 122, j, F, h, hc => by
    obtain rfl : 104 = j := Option.some.inj h
    obtain rfl : cd104 = F := Option.some.inj hc
    exact ⟨Go.Proofs.Tryz.f122, Go.Proofs.Tryz.func122, e122⟩
  | 123, j, F, h, hc => by
    obtain rfl : 105 = j := Option.some.inj h
    obtain rfl : cd105 = F := Option.some.inj hc
    exact ⟨Go.Proofs.Tryz.f123, Go.Proofs.Tryz.func123, e123⟩
  | 124, j, F, h, hc => by
    obtain rfl : 106 = j := Option.some.inj h
    obtain rfl : cd106 = F := Option.some.inj hc
    exact ⟨Go.Proofs.Tryz.f124, Go.Proofs.Tryz.func124, e124⟩
  | 125, j, F, h, hc => by
    obtain rfl : 107 = j := Option.some.inj h
    obtain rfl : cd107 = F := Option.some.inj hc
    exact ⟨Go.Proofs.Tryz.f125, Go.Proofs.Tryz.func125, e125⟩
  | 126, j, F, h, hc => by
    obtain rfl : 108 = j := Option.some.inj h
    obtain rfl : cd108 = F := Option.some.inj hc
    exact ⟨Go.Proofs.Tryz.f126, Go.Proofs.Tryz.func126, e126⟩
  | 127, j, F, h, hc => by
    obtain rfl : 43 = j := Option.some.inj h
    obtain rfl : cd43 = F := Option.some.inj hc
    exact ⟨Go.Proofs.Tryz.f127, Go.Proofs.Tryz.func127, e127⟩
  | 128, j, F, h, hc => by
    obtain rfl : 54 = j := Option.some.inj h
    obtain rfl : cd54 = F := Option.some.inj hc
    exact ⟨Go.Proofs.Tryz.f128, Go.Proofs.Tryz.func128, e128⟩
  | 129, j, F, h, hc => by
    obtain rfl : 316 = j := Option.some.inj h
    obtain rfl : cd316 = F := Option.some.inj hc
    exact ⟨Go.Proofs.Tryz.f129, Go.Proofs.Tryz.func129, e129⟩
  | 130, j, F, h, hc => by
    obtain rfl : 317 = j := Option.some.inj h
    obtain rfl : cd317 = F := Option.some.inj hc
    exact ⟨Go.Proofs.Tryz.f130, Go.Proofs.Tryz.func130, e130⟩
  | 131, j, F, h, hc => by
    obtain rfl : 184 = j := Option.some.inj h
    obtain rfl : cd184 = F := Option.some.inj hc
    exact ⟨Go.Proofs.Tryz.f131, Go.Proofs.Tryz.func131, e131⟩
  | 132, j, F, h, hc => by
    obtain rfl : 50 = j := Option.some.inj h
    obtain rfl : cd50 = F := Option.some.inj hc
    exact ⟨Go.Proofs.Tryz.f132, Go.Proofs.Tryz.func132, e132⟩
  | 133, j, F, h, hc => by
    obtain rfl : 41 = j := Option.some.inj h
    obtain rfl : cd41 = F := Option.some.inj hc
    exact ⟨Go.Proofs.Tryz.f133, Go.Proofs.Tryz.func133, e133⟩
  | 134, j, F, h, hc => by
    obtain rfl : 46 = j := Option.some.inj h
    obtain rfl : cd46 = F := Option.some.inj hc
    exact ⟨Go.Proofs.Tryz.f134, Go.Proofs.Tryz.func134, e134⟩
  | 135, j, F, h, hc => by
    obtain rfl : 131 = j := Option.some.inj h
    obtain rfl : cd131 = F := Option.some.inj hc
    exact ⟨Go.Proofs.Tryz.f135, Go.Proofs.Tryz.func135, e135⟩
  | 136, j, F, h, hc => by
    obtain rfl : 132 = j := Option.some.inj h
    obtain rfl : cd132 = F := Option.some.inj hc
    exact ⟨Go.Proofs.Tryz.f136, Go.Proofs.Tryz.func136, e136⟩
  | 137, j, F, h, hc => by
    obtain rfl : 133 = j := Option.some.inj h
    obtain rfl : cd133 = F := Option.some.inj hc
    exact ⟨Go.Proofs.Tryz.f137, Go.Proofs.Tryz.func137, e137⟩
  | 138, j, F, h, hc => by
    obtain rfl : 134 = j := Option.some.inj h
    obtain rfl : cd134 = F := Option.some.inj hc
    exact ⟨Go.Proofs.Tryz.f138, Go.Proofs.Tryz.func138, e138⟩
  | 139, j, F, h, hc => by
    obtain rfl : 135 = j := Option.some.inj h
    obtain rfl : cd135 = F := Option.some.inj hc
    exact ⟨Go.Proofs.Tryz.f139, Go.Proofs.Tryz.func139, e139⟩
  | 140, j, F, h, hc => by
    obtain rfl : 136 = j := Option.some.inj h
    obtain rfl : cd136 = F := Option.some.inj hc
    exact ⟨Go.Proofs.Tryz.f140, Go.Proofs.Tryz.func140, e140⟩
  | 141, j, F, h, hc => by
    obtain rfl : 137 = j := Option.some.inj h
    obtain rfl : cd137 = F := Option.some.inj hc
    exact ⟨Go.Proofs.Tryz.f141, Go.Proofs.Tryz.func141, e141⟩
  | 142, j, F, h, hc => by
    obtain rfl : 129 = j := Option.some.inj h
    obtain rfl : cd129 = F := Option.some.inj hc
    exact ⟨Go.Proofs.Tryz.f142, Go.Proofs.Tryz.func142, e142⟩
  | 143, j, F, h, hc => by
    obtain rfl : 130 = j := Option.some.inj h
    obtain rfl : cd130 = F := Option.some.inj hc
    exact ⟨Go.Proofs.Tryz.f143, Go.Proofs.Tryz.func143, e143⟩
  | 144, j, F, h, hc => by
    obtain rfl : 16 = j := Option.some.inj h
    obtain rfl : cd16 = F := Option.some.inj hc
    exact ⟨Go.Proofs.Tryz.f144, Go.Proofs.Tryz.func144, e144⟩
  | 145, j, F, h, hc => by
    obtain rfl : 51 = j := Option.some.inj h
    obtain rfl : cd51 = F := Option.some.inj hc
    exact ⟨Go.Proofs.Tryz.f145, Go.Proofs.Tryz.func145, e145⟩
  | 146, j, F, h, hc => by
    obtain rfl : 52 = j := Option.some.inj h
    obtain rfl : cd52 = F := Option.some.inj hc
    exact ⟨Go.Proofs.Tryz.f146, Go.Proofs.Tryz.func146, e146⟩
  | 147, j, F, h, hc => by
    obtain rfl : 53 = j := Option.some.inj h
    obtain rfl : cd53 = F := Option.some.inj hc
    exact ⟨Go.Proofs.Tryz.f147, Go.Proofs.Tryz.func147, e147⟩
  | 148, j, F, h, hc => by
    obtain rfl : 141 = j := Option.some.inj h
    obtain rfl : cd141 = F := Option.some.inj hc
    exact ⟨Go.Proofs.Tryz.f148, Go.Proofs.Tryz.func148, e148⟩
  | 149, j, F, h, hc => by
    obtain rfl : 142 = j := Option.some.inj h
    obtain rfl : cd142 = F := Option.some.inj hc
    exact ⟨Go.Proofs.Tryz.f149, Go.Proofs.Tryz.func149, e149⟩
  | 150, j, F, h, hc => by
    obtain rfl : 143 = j := Option.some.inj h
    obtain rfl : cd143 = F := Option.some.inj hc
    exact ⟨Go.Proofs.Tryz.f150, Go.Proofs.Tryz.func150, e150⟩
  | 151, j, F, h, hc => by
    obtain rfl : 144 = j := Option.some.inj h
    obtain rfl : cd144 = F := Option.some.inj hc
    exact ⟨Go.Proofs.Tryz.f151, Go.Proofs.Tryz.func151, e151⟩
  | 152, j, F, h, hc => by
    obtain rfl : 145 = j := Option.some.inj h
    obtain rfl : cd145 = F := Option.some.inj hc
    exact ⟨Go.Proofs.Tryz.f152, Go.Proofs.Tryz.func152, e152⟩
  | 153, j, F, h, hc => by
    obtain rfl : 140 = j := Option.some.inj h
    obtain rfl : cd140 = F := Option.some.inj hc
    exact ⟨Go.Proofs.Tryz.f153, Go.Proofs.Tryz.func153, e153⟩
  | 154, j, F, h, hc => by
    obtain rfl : 42 = j := Option.some.inj h
    obtain rfl : cd42 = F := Option.some.inj hc
    exact ⟨Go.Proofs.Tryz.f154, Go.Proofs.Tryz.func154, e154⟩
  | 155, j, F, h, hc => by
    obtain rfl : 55 = j := Option.some.inj h
    obtain rfl : cd55 = F := Option.some.inj hc
    exact ⟨Go.Proofs.Tryz.f155, Go.Proofs.Tryz.func155, e155⟩
  | 156, j, F, h, hc => absurd h (by intro h; cases h)
  | 157, j, F, h, hc => absurd h (by intro h; cases h)
  | 158, j, F, h, hc => absurd h (by intro h; cases h)
  | 159, j, F, h, hc => absurd h (by intro h; cases h)
  | 160, j, F, h, hc => absurd h (by intro h; cases h)
  | 161, j, F, h, hc => absurd h (by intro h; cases h)
  | 162, j, F, h, hc => absurd h (by intro h; cases h)
  | 163, j, F, h, hc => absurd h (by intro h; cases h)
  | 164, j, F, h, hc => absurd h (by intro h; cases h)
  | 165, j, F, h, hc => absurd h (by intro h; cases h)
  | 166, j, F, h, hc => absurd h (by intro h; cases h)
  | 167, j, F, h, hc => absurd h (by intro h; cases h)
  | 168, j, F, h, hc => absurd h (by intro h; cases h)
  | 169, j, F, h, hc => absurd h (by intro h; cases h)
  | 170, j, F, h, hc => absurd h (by intro h; cases h)
  | 171, j, F, h, hc => absurd h (by intro h; cases h)
  | 172, j, F, h, hc => absurd h (by intro h; cases h)
  | g + 173, j, F, h, hc => absurd h (by intro h; cases h)
theorem calls : ∀ (g j : Nat), inv g = some j → ∃ fn, Go.Proofs.Tryz.prog.funcs[g]? = some fn ∧ fn.body.isNone = false ∧ (fn.name == "runtime.NumGoroutine") = false
  | 0, j, h => absurd h (by intro h; cases h)
  | 1, j, h => absurd h (by intro h; cases h)
  | 2, j, h => absurd h (by intro h; cases h)
  | 3, j, h => ⟨Go.Proofs.Tryz.f3, Go.Proofs.Tryz.func3, by kernel_rfl, by kernel_rfl⟩
  | 4, j, h => ⟨Go.Proofs.Tryz.f4, Go.Proofs.Tryz.func4, by kernel_rfl, by kernel_rfl⟩
  | 5, j, h => ⟨Go.Proofs.Tryz.f5, Go.Proofs.Tryz.func5, by kernel_rfl, by kernel_rfl⟩
  | 6, j, h => ⟨Go.Proofs.Tryz.f6, Go.Proofs.Tryz.func6, by kernel_rfl, by kernel_rfl⟩
  | 7, j, h => ⟨Go.Proofs.Tryz.f7, Go.Proofs.Tryz.func7, by kernel_rfl, by kernel_rfl⟩
  | 8, j, h => ⟨Go.Proofs.Tryz.f8, Go.Proofs.Tryz.func8, by kernel_rfl, by kernel_rfl⟩
  | 9, j, h => ⟨Go.Proofs.Tryz.f9, Go.Proofs.Tryz.func9, by kernel_rfl, by kernel_rfl⟩
  | 10, j, h => ⟨Go.Proofs.Tryz.f10, Go.Proofs.Tryz.func10, by kernel_rfl, by kernel_rfl⟩
  | 11, j, h => ⟨Go.Proofs.Tryz.f11, Go.Proofs.Tryz.func11, by kernel_rfl, by kernel_rfl⟩
  | 12, j, h => ⟨Go.Proofs.Tryz.f12, Go.Proofs.Tryz.func12, by kernel_rfl, by kernel_rfl⟩
  | 13, j, h => ⟨Go.Proofs.Tryz.f13, Go.Proofs.Tryz.func13, by kernel_rfl, by kernel_rfl⟩
  | 14, j, h => ⟨Go.Proofs.Tryz.f14, Go.Proofs.Tryz.func14, by kernel_rfl, by kernel_rfl⟩
  | 15, j, h => ⟨Go.Proofs.Tryz.f15, Go.Proofs.Tryz.func15, by kernel_rfl, by kernel_rfl⟩
  | 16, j, h => ⟨Go.Proofs.Tryz.f16, Go.Proofs.Tryz.func16, by kernel_rfl, by kernel_rfl⟩
  | 17, j, h => ⟨Go.Proofs.Tryz.f17, Go.Proofs.Tryz.func17, by kernel_rfl, by kernel_rfl⟩
  | 18, j, h => ⟨Go.Proofs.Tryz.f18, Go.Proofs.Tryz.func18, by kernel_rfl, by kernel_rfl⟩
  | 19, j, h => ⟨Go.Proofs.Tryz.f19, Go.Proofs.Tryz.func19, by kernel_rfl, by kernel_rfl⟩
  | 20, j, h => ⟨Go.Proofs.Tryz.f20, Go.Proofs.Tryz.func20, by kernel_rfl, by kernel_rfl⟩
  | 21, j, h => ⟨Go.Proofs.Tryz.f21, Go.Proofs.Tryz.func21, by kernel_rfl, by kernel_rfl⟩
  | 22, j, h => ⟨Go.Proofs.Tryz.f22, Go.Proofs.Tryz.func22, by kernel_rfl, by kernel_rfl⟩
  | 23, j, h => ⟨Go.Proofs.Tryz.f23, Go.Proofs.Tryz.func23, by kernel_rfl, by kernel_rfl⟩
  | 24, j, h => ⟨Go.Proofs.Tryz.f24, Go.Proofs.Tryz.func24, by kernel_rfl, by kernel_rfl⟩
  | 25, j, h => ⟨Go.Proofs.Tryz.f25, Go.Proofs.Tryz.func25, by kernel_rfl, by kernel_rfl⟩
  | 26, j, h => ⟨Go.Proofs.Tryz.f26, Go.Proofs.Tryz.func26, by kernel_rfl, by kernel_rfl⟩
  | 27, j, h => ⟨Go.Proofs.Tryz.f27, Go.Proofs.Tryz.func27, by kernel_rfl, by kernel_rfl⟩
  | 28, j, h => ⟨Go.Proofs.Tryz.f28, Go.Proofs.Tryz.func28, by kernel_rfl, by kernel_rfl⟩
  | 29, j, h => ⟨Go.Proofs.Tryz.f29, Go.Proofs.Tryz.func29, by kernel_rfl, by kernel_rfl⟩
  | 30, j, h => ⟨Go.Proofs.Tryz.f30, Go.Proofs.Tryz.func30, by kernel_rfl, by kernel_rfl⟩
  | 31, j, h => ⟨Go.Proofs.Tryz.f31, Go.Proofs.Tryz.func31, by kernel_rfl, by kernel_rfl⟩
  | 32, j, h => ⟨Go.Proofs.Tryz.f32, Go.Proofs.Tryz.func32, by kernel_rfl, by kernel_rfl⟩
  | 33, j, h => ⟨Go.Proofs.Tryz.f33, Go.Proofs.Tryz.func33, by kernel_rfl, by kernel_rfl⟩
  | 34, j, h => ⟨Go.Proofs.Tryz.f34, Go.Proofs.Tryz.func34, by kernel_rfl, by kernel_rfl⟩
  | 35, j, h => ⟨Go.Proofs.Tryz.f35, Go.Proofs.Tryz.func35, by kernel_rfl, by kernel_rfl⟩
  | 36, j, h => ⟨Go.Proofs.Tryz.f36, Go.Proofs.Tryz.func36, by kernel_rfl, by kernel_rfl⟩
  | 37, j, h => ⟨Go.Proofs.Tryz.f37, Go.Proofs.Tryz.func37, by kernel_rfl, by kernel_rfl⟩
  | 38, j, h => ⟨Go.Proofs.Tryz.f38, Go.Proofs.Tryz.func38, by kernel_rfl, by kernel_rfl⟩
  | 39, j, h => ⟨Go.Proofs.Tryz.f39, Go.Proofs.Tryz.func39, by kernel_rfl, by kernel_rfl⟩
  | 40, j, h => ⟨Go.Proofs.Tryz.f40, Go.Proofs.Tryz.func40, by kernel_rfl, by kernel_rfl⟩
  | 41, j, h => ⟨Go.Proofs.Tryz.f41, Go.Proofs.Tryz.func41, by kernel_rfl, by kernel_rfl⟩
  | 42, j, h => ⟨Go.Proofs.Tryz.f42, Go.Proofs.Tryz.func42, by kernel_rfl, by kernel_rfl⟩
  | 43, j, h => ⟨Go.Proofs.Tryz.f43, Go.Proofs.Tryz.func43, by kernel_rfl, by kernel_rfl⟩
  | 44, j, h => ⟨Go.Proofs.Tryz.f44, Go.Proofs.Tryz.func44, by kernel_rfl, by kernel_rfl⟩
  | 45, j, h => ⟨Go.Proofs.Tryz.f45, Go.Proofs.Tryz.func45, by kernel_rfl, by kernel_rfl⟩
  | 46, j, h => ⟨Go.Proofs.Tryz.f46, Go.Proofs.Tryz.func46, by kernel_rfl, by kernel_rfl⟩
  | 47, j, h => ⟨Go.Proofs.Tryz.f47, Go.Proofs.Tryz.func47, by kernel_rfl, by kernel_rfl⟩
  | 48, j, h => ⟨Go.Proofs.Tryz.f48, Go.Proofs.Tryz.func48, by kernel_rfl, by kernel_rfl⟩
  | 49, j, h => ⟨Go.Proofs.Tryz.f49, Go.Proofs.Tryz.func49, by kernel_rfl, by kernel_rfl⟩
  | 50, j, h => ⟨Go.Proofs.Tryz.f50, Go.Proofs.Tryz.func50, by kernel_rfl, by kernel_rfl⟩
  | 51, j, h => ⟨Go.Proofs.Tryz.f51, Go.Proofs.Tryz.func51, by kernel_rfl, by kernel_rfl⟩
  | 52, j, h => ⟨Go.Proofs.Tryz.f52, Go.Proofs.Tryz.func52, by kernel_rfl, by kernel_rfl⟩
  | 53, j, h => ⟨Go.Proofs.Tryz.f53, Go.Proofs.Tryz.func53, by kernel_rfl, by kernel_rfl⟩
  | 54, j, h => ⟨Go.Proofs.Tryz.f54, Go.Proofs.Tryz.func54, by kernel_rfl, by kernel_rfl⟩
  | 55, j, h => ⟨Go.Proofs.Tryz.f55, Go.Proofs.Tryz.func55, by kernel_rfl, by kernel_rfl⟩
  | 56, j, h => ⟨Go.Proofs.Tryz.f56, Go.Proofs.Tryz.func56, by kernel_rfl, by kernel_rfl⟩
  | 57, j, h => ⟨Go.Proofs.Tryz.f57, Go.Proofs.Tryz.func57, by kernel_rfl, by kernel_rfl⟩
  | 58, j, h => ⟨Go.Proofs.Tryz.f58, Go.Proofs.Tryz.func58, by kernel_rfl, by kernel_rfl⟩
  | 59, j, h => ⟨Go.Proofs.Tryz.f59, Go.Proofs.Tryz.func59, by kernel_rfl, by kernel_rfl⟩
  | 60, j, h => ⟨Go.Proofs.Tryz.f60, Go.Proofs.Tryz.func60, by kernel_rfl, by kernel_rfl⟩
  | 61, j, h => ⟨Go.Proofs.Tryz.f61, Go.Proofs.Tryz.func61, by kernel_rfl, by kernel_rfl⟩
  | 62, j, h => ⟨Go.Proofs.Tryz.f62, Go.Proofs.Tryz.func62, by kernel_rfl, by kernel_rfl⟩
  | 63, j, h => ⟨Go.Proofs.Tryz.f63, Go.Proofs.Tryz.func63, by kernel_rfl, by kernel_rfl⟩
  | 64, j, h => ⟨Go.Proofs.Tryz.f64, Go.Proofs.Tryz.func64, by kernel_rfl, by kernel_rfl⟩
  | 65, j, h => ⟨Go.Proofs.Tryz.f65, Go.Proofs.Tryz.func65, by kernel_rfl, by kernel_rfl⟩
  | 66, j, h => ⟨Go.Proofs.Tryz.f66, Go.Proofs.Tryz.func66, by kernel_rfl, by kernel_rfl⟩
  | 67, j, h => ⟨Go.Proofs.Tryz.f67, Go.Proofs.Tryz.func67, by kernel_rfl, by kernel_rfl⟩
  | 68, j, h => ⟨Go.Proofs.Tryz.f68, Go.Proofs.Tryz.func68, by kernel_rfl, by kernel_rfl⟩
  | 69, j, h => ⟨Go.Proofs.Tryz.f69, Go.Proofs.Tryz.func69, by kernel_rfl, by kernel_rfl⟩
  | 70, j, h => ⟨Go.Proofs.Tryz.f70, Go.Proofs.Tryz.func70, by kernel_rfl, by kernel_rfl⟩
  | 71, j, h => ⟨Go.Proofs.Tryz.f71, Go.Proofs.Tryz.func71, by kernel_rfl, by kernel_rfl⟩
  | 72, j, h => ⟨Go.Proofs.Tryz.f72, Go.Proofs.Tryz.func72, by kernel_rfl, by kernel_rfl⟩
  | 73, j, h => ⟨Go.Proofs.Tryz.f73, Go.Proofs.Tryz.func73, by kernel_rfl, by kernel_rfl⟩
  | 74, j, h => ⟨Go.Proofs.Tryz.f74, Go.Proofs.Tryz.func74, by kernel_rfl, by kernel_rfl⟩
  | 75, j, h => ⟨Go.Proofs.Tryz.f75, Go.Proofs.Tryz.func75, by kernel_rfl, by kernel_rfl⟩
  | 76, j, h => ⟨Go.Proofs.Tryz.f76, Go.Proofs.Tryz.func76, by kernel_rfl, by kernel_rfl⟩
  | 77, j, h => ⟨Go.Proofs.Tryz.f77, Go.Proofs.Tryz.func77, by kernel_rfl, by kernel_rfl⟩
  | 78, j, h => ⟨Go.Proofs.Tryz.f78, Go.Proofs.Tryz.func78, by kernel_rfl, by kernel_rfl⟩
  | 79, j, h => ⟨Go.Proofs.Tryz.f79, Go.Proofs.Tryz.func79, by kernel_rfl, by kernel_rfl⟩
  | 80, j, h => ⟨Go.Proofs.Tryz.f80, Go.Proofs.Tryz.func80, by kernel_rfl, by kernel_rfl⟩
  | 81, j, h => ⟨Go.Proofs.Tryz.f81, Go.Proofs.Tryz.func81, by kernel_rfl, by kernel_rfl⟩
  | 82, j, h => ⟨Go.Proofs.Tryz.f82, Go.Proofs.Tryz.func82, by kernel_rfl, by kernel_rfl⟩
  | 83, j, h => ⟨Go.Proofs.Tryz.f83, Go.Proofs.Tryz.func83, by kernel_rfl, by kernel_rfl⟩
  | 84, j, h => ⟨Go.Proofs.Tryz.f84, Go.Proofs.Tryz.func84, by kernel_rfl, by kernel_rfl⟩
  | 85, j, h => ⟨Go.Proofs.Tryz.f85, Go.Proofs.Tryz.func85, by kernel_rfl, by kernel_rfl⟩
  | 86, j, h => ⟨Go.Proofs.Tryz.f86, Go.Proofs.Tryz.func86, by kernel_rfl, by kernel_rfl⟩
  | 87, j, h => ⟨Go.Proofs.Tryz.f87, Go.Proofs.Tryz.func87, by kernel_rfl, by kernel_rfl⟩
  | 88, j, h => ⟨Go.Proofs.Tryz.f88, Go.Proofs.Tryz.func88, by kernel_rfl, by kernel_rfl⟩
  | 89, j, h => ⟨Go.Proofs.Tryz.f89, Go.Proofs.Tryz.func89, by kernel_rfl, by kernel_rfl⟩
  | 90, j, h => ⟨Go.Proofs.Tryz.f90, Go.Proofs.Tryz.func90, by kernel_rfl, by kernel_rfl⟩
  | 91, j, h => ⟨Go.Proofs.Tryz.f91, Go.Proofs.Tryz.func91, by kernel_rfl, by kernel_rfl⟩
  | 92, j, h => ⟨Go.Proofs.Tryz.f92, Go.Proofs.Tryz.func92, by kernel_rfl, by kernel_rfl⟩
  | 93, j, h => ⟨Go.Proofs.Tryz.f93, Go.Proofs.Tryz.func93, by kernel_rfl, by kernel_rfl⟩
  | 94, j, h => ⟨Go.Proofs.Tryz.f94, Go.Proofs.Tryz.func94, by kernel_rfl, by kernel_rfl⟩
  | 95, j, h => ⟨Go.Proofs.Tryz.f95, Go.Proofs.Tryz.func95, by kernel_rfl, by kernel_rfl⟩
  | 96, j, h => ⟨Go.Proofs.Tryz.f96, Go.Proofs.Tryz.func96, by kernel_rfl, by kernel_rfl⟩
  | 97, j, h => ⟨Go.Proofs.Tryz.f97, Go.Proofs.Tryz.func97, by kernel_rfl, by kernel_rfl⟩
  | 98, j, h => ⟨Go.Proofs.Tryz.f98, Go.Proofs.Tryz.func98, by kernel_rfl, by kernel_rfl⟩
  | 99, j, h => ⟨Go.Proofs.Tryz.f99, Go.Proofs.Tryz.func99, by kernel_rfl, by kernel_rfl⟩
  | 100, j, h => ⟨Go.Proofs.Tryz.f100, Go.Proofs.Tryz.func100, by kernel_rfl, by kernel_rfl⟩
  | 101, j, h => ⟨Go.Proofs.Tryz.f101, Go.Proofs.Tryz.func101, by kernel_rfl, by kernel_rfl⟩
  | 102, j, h => ⟨Go.Proofs.Tryz.f102, Go.Proofs.Tryz.func102, by kernel_rfl, by kernel_rfl⟩
  | 103, j, h => ⟨Go.Proofs.Tryz.f103, Go.Proofs.Tryz.func103, by kernel_rfl, by kernel_rfl⟩
  | 104, j, h => ⟨Go.Proofs.Tryz.f104, Go.Proofs.Tryz.func104, by kernel_rfl, by kernel_rfl⟩
  | 105, j, h => ⟨Go.Proofs.Tryz.f105, Go.Proofs.Tryz.func105, by kernel_rfl, by kernel_rfl⟩
  | 106, j, h => ⟨Go.Proofs.Tryz.f106, Go.Proofs.Tryz.func106, by kernel_rfl, by kernel_rfl⟩
  | 107, j, h => ⟨Go.Proofs.Tryz.f107, Go.Proofs.Tryz.func107, by kernel_rfl, by kernel_rfl⟩
  | 108, j, h => ⟨Go.Proofs.Tryz.f108, Go.Proofs.Tryz.func108, by kernel_rfl, by kernel_rfl⟩
  | 109, j, h => ⟨Go.Proofs.Tryz.f109, Go.Proofs.Tryz.func109, by kernel_rfl, by kernel_rfl⟩
  | 110, j, h => ⟨Go.Proofs.Tryz.f110, Go.Proofs.Tryz.func110, by kernel_rfl, by kernel_rfl⟩
  | 111, j, h => ⟨Go.Proofs.Tryz.f111, Go.Proofs.Tryz.func111, by kernel_rfl, by kernel_rfl⟩
  | 112, j, h => ⟨Go.Proofs.Tryz.f112, Go.Proofs.Tryz.func112, by kernel_rfl, by kernel_rfl⟩
  | 113, j, h => ⟨Go.Proofs.Tryz.f113, Go.Proofs.Tryz.func113, by kernel_rfl, by kernel_rfl⟩
  | 114, j, h => ⟨Go.Proofs.Tryz.f114, Go.Proofs.Tryz.func114, by kernel_rfl, by kernel_rfl⟩
  | 115, j, h => ⟨Go.Proofs.Tryz.f115, Go.Proofs.Tryz.func115, by kernel_rfl, by kernel_rfl⟩
  | 116, j, h => ⟨Go.Proofs.Tryz.f116, Go.Proofs.Tryz.func116, by kernel_rfl, by kernel_rfl⟩
  | 117, j, h => ⟨Go.Proofs.Tryz.f117, Go.Proofs.Tryz.func117, by kernel_rfl, by kernel_rfl⟩
  | 118, j, h => ⟨Go.Proofs.Tryz.f118, Go.Proofs.Tryz.func118, by kernel_rfl, by kernel_rfl⟩
  | 119, j, h => ⟨Go.Proofs.Tryz.f119, Go.Proofs.Tryz.func119, by kernel_rfl, by kernel_rfl⟩
  | 120, j, h => ⟨Go.Proofs.Tryz.f120, Go.Proofs.Tryz.func120, by kernel_rfl, by kernel_rfl⟩
  | 121, j, h => ⟨Go.Proofs.Tryz.f121, Go.Proofs.Tryz.func121, by kernel_rfl, by kernel_rfl⟩
  | 122, j, h => ⟨Go.Proofs.Tryz.f122, Go.Proofs.Tryz.func122, by kernel_rfl, by kernel_rfl⟩
  | 123, j, h => ⟨Go.Proofs.Tryz.f123, Go.Proofs.Tryz.func123, by kernel_rfl, by kernel_rfl⟩
  | 124, j, h => ⟨Go.Proofs.Tryz.f124, Go.Proofs.Tryz.func124, by kernel_rfl, by kernel_rfl⟩
  | 125, j, h => ⟨Go.Proofs.Tryz.f125, Go.Proofs.Tryz.func125, by kernel_rfl, by kernel_rfl⟩
  | 126, j, h => ⟨Go.Proofs.Tryz.f126, Go.Proofs.Tryz.func126, by kernel_rfl, by kernel_rfl⟩
  | 127, j, h => ⟨Go.Proofs.Tryz.f127, Go.Proofs.Tryz.func127, by kernel_rfl, by kernel_rfl⟩
  | 128, j, h => ⟨Go.Proofs.Tryz.f128, Go.Proofs.Tryz.func128, by kernel_rfl, by kernel_rfl⟩
  | 129, j, h => ⟨Go.Proofs.Tryz.f129, Go.Proofs.Tryz.func129, by kernel_rfl, by kernel_rfl⟩
  | 130, j, h => ⟨Go.Proofs.Tryz.f130, Go.Proofs.Tryz.func130, by kernel_rfl, by kernel_rfl⟩
  | 131, j, h => ⟨Go.Proofs.Tryz.f131, Go.Proofs.Tryz.func131, by kernel_rfl, by kernel_rfl⟩
  | 132, j, h => ⟨Go.Proofs.Tryz.f132, Go.Proofs.Tryz.func132, by kernel_rfl, by kernel_rfl⟩
  | 133, j, h => ⟨Go.Proofs.Tryz.f133, Go.Proofs.Tryz.func133, by kernel_rfl, by kernel_rfl⟩
  | 134, j, h => ⟨Go.Proofs.Tryz.f134, Go.Proofs.Tryz.func134, by kernel_rfl, by kernel_rfl⟩
  | 135, j, h => ⟨Go.Proofs.Tryz.f135, Go.Proofs.Tryz.func135, by kernel_rfl, by kernel_rfl⟩
  | 136, j, h => ⟨Go.Proofs.Tryz.f136, Go.Proofs.Tryz.func136, by kernel_rfl, by kernel_rfl⟩
  | 137, j, h => ⟨Go.Proofs.Tryz.f137, Go.Proofs.Tryz.func137, by kernel_rfl, by kernel_rfl⟩
  | 138, j, h => ⟨Go.Proofs.Tryz.f138, Go.Proofs.Tryz.func138, by kernel_rfl, by kernel_rfl⟩
  | 139, j, h => ⟨Go.Proofs.Tryz.f139, Go.Proofs.Tryz.func139, by kernel_rfl, by kernel_rfl⟩
  | 140, j, h => ⟨Go.Proofs.Tryz.f140, Go.Proofs.Tryz.func140, by kernel_rfl, by kernel_rfl⟩
  | 141, j, h => ⟨Go.Proofs.Tryz.f141, Go.Proofs.Tryz.func141, by kernel_rfl, by kernel_rfl⟩
  | 142, j, h => ⟨Go.Proofs.Tryz.f142, Go.Proofs.Tryz.func142, by kernel_rfl, by kernel_rfl⟩
  | 143, j, h => ⟨Go.Proofs.Tryz.f143, Go.Proofs.Tryz.func143, by kernel_rfl, by kernel_rfl⟩
  | 144, j, h => ⟨Go.Proofs.Tryz.f144, Go.Proofs.Tryz.func144, by kernel_rfl, by kernel_rfl⟩
  | 145, j, h => ⟨Go.Proofs.Tryz.f145, Go.Proofs.Tryz.func145, by kernel_rfl, by kernel_rfl⟩
  | 146, j, h => ⟨Go.Proofs.Tryz.f146, Go.Proofs.Tryz.func146, by kernel_rfl, by kernel_rfl⟩
  | 147, j, h => ⟨Go.Proofs.Tryz.f147, Go.Proofs.Tryz.func147, by kernel_rfl, by kernel_rfl⟩
  | 148, j, h => ⟨Go.Proofs.Tryz.f148, Go.Proofs.Tryz.func148, by kernel_rfl, by kernel_rfl⟩
  | 149, j, h => ⟨Go.Proofs.Tryz.f149, Go.Proofs.Tryz.func149, by kernel_rfl, by kernel_rfl⟩
  | 150, j, h => ⟨Go.Proofs.Tryz.f150, Go.Proofs.Tryz.func150, by kernel_rfl, by kernel_rfl⟩
  | 151, j, h => ⟨Go.Proofs.Tryz.f151, Go.Proofs.Tryz.func151, by kernel_rfl, by kernel_rfl⟩
  | 152, j, h => ⟨Go.Proofs.Tryz.f152, Go.Proofs.Tryz.func152, by kernel_rfl, by kernel_rfl⟩
  | 153, j, h => ⟨Go.Proofs.Tryz.f153, Go.Proofs.Tryz.func153, by kernel_rfl, by kernel_rfl⟩
  | 154, j, h => ⟨Go.Proofs.Tryz.f154, Go.Proofs.Tryz.func154, by kernel_rfl, by kernel_rfl⟩
  | 155, j, h => ⟨Go.Proofs.Tryz.f155, Go.Proofs.Tryz.func155, by kernel_rfl, by kernel_rfl⟩
  | 156, j, h => absurd h (by intro h; cases h)
  | 157, j, h => absurd h (by intro h; cases h)
  | 158, j, h => absurd h (by intro h; cases h)
  | 159, j, h => absurd h (by intro h; cases h)
  | 160, j, h => absurd h (by intro h; cases h)
  | 161, j, h => absurd h (by intro h; cases h)
  | 162, j, h => absurd h (by intro h; cases h)
  | 163, j, h => absurd h (by intro h; cases h)
  | 164, j, h => absurd h (by intro h; cases h)
  | 165, j, h => absurd h (by intro h; cases h)
  | 166, j, h => absurd h (by intro h; cases h)
  | 167, j, h => absurd h (by intro h; cases h)
  | 168, j, h => absurd h (by intro h; cases h)
  | 169, j, h => absurd h (by intro h; cases h)
  | 170, j, h => absurd h (by intro h; cases h)
  | 171, j, h => absurd h (by intro h; cases h)
  | 172, j, h => absurd h (by intro h; cases h)
  | g + 173, j, h => absurd h (by intro h; cases h)
theorem all : HasAll Go.Proofs.Tryz.prog inv := ⟨⟨by kernel_rfl, calls⟩, fun j F hc g hg => has g j F hg hc⟩
end
end Go.Eng.Tryz
