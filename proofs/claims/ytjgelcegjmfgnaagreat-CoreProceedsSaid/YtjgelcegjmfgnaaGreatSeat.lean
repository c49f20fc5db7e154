/-
  THE SEAT: its functions have the codes that the engine walks.
-/
import Derived.Test.YtjgelcegjmfgnaaGreatChecked
import Derived.Test.YtjgelcegjmfgnaaGreatK7
namespace Go.Eng.Tryz
def tab : List Nat := [0, 0, 0, 358, 359, 360, 361, 362, 363, 342, 374, 375, 376, 377, 72, 9, 15, 180, 364, 11, 163, 365, 164, 366, 367, 160, 70, 77, 368, 165, 74, 369, 370, 12, 68, 79, 196, 200, 199, 352, 208, 383, 206, 78, 384, 385, 10, 187, 97, 188, 189, 293, 371, 80, 174, 175, 176, 177, 178, 179, 335, 336, 313, 372, 161, 157, 162, 90, 91, 166, 167, 168, 86, 87, 35, 36, 37, 81, 82, 197, 198, 75, 214, 216, 217, 139, 215, 220, 221, 222, 223, 152, 224, 225, 286, 287, 329, 331, 207, 209, 92, 93, 32, 33, 34, 191, 296, 300, 373, 71, 94, 185, 186, 294, 310, 66, 172, 173, 99, 100, 101, 102, 103, 104, 105, 106, 107, 108, 109, 95, 88, 89, 229, 144, 154, 98, 169, 295, 334, 332, 110, 301, 302, 305, 303, 304, 83, 84, 85, 111, 112, 113, 114, 115, 116, 117, 118, 119, 120, 121, 122, 319, 309, 316, 315, 50, 45, 181, 182, 183, 184, 96, 128, 129, 130, 131, 17, 237, 238, 239, 240, 241, 242, 243, 244, 245, 246, 247, 248, 249, 170, 171, 298, 297, 330, 49, 306, 307, 308, 311, 312, 314, 318, 190, 27, 123, 124, 125, 126, 127, 140, 136, 141, 42, 43, 266, 267, 44, 55, 317, 51, 47, 132, 133, 134, 135, 137, 138, 52, 53, 54, 142, 143, 145, 146, 56, 0, 0, 0, 0, 0, 0, 0, 0, 0, 0, 0, 0, 0, 0, 0, 0, 0]
def inv (g : Nat) : Option Nat := match tab[g]? with | some (k + 1) => some k | _ => none
section
set_option maxRecDepth 100000
theorem e5 : zlY Go.Proofs.Tryz.prog inv Go.Proofs.Tryz.f5 = some cd359 := by kernel_rfl
theorem e6 : zlY Go.Proofs.Tryz.prog inv Go.Proofs.Tryz.f6 = some cd360 := by kernel_rfl
theorem e8 : zlY Go.Proofs.Tryz.prog inv Go.Proofs.Tryz.f8 = some cd362 := by kernel_rfl
theorem e11 : zlY Go.Proofs.Tryz.prog inv Go.Proofs.Tryz.f11 = some cd374 := by kernel_rfl
theorem e12 : zlY Go.Proofs.Tryz.prog inv Go.Proofs.Tryz.f12 = some cd375 := by kernel_rfl
theorem e13 : zlY Go.Proofs.Tryz.prog inv Go.Proofs.Tryz.f13 = some cd376 := by kernel_rfl
theorem e14 : zlY Go.Proofs.Tryz.prog inv Go.Proofs.Tryz.f14 = some cd71 := by kernel_rfl
theorem e15 : zlY Go.Proofs.Tryz.prog inv Go.Proofs.Tryz.f15 = some cd8 := by kernel_rfl
theorem e17 : zlY Go.Proofs.Tryz.prog inv Go.Proofs.Tryz.f17 = some cd179 := by kernel_rfl
theorem e20 : zlY Go.Proofs.Tryz.prog inv Go.Proofs.Tryz.f20 = some cd162 := by kernel_rfl
theorem e22 : zlY Go.Proofs.Tryz.prog inv Go.Proofs.Tryz.f22 = some cd163 := by kernel_rfl
theorem e25 : zlY Go.Proofs.Tryz.prog inv Go.Proofs.Tryz.f25 = some cd159 := by kernel_rfl
theorem e26 : zlY Go.Proofs.Tryz.prog inv Go.Proofs.Tryz.f26 = some cd69 := by kernel_rfl
theorem e27 : zlY Go.Proofs.Tryz.prog inv Go.Proofs.Tryz.f27 = some cd76 := by kernel_rfl
theorem e28 : zlY Go.Proofs.Tryz.prog inv Go.Proofs.Tryz.f28 = some cd367 := by kernel_rfl
theorem e29 : zlY Go.Proofs.Tryz.prog inv Go.Proofs.Tryz.f29 = some cd164 := by kernel_rfl
theorem e30 : zlY Go.Proofs.Tryz.prog inv Go.Proofs.Tryz.f30 = some cd73 := by kernel_rfl
theorem e31 : zlY Go.Proofs.Tryz.prog inv Go.Proofs.Tryz.f31 = some cd368 := by kernel_rfl
theorem e32 : zlY Go.Proofs.Tryz.prog inv Go.Proofs.Tryz.f32 = some cd369 := by kernel_rfl
theorem e33 : zlY Go.Proofs.Tryz.prog inv Go.Proofs.Tryz.f33 = some cd11 := by kernel_rfl
theorem e34 : zlY Go.Proofs.Tryz.prog inv Go.Proofs.Tryz.f34 = some cd67 := by kernel_rfl
theorem e35 : zlY Go.Proofs.Tryz.prog inv Go.Proofs.Tryz.f35 = some cd78 := by kernel_rfl
theorem e38 : zlY Go.Proofs.Tryz.prog inv Go.Proofs.Tryz.f38 = some cd198 := by kernel_rfl
theorem e40 : zlY Go.Proofs.Tryz.prog inv Go.Proofs.Tryz.f40 = some cd207 := by kernel_rfl
theorem e42 : zlY Go.Proofs.Tryz.prog inv Go.Proofs.Tryz.f42 = some cd205 := by kernel_rfl
theorem e43 : zlY Go.Proofs.Tryz.prog inv Go.Proofs.Tryz.f43 = some cd77 := by kernel_rfl
theorem e44 : zlY Go.Proofs.Tryz.prog inv Go.Proofs.Tryz.f44 = some cd383 := by kernel_rfl
theorem e45 : zlY Go.Proofs.Tryz.prog inv Go.Proofs.Tryz.f45 = some cd384 := by kernel_rfl
theorem e46 : zlY Go.Proofs.Tryz.prog inv Go.Proofs.Tryz.f46 = some cd9 := by kernel_rfl
theorem e47 : zlY Go.Proofs.Tryz.prog inv Go.Proofs.Tryz.f47 = some cd186 := by kernel_rfl
theorem e48 : zlY Go.Proofs.Tryz.prog inv Go.Proofs.Tryz.f48 = some cd96 := by kernel_rfl
theorem e49 : zlY Go.Proofs.Tryz.prog inv Go.Proofs.Tryz.f49 = some cd187 := by kernel_rfl
theorem e50 : zlY Go.Proofs.Tryz.prog inv Go.Proofs.Tryz.f50 = some cd188 := by kernel_rfl
theorem e53 : zlY Go.Proofs.Tryz.prog inv Go.Proofs.Tryz.f53 = some cd79 := by kernel_rfl
theorem e54 : zlY Go.Proofs.Tryz.prog inv Go.Proofs.Tryz.f54 = some cd173 := by kernel_rfl
theorem e55 : zlY Go.Proofs.Tryz.prog inv Go.Proofs.Tryz.f55 = some cd174 := by kernel_rfl
theorem e56 : zlY Go.Proofs.Tryz.prog inv Go.Proofs.Tryz.f56 = some cd175 := by kernel_rfl
theorem e57 : zlY Go.Proofs.Tryz.prog inv Go.Proofs.Tryz.f57 = some cd176 := by kernel_rfl
theorem e58 : zlY Go.Proofs.Tryz.prog inv Go.Proofs.Tryz.f58 = some cd177 := by kernel_rfl
theorem e59 : zlY Go.Proofs.Tryz.prog inv Go.Proofs.Tryz.f59 = some cd178 := by kernel_rfl
theorem e64 : zlY Go.Proofs.Tryz.prog inv Go.Proofs.Tryz.f64 = some cd160 := by kernel_rfl
theorem e65 : zlY Go.Proofs.Tryz.prog inv Go.Proofs.Tryz.f65 = some cd156 := by kernel_rfl
theorem e66 : zlY Go.Proofs.Tryz.prog inv Go.Proofs.Tryz.f66 = some cd161 := by kernel_rfl
theorem e67 : zlY Go.Proofs.Tryz.prog inv Go.Proofs.Tryz.f67 = some cd89 := by kernel_rfl
theorem e68 : zlY Go.Proofs.Tryz.prog inv Go.Proofs.Tryz.f68 = some cd90 := by kernel_rfl
theorem e69 : zlY Go.Proofs.Tryz.prog inv Go.Proofs.Tryz.f69 = some cd165 := by kernel_rfl
theorem e70 : zlY Go.Proofs.Tryz.prog inv Go.Proofs.Tryz.f70 = some cd166 := by kernel_rfl
theorem e71 : zlY Go.Proofs.Tryz.prog inv Go.Proofs.Tryz.f71 = some cd167 := by kernel_rfl
theorem e72 : zlY Go.Proofs.Tryz.prog inv Go.Proofs.Tryz.f72 = some cd85 := by kernel_rfl
theorem e73 : zlY Go.Proofs.Tryz.prog inv Go.Proofs.Tryz.f73 = some cd86 := by kernel_rfl
theorem e74 : zlY Go.Proofs.Tryz.prog inv Go.Proofs.Tryz.f74 = some cd34 := by kernel_rfl
theorem e75 : zlY Go.Proofs.Tryz.prog inv Go.Proofs.Tryz.f75 = some cd35 := by kernel_rfl
theorem e76 : zlY Go.Proofs.Tryz.prog inv Go.Proofs.Tryz.f76 = some cd36 := by kernel_rfl
theorem e77 : zlY Go.Proofs.Tryz.prog inv Go.Proofs.Tryz.f77 = some cd80 := by kernel_rfl
theorem e78 : zlY Go.Proofs.Tryz.prog inv Go.Proofs.Tryz.f78 = some cd81 := by kernel_rfl
theorem e81 : zlY Go.Proofs.Tryz.prog inv Go.Proofs.Tryz.f81 = some cd74 := by kernel_rfl
theorem e82 : zlY Go.Proofs.Tryz.prog inv Go.Proofs.Tryz.f82 = some cd213 := by kernel_rfl
theorem e85 : zlY Go.Proofs.Tryz.prog inv Go.Proofs.Tryz.f85 = some cd138 := by kernel_rfl
theorem e86 : zlY Go.Proofs.Tryz.prog inv Go.Proofs.Tryz.f86 = some cd214 := by kernel_rfl
theorem e87 : zlY Go.Proofs.Tryz.prog inv Go.Proofs.Tryz.f87 = some cd219 := by kernel_rfl
theorem e88 : zlY Go.Proofs.Tryz.prog inv Go.Proofs.Tryz.f88 = some cd220 := by kernel_rfl
theorem e89 : zlY Go.Proofs.Tryz.prog inv Go.Proofs.Tryz.f89 = some cd221 := by kernel_rfl
theorem e90 : zlY Go.Proofs.Tryz.prog inv Go.Proofs.Tryz.f90 = some cd222 := by kernel_rfl
theorem e91 : zlY Go.Proofs.Tryz.prog inv Go.Proofs.Tryz.f91 = some cd151 := by kernel_rfl
theorem e92 : zlY Go.Proofs.Tryz.prog inv Go.Proofs.Tryz.f92 = some cd223 := by kernel_rfl
theorem e93 : zlY Go.Proofs.Tryz.prog inv Go.Proofs.Tryz.f93 = some cd224 := by kernel_rfl
theorem e98 : zlY Go.Proofs.Tryz.prog inv Go.Proofs.Tryz.f98 = some cd206 := by kernel_rfl
theorem e99 : zlY Go.Proofs.Tryz.prog inv Go.Proofs.Tryz.f99 = some cd208 := by kernel_rfl
theorem e100 : zlY Go.Proofs.Tryz.prog inv Go.Proofs.Tryz.f100 = some cd91 := by kernel_rfl
theorem e101 : zlY Go.Proofs.Tryz.prog inv Go.Proofs.Tryz.f101 = some cd92 := by kernel_rfl
theorem e102 : zlY Go.Proofs.Tryz.prog inv Go.Proofs.Tryz.f102 = some cd31 := by kernel_rfl
theorem e103 : zlY Go.Proofs.Tryz.prog inv Go.Proofs.Tryz.f103 = some cd32 := by kernel_rfl
theorem e104 : zlY Go.Proofs.Tryz.prog inv Go.Proofs.Tryz.f104 = some cd33 := by kernel_rfl
theorem e105 : zlY Go.Proofs.Tryz.prog inv Go.Proofs.Tryz.f105 = some cd190 := by kernel_rfl
theorem e109 : zlY Go.Proofs.Tryz.prog inv Go.Proofs.Tryz.f109 = some cd70 := by kernel_rfl
theorem e110 : zlY Go.Proofs.Tryz.prog inv Go.Proofs.Tryz.f110 = some cd93 := by kernel_rfl
theorem e111 : zlY Go.Proofs.Tryz.prog inv Go.Proofs.Tryz.f111 = some cd184 := by kernel_rfl
theorem e112 : zlY Go.Proofs.Tryz.prog inv Go.Proofs.Tryz.f112 = some cd185 := by kernel_rfl
theorem e115 : zlY Go.Proofs.Tryz.prog inv Go.Proofs.Tryz.f115 = some cd65 := by kernel_rfl
theorem e116 : zlY Go.Proofs.Tryz.prog inv Go.Proofs.Tryz.f116 = some cd171 := by kernel_rfl
theorem e117 : zlY Go.Proofs.Tryz.prog inv Go.Proofs.Tryz.f117 = some cd172 := by kernel_rfl
theorem e118 : zlY Go.Proofs.Tryz.prog inv Go.Proofs.Tryz.f118 = some cd98 := by kernel_rfl
theorem e119 : zlY Go.Proofs.Tryz.prog inv Go.Proofs.Tryz.f119 = some cd99 := by kernel_rfl
theorem e120 : zlY Go.Proofs.Tryz.prog inv Go.Proofs.Tryz.f120 = some cd100 := by kernel_rfl
theorem e121 : zlY Go.Proofs.Tryz.prog inv Go.Proofs.Tryz.f121 = some cd101 := by kernel_rfl
theorem e122 : zlY Go.Proofs.Tryz.prog inv Go.Proofs.Tryz.f122 = some cd102 := by kernel_rfl
theorem e123 : zlY Go.Proofs.Tryz.prog inv Go.Proofs.Tryz.f123 = some cd103 := by kernel_rfl
theorem e124 : zlY Go.Proofs.Tryz.prog inv Go.Proofs.Tryz.f124 = some cd104 := by kernel_rfl
theorem e125 : zlY Go.Proofs.Tryz.prog inv Go.Proofs.Tryz.f125 = some cd105 := by kernel_rfl
theorem e126 : zlY Go.Proofs.Tryz.prog inv Go.Proofs.Tryz.f126 = some cd106 := by kernel_rfl
theorem e127 : zlY Go.Proofs.Tryz.prog inv Go.Proofs.Tryz.f127 = some cd107 := by kernel_rfl
theorem e128 : zlY Go.Proofs.Tryz.prog inv Go.Proofs.Tryz.f128 = some cd108 := by kernel_rfl
theorem e129 : zlY Go.Proofs.Tryz.prog inv Go.Proofs.Tryz.f129 = some cd94 := by kernel_rfl
theorem e130 : zlY Go.Proofs.Tryz.prog inv Go.Proofs.Tryz.f130 = some cd87 := by kernel_rfl
theorem e131 : zlY Go.Proofs.Tryz.prog inv Go.Proofs.Tryz.f131 = some cd88 := by kernel_rfl
theorem e132 : zlY Go.Proofs.Tryz.prog inv Go.Proofs.Tryz.f132 = some cd228 := by kernel_rfl
theorem e133 : zlY Go.Proofs.Tryz.prog inv Go.Proofs.Tryz.f133 = some cd143 := by kernel_rfl
theorem e134 : zlY Go.Proofs.Tryz.prog inv Go.Proofs.Tryz.f134 = some cd153 := by kernel_rfl
theorem e135 : zlY Go.Proofs.Tryz.prog inv Go.Proofs.Tryz.f135 = some cd97 := by kernel_rfl
theorem e136 : zlY Go.Proofs.Tryz.prog inv Go.Proofs.Tryz.f136 = some cd168 := by kernel_rfl
theorem e140 : zlY Go.Proofs.Tryz.prog inv Go.Proofs.Tryz.f140 = some cd109 := by kernel_rfl
theorem e146 : zlY Go.Proofs.Tryz.prog inv Go.Proofs.Tryz.f146 = some cd82 := by kernel_rfl
theorem e147 : zlY Go.Proofs.Tryz.prog inv Go.Proofs.Tryz.f147 = some cd83 := by kernel_rfl
theorem e148 : zlY Go.Proofs.Tryz.prog inv Go.Proofs.Tryz.f148 = some cd84 := by kernel_rfl
theorem e149 : zlY Go.Proofs.Tryz.prog inv Go.Proofs.Tryz.f149 = some cd110 := by kernel_rfl
theorem e150 : zlY Go.Proofs.Tryz.prog inv Go.Proofs.Tryz.f150 = some cd111 := by kernel_rfl
theorem e151 : zlY Go.Proofs.Tryz.prog inv Go.Proofs.Tryz.f151 = some cd112 := by kernel_rfl
theorem e152 : zlY Go.Proofs.Tryz.prog inv Go.Proofs.Tryz.f152 = some cd113 := by kernel_rfl
theorem e153 : zlY Go.Proofs.Tryz.prog inv Go.Proofs.Tryz.f153 = some cd114 := by kernel_rfl
theorem e154 : zlY Go.Proofs.Tryz.prog inv Go.Proofs.Tryz.f154 = some cd115 := by kernel_rfl
theorem e155 : zlY Go.Proofs.Tryz.prog inv Go.Proofs.Tryz.f155 = some cd116 := by kernel_rfl
theorem e156 : zlY Go.Proofs.Tryz.prog inv Go.Proofs.Tryz.f156 = some cd117 := by kernel_rfl
theorem e157 : zlY Go.Proofs.Tryz.prog inv Go.Proofs.Tryz.f157 = some cd118 := by kernel_rfl
theorem e158 : zlY Go.Proofs.Tryz.prog inv Go.Proofs.Tryz.f158 = some cd119 := by kernel_rfl
theorem e159 : zlY Go.Proofs.Tryz.prog inv Go.Proofs.Tryz.f159 = some cd120 := by kernel_rfl
theorem e160 : zlY Go.Proofs.Tryz.prog inv Go.Proofs.Tryz.f160 = some cd121 := by kernel_rfl
theorem e167 : zlY Go.Proofs.Tryz.prog inv Go.Proofs.Tryz.f167 = some cd180 := by kernel_rfl
theorem e168 : zlY Go.Proofs.Tryz.prog inv Go.Proofs.Tryz.f168 = some cd181 := by kernel_rfl
theorem e169 : zlY Go.Proofs.Tryz.prog inv Go.Proofs.Tryz.f169 = some cd182 := by kernel_rfl
theorem e170 : zlY Go.Proofs.Tryz.prog inv Go.Proofs.Tryz.f170 = some cd183 := by kernel_rfl
theorem e171 : zlY Go.Proofs.Tryz.prog inv Go.Proofs.Tryz.f171 = some cd95 := by kernel_rfl
theorem e172 : zlY Go.Proofs.Tryz.prog inv Go.Proofs.Tryz.f172 = some cd127 := by kernel_rfl
theorem e173 : zlY Go.Proofs.Tryz.prog inv Go.Proofs.Tryz.f173 = some cd128 := by kernel_rfl
theorem e174 : zlY Go.Proofs.Tryz.prog inv Go.Proofs.Tryz.f174 = some cd129 := by kernel_rfl
theorem e175 : zlY Go.Proofs.Tryz.prog inv Go.Proofs.Tryz.f175 = some cd130 := by kernel_rfl
theorem e176 : zlY Go.Proofs.Tryz.prog inv Go.Proofs.Tryz.f176 = some cd16 := by kernel_rfl
theorem e177 : zlY Go.Proofs.Tryz.prog inv Go.Proofs.Tryz.f177 = some cd236 := by kernel_rfl
theorem e178 : zlY Go.Proofs.Tryz.prog inv Go.Proofs.Tryz.f178 = some cd237 := by kernel_rfl
theorem e179 : zlY Go.Proofs.Tryz.prog inv Go.Proofs.Tryz.f179 = some cd238 := by kernel_rfl
theorem e180 : zlY Go.Proofs.Tryz.prog inv Go.Proofs.Tryz.f180 = some cd239 := by kernel_rfl
theorem e181 : zlY Go.Proofs.Tryz.prog inv Go.Proofs.Tryz.f181 = some cd240 := by kernel_rfl
theorem e182 : zlY Go.Proofs.Tryz.prog inv Go.Proofs.Tryz.f182 = some cd241 := by kernel_rfl
theorem e183 : zlY Go.Proofs.Tryz.prog inv Go.Proofs.Tryz.f183 = some cd242 := by kernel_rfl
theorem e184 : zlY Go.Proofs.Tryz.prog inv Go.Proofs.Tryz.f184 = some cd243 := by kernel_rfl
theorem e185 : zlY Go.Proofs.Tryz.prog inv Go.Proofs.Tryz.f185 = some cd244 := by kernel_rfl
theorem e186 : zlY Go.Proofs.Tryz.prog inv Go.Proofs.Tryz.f186 = some cd245 := by kernel_rfl
theorem e187 : zlY Go.Proofs.Tryz.prog inv Go.Proofs.Tryz.f187 = some cd246 := by kernel_rfl
theorem e188 : zlY Go.Proofs.Tryz.prog inv Go.Proofs.Tryz.f188 = some cd247 := by kernel_rfl
theorem e189 : zlY Go.Proofs.Tryz.prog inv Go.Proofs.Tryz.f189 = some cd248 := by kernel_rfl
theorem e190 : zlY Go.Proofs.Tryz.prog inv Go.Proofs.Tryz.f190 = some cd169 := by kernel_rfl
theorem e191 : zlY Go.Proofs.Tryz.prog inv Go.Proofs.Tryz.f191 = some cd170 := by kernel_rfl
theorem e203 : zlY Go.Proofs.Tryz.prog inv Go.Proofs.Tryz.f203 = some cd189 := by kernel_rfl
theorem e204 : zlY Go.Proofs.Tryz.prog inv Go.Proofs.Tryz.f204 = some cd26 := by kernel_rfl
theorem e205 : zlY Go.Proofs.Tryz.prog inv Go.Proofs.Tryz.f205 = some cd122 := by kernel_rfl
theorem e206 : zlY Go.Proofs.Tryz.prog inv Go.Proofs.Tryz.f206 = some cd123 := by kernel_rfl
theorem e207 : zlY Go.Proofs.Tryz.prog inv Go.Proofs.Tryz.f207 = some cd124 := by kernel_rfl
theorem e208 : zlY Go.Proofs.Tryz.prog inv Go.Proofs.Tryz.f208 = some cd125 := by kernel_rfl
theorem e209 : zlY Go.Proofs.Tryz.prog inv Go.Proofs.Tryz.f209 = some cd126 := by kernel_rfl
theorem e210 : zlY Go.Proofs.Tryz.prog inv Go.Proofs.Tryz.f210 = some cd139 := by kernel_rfl
theorem e211 : zlY Go.Proofs.Tryz.prog inv Go.Proofs.Tryz.f211 = some cd135 := by kernel_rfl
theorem e212 : zlY Go.Proofs.Tryz.prog inv Go.Proofs.Tryz.f212 = some cd140 := by kernel_rfl
theorem e213 : zlY Go.Proofs.Tryz.prog inv Go.Proofs.Tryz.f213 = some cd41 := by kernel_rfl
theorem e214 : zlY Go.Proofs.Tryz.prog inv Go.Proofs.Tryz.f214 = some cd42 := by kernel_rfl
theorem e215 : zlY Go.Proofs.Tryz.prog inv Go.Proofs.Tryz.f215 = some cd265 := by kernel_rfl
theorem e216 : zlY Go.Proofs.Tryz.prog inv Go.Proofs.Tryz.f216 = some cd266 := by kernel_rfl
theorem e220 : zlY Go.Proofs.Tryz.prog inv Go.Proofs.Tryz.f220 = some cd50 := by kernel_rfl
theorem e221 : zlY Go.Proofs.Tryz.prog inv Go.Proofs.Tryz.f221 = some cd46 := by kernel_rfl
theorem e222 : zlY Go.Proofs.Tryz.prog inv Go.Proofs.Tryz.f222 = some cd131 := by kernel_rfl
theorem e223 : zlY Go.Proofs.Tryz.prog inv Go.Proofs.Tryz.f223 = some cd132 := by kernel_rfl
theorem e224 : zlY Go.Proofs.Tryz.prog inv Go.Proofs.Tryz.f224 = some cd133 := by kernel_rfl
theorem e225 : zlY Go.Proofs.Tryz.prog inv Go.Proofs.Tryz.f225 = some cd134 := by kernel_rfl
theorem e226 : zlY Go.Proofs.Tryz.prog inv Go.Proofs.Tryz.f226 = some cd136 := by kernel_rfl
theorem e227 : zlY Go.Proofs.Tryz.prog inv Go.Proofs.Tryz.f227 = some cd137 := by kernel_rfl
theorem e228 : zlY Go.Proofs.Tryz.prog inv Go.Proofs.Tryz.f228 = some cd51 := by kernel_rfl
theorem e229 : zlY Go.Proofs.Tryz.prog inv Go.Proofs.Tryz.f229 = some cd52 := by kernel_rfl
theorem e230 : zlY Go.Proofs.Tryz.prog inv Go.Proofs.Tryz.f230 = some cd53 := by kernel_rfl
theorem e231 : zlY Go.Proofs.Tryz.prog inv Go.Proofs.Tryz.f231 = some cd141 := by kernel_rfl
theorem e232 : zlY Go.Proofs.Tryz.prog inv Go.Proofs.Tryz.f232 = some cd142 := by kernel_rfl
theorem e233 : zlY Go.Proofs.Tryz.prog inv Go.Proofs.Tryz.f233 = some cd144 := by kernel_rfl
theorem e234 : zlY Go.Proofs.Tryz.prog inv Go.Proofs.Tryz.f234 = some cd145 := by kernel_rfl
theorem e235 : zlY Go.Proofs.Tryz.prog inv Go.Proofs.Tryz.f235 = some cd55 := by kernel_rfl
theorem has : ∀ (g j : Nat) (F : AFn), inv g = some j → code j = some F → ∃ fn, Go.Proofs.Tryz.prog.funcs[g]? = some fn ∧ zlY Go.Proofs.Tryz.prog inv fn = some F
  | 0, j, F, h, hc => absurd h (by intro h; cases h)
  | 1, j, F, h, hc => absurd h (by intro h; cases h)
  | 2, j, F, h, hc => absurd h (by intro h; cases h)
  | 3, j, F, h, hc => by
    obtain rfl : 357 = j := Option.some.inj h
    exact absurd hc (by intro h; cases h)
  | 4, j, F, h, hc => by
    obtain rfl : 358 = j := Option.some.inj h
    exact absurd hc (by intro h; cases h)
  | 5, j, F, h, hc => by
    obtain rfl : 359 = j := Option.some.inj h
    obtain rfl : cd359 = F := Option.some.inj hc
    exact ⟨Go.Proofs.Tryz.f5, Go.Proofs.Tryz.func5, e5⟩
  | 6, j, F, h, hc => by
    obtain rfl : 360 = j := Option.some.inj h
    obtain rfl : cd360 = F := Option.some.inj hc
    exact ⟨Go.Proofs.Tryz.f6, Go.Proofs.Tryz.func6, e6⟩
  | 7, j, F, h, hc => by
    obtain rfl : 361 = j := Option.some.inj h
    exact absurd hc (by intro h; cases h)
  | 8, j, F, h, hc => by
    obtain rfl : 362 = j := Option.some.inj h
    obtain rfl : cd362 = F := Option.some.inj hc
    exact ⟨Go.Proofs.Tryz.f8, Go.Proofs.Tryz.func8, e8⟩
  | 9, j, F, h, hc => by
    obtain rfl : 341 = j := Option.some.inj h
    exact absurd hc (by intro h; cases h)
  | 10, j, F, h, hc => by
    obtain rfl : 373 = j := Option.some.inj h
    exact absurd hc (by intro h; cases h)
  | 11, j, F, h, hc => by
    obtain rfl : 374 = j := Option.some.inj h
    obtain rfl : cd374 = F := Option.some.inj hc
    exact ⟨Go.Proofs.Tryz.f11, Go.Proofs.Tryz.func11, e11⟩
  | 12, j, F, h, hc => by
    obtain rfl : 375 = j := Option.some.inj h
    obtain rfl : cd375 = F := Option.some.inj hc
    exact ⟨Go.Proofs.Tryz.f12, Go.Proofs.Tryz.func12, e12⟩
  | 13, j, F, h, hc => by
    obtain rfl : 376 = j := Option.some.inj h
    obtain rfl : cd376 = F := Option.some.inj hc
    exact ⟨Go.Proofs.Tryz.f13, Go.Proofs.Tryz.func13, e13⟩
  | 14, j, F, h, hc => by
    obtain rfl : 71 = j := Option.some.inj h
    obtain rfl : cd71 = F := Option.some.inj hc
    exact ⟨Go.Proofs.Tryz.f14, Go.Proofs.Tryz.func14, e14⟩
  | 15, j, F, h, hc => by
    obtain rfl : 8 = j := Option.some.inj h
    obtain rfl : cd8 = F := Option.some.inj hc
    exact ⟨Go.Proofs.Tryz.f15, Go.Proofs.Tryz.func15, e15⟩
  | 16, j, F, h, hc => by
    obtain rfl : 14 = j := Option.some.inj h
    exact absurd hc (by intro h; cases h)
  | 17, j, F, h, hc => by
    obtain rfl : 179 = j := Option.some.inj h
    obtain rfl : cd179 = F := Option.some.inj hc
    exact ⟨Go.Proofs.Tryz.f17, Go.Proofs.Tryz.func17, e17⟩
  | 18, j, F, h, hc => by
    obtain rfl : 363 = j := Option.some.inj h
    exact absurd hc (by intro h; cases h)
  | 19, j, F, h, hc => by
    obtain rfl : 10 = j := Option.some.inj h
    exact absurd hc (by intro h; cases h)
  | 20, j, F, h, hc => by
    obtain rfl : 162 = j := Option.some.inj h
    obtain rfl : cd162 = F := Option.some.inj hc
    exact ⟨Go.Proofs.Tryz.f20, Go.Proofs.Tryz.func20, e20⟩
  | 21, j, F, h, hc => by
    obtain rfl : 364 = j := Option.some.inj h
    exact absurd hc (by intro h; cases h)
  | 22, j, F, h, hc => by
    obtain rfl : 163 = j := Option.some.inj h
    obtain rfl : cd163 = F := Option.some.inj hc
    exact ⟨Go.Proofs.Tryz.f22, Go.Proofs.Tryz.func22, e22⟩
  | 23, j, F, h, hc => by
    obtain rfl : 365 = j := Option.some.inj h
    exact absurd hc (by intro h; cases h)
  | 24, j, F, h, hc => by
    obtain rfl : 366 = j := Option.some.inj h
    exact absurd hc (by intro h; cases h)
  | 25, j, F, h, hc => by
    obtain rfl : 159 = j := Option.some.inj h
    obtain rfl : cd159 = F := Option.some.inj hc
    exact ⟨Go.Proofs.Tryz.f25, Go.Proofs.Tryz.func25, e25⟩
  | 26, j, F, h, hc => by
    obtain rfl : 69 = j := Option.some.inj h
    obtain rfl : cd69 = F := Option.some.inj hc
    exact ⟨Go.Proofs.Tryz.f26, Go.Proofs.Tryz.func26, e26⟩
  | 27, j, F, h, hc => by
    obtain rfl : 76 = j := Option.some.inj h
    obtain rfl : cd76 = F := Option.some.inj hc
    exact ⟨Go.Proofs.Tryz.f27, Go.Proofs.Tryz.func27, e27⟩
  | 28, j, F, h, hc => by
    obtain rfl : 367 = j := Option.some.inj h
    obtain rfl : cd367 = F := Option.some.inj hc
    exact ⟨Go.Proofs.Tryz.f28, Go.Proofs.Tryz.func28, e28⟩
  | 29, j, F, h, hc => by
    obtain rfl : 164 = j := Option.some.inj h
    obtain rfl : cd164 = F := Option.some.inj hc
    exact ⟨Go.Proofs.Tryz.f29, Go.Proofs.Tryz.func29, e29⟩
  | 30, j, F, h, hc => by
    obtain rfl : 73 = j := Option.some.inj h
    obtain rfl : cd73 = F := Option.some.inj hc
    exact ⟨Go.Proofs.Tryz.f30, Go.Proofs.Tryz.func30, e30⟩
  | 31, j, F, h, hc => by
    obtain rfl : 368 = j := Option.some.inj h
    obtain rfl : cd368 = F := Option.some.inj hc
    exact ⟨Go.Proofs.Tryz.f31, Go.Proofs.Tryz.func31, e31⟩
  | 32, j, F, h, hc => by
    obtain rfl : 369 = j := Option.some.inj h
    obtain rfl : cd369 = F := Option.some.inj hc
    exact ⟨Go.Proofs.Tryz.f32, Go.Proofs.Tryz.func32, e32⟩
  | 33, j, F, h, hc => by
    obtain rfl : 11 = j := Option.some.inj h
    obtain rfl : cd11 = F := Option.some.inj hc
    exact ⟨Go.Proofs.Tryz.f33, Go.Proofs.Tryz.func33, e33⟩
  | 34, j, F, h, hc => by
    obtain rfl : 67 = j := Option.some.inj h
    obtain rfl : cd67 = F := Option.some.inj hc
    exact ⟨Go.Proofs.Tryz.f34, Go.Proofs.Tryz.func34, e34⟩
  | 35, j, F, h, hc => by
    obtain rfl : 78 = j := Option.some.inj h
    obtain rfl : cd78 = F := Option.some.inj hc
    exact ⟨Go.Proofs.Tryz.f35, Go.Proofs.Tryz.func35, e35⟩
  | 36, j, F, h, hc => by
    obtain rfl : 195 = j := Option.some.inj h
    exact absurd hc (by intro h; cases h)
  | 37, j, F, h, hc => by
    obtain rfl : 199 = j := Option.some.inj h
    exact absurd hc (by intro h; cases h)
  | 38, j, F, h, hc => by
    obtain rfl : 198 = j := Option.some.inj h
    obtain rfl : cd198 = F := Option.some.inj hc
    exact ⟨Go.Proofs.Tryz.f38, Go.Proofs.Tryz.func38, e38⟩
  | 39, j, F, h, hc => by
    obtain rfl : 351 = j := Option.some.inj h
    exact absurd hc (by intro h; cases h)
  | 40, j, F, h, hc => by
    obtain rfl : 207 = j := Option.some.inj h
    obtain rfl : cd207 = F := Option.some.inj hc
    exact ⟨Go.Proofs.Tryz.f40, Go.Proofs.Tryz.func40, e40⟩
  | 41, j, F, h, hc => by
    obtain rfl : 382 = j := Option.some.inj h
    exact absurd hc (by intro h; cases h)
  | 42, j, F, h, hc => by
    obtain rfl : 205 = j := Option.some.inj h
    obtain rfl : cd205 = F := Option.some.inj hc
    exact ⟨Go.Proofs.Tryz.f42, Go.Proofs.Tryz.func42, e42⟩
  | 43, j, F, h, hc => by
    obtain rfl : 77 = j := Option.some.inj h
    obtain rfl : cd77 = F := Option.some.inj hc
    exact ⟨Go.Proofs.Tryz.f43, Go.Proofs.Tryz.func43, e43⟩
  | 44, j, F, h, hc => by
    obtain rfl : 383 = j := Option.some.inj h
    obtain rfl : cd383 = F := Option.some.inj hc
    exact ⟨Go.Proofs.Tryz.f44, Go.Proofs.Tryz.func44, e44⟩
  | 45, j, F, h, hc => by
    obtain rfl : 384 = j := Option.some.inj h
    obtain rfl : cd384 = F := Option.some.inj hc
    exact ⟨Go.Proofs.Tryz.f45, Go.Proofs.Tryz.func45, e45⟩
  | 46, j, F, h, hc => by
    obtain rfl : 9 = j := Option.some.inj h
    obtain rfl : cd9 = F := Option.some.inj hc
    exact ⟨Go.Proofs.Tryz.f46, Go.Proofs.Tryz.func46, e46⟩
  | 47, j, F, h, hc => by
    obtain rfl : 186 = j := Option.some.inj h
    obtain rfl : cd186 = F := Option.some.inj hc
    exact ⟨Go.Proofs.Tryz.f47, Go.Proofs.Tryz.func47, e47⟩
  | 48, j, F, h, hc => by
    obtain rfl : 96 = j := Option.some.inj h
    obtain rfl : cd96 = F := Option.some.inj hc
    exact ⟨Go.Proofs.Tryz.f48, Go.Proofs.Tryz.func48, e48⟩
  | 49, j, F, h, hc => by
    obtain rfl : 187 = j := Option.some.inj h
    obtain rfl : cd187 = F := Option.some.inj hc
    exact ⟨Go.Proofs.Tryz.f49, Go.Proofs.Tryz.func49, e49⟩
  | 50, j, F, h, hc => by
    obtain rfl : 188 = j := Option.some.inj h
    obtain rfl : cd188 = F := Option.some.inj hc
    exact ⟨Go.Proofs.Tryz.f50, Go.Proofs.Tryz.func50, e50⟩
  | 51, j, F, h, hc => by
    obtain rfl : 292 = j := Option.some.inj h
    exact absurd hc (by intro h; cases h)
  | 52, j, F, h, hc => by
    obtain rfl : 370 = j := Option.some.inj h
    exact absurd hc (by intro h; cases h)
  | 53, j, F, h, hc => by
    obtain rfl : 79 = j := Option.some.inj h
    obtain rfl : cd79 = F := Option.some.inj hc
    exact ⟨Go.Proofs.Tryz.f53, Go.Proofs.Tryz.func53, e53⟩
  | 54, j, F, h, hc => by
    obtain rfl : 173 = j := Option.some.inj h
    obtain rfl : cd173 = F := Option.some.inj hc
    exact ⟨Go.Proofs.Tryz.f54, Go.Proofs.Tryz.func54, e54⟩
  | 55, j, F, h, hc => by
    obtain rfl : 174 = j := Option.some.inj h
    obtain rfl : cd174 = F := Option.some.inj hc
    exact ⟨Go.Proofs.Tryz.f55, Go.Proofs.Tryz.func55, e55⟩
  | 56, j, F, h, hc => by
    obtain rfl : 175 = j := Option.some.inj h
    obtain rfl : cd175 = F := Option.some.inj hc
    exact ⟨Go.Proofs.Tryz.f56, Go.Proofs.Tryz.func56, e56⟩
  | 57, j, F, h, hc => by
    obtain rfl : 176 = j := Option.some.inj h
    obtain rfl : cd176 = F := Option.some.inj hc
    exact ⟨Go.Proofs.Tryz.f57, Go.Proofs.Tryz.func57, e57⟩
  | 58, j, F, h, hc => by
    obtain rfl : 177 = j := Option.some.inj h
    obtain rfl : cd177 = F := Option.some.inj hc
    exact ⟨Go.Proofs.Tryz.f58, Go.Proofs.Tryz.func58, e58⟩
  | 59, j, F, h, hc => by
    obtain rfl : 178 = j := Option.some.inj h
    obtain rfl : cd178 = F := Option.some.inj hc
    exact ⟨Go.Proofs.Tryz.f59, Go.Proofs.Tryz.func59, e59⟩
  | 60, j, F, h, hc => by
    obtain rfl : 334 = j := Option.some.inj h
    exact absurd hc (by intro h; cases h)
  | 61, j, F, h, hc => by
    obtain rfl : 335 = j := Option.some.inj h
    exact absurd hc (by intro h; cases h)
  | 62, j, F, h, hc => by
    obtain rfl : 312 = j := Option.some.inj h
    exact absurd hc (by intro h; cases h)
  | 63, j, F, h, hc => by
    obtain rfl : 371 = j := Option.some.inj h
    exact absurd hc (by intro h; cases h)
  | 64, j, F, h, hc => by
    obtain rfl : 160 = j := Option.some.inj h
    obtain rfl : cd160 = F := Option.some.inj hc
    exact ⟨Go.Proofs.Tryz.f64, Go.Proofs.Tryz.func64, e64⟩
  | 65, j, F, h, hc => by
    obtain rfl : 156 = j := Option.some.inj h
    obtain rfl : cd156 = F := Option.some.inj hc
    exact ⟨Go.Proofs.Tryz.f65, Go.Proofs.Tryz.func65, e65⟩
  | 66, j, F, h, hc => by
    obtain rfl : 161 = j := Option.some.inj h
    obtain rfl : cd161 = F := Option.some.inj hc
    exact ⟨Go.Proofs.Tryz.f66, Go.Proofs.Tryz.func66, e66⟩
  | 67, j, F, h, hc => by
    obtain rfl : 89 = j := Option.some.inj h
    obtain rfl : cd89 = F := Option.some.inj hc
    exact ⟨Go.Proofs.Tryz.f67, Go.Proofs.Tryz.func67, e67⟩
  | 68, j, F, h, hc => by
    obtain rfl : 90 = j := Option.some.inj h
    obtain rfl : cd90 = F := Option.some.inj hc
    exact ⟨Go.Proofs.Tryz.f68, Go.Proofs.Tryz.func68, e68⟩
  | 69, j, F, h, hc => by
    obtain rfl : 165 = j := Option.some.inj h
    obtain rfl : cd165 = F := Option.some.inj hc
    exact ⟨Go.Proofs.Tryz.f69, Go.Proofs.Tryz.func69, e69⟩
  | 70, j, F, h, hc => by
    obtain rfl : 166 = j := Option.some.inj h
    obtain rfl : cd166 = F := Option.some.inj hc
    exact ⟨Go.Proofs.Tryz.f70, Go.Proofs.Tryz.func70, e70⟩
  | 71, j, F, h, hc => by
    obtain rfl : 167 = j := Option.some.inj h
    obtain rfl : cd167 = F := Option.some.inj hc
    exact ⟨Go.Proofs.Tryz.f71, Go.Proofs.Tryz.func71, e71⟩
  | 72, j, F, h, hc => by
    obtain rfl : 85 = j := Option.some.inj h
    obtain rfl : cd85 = F := Option.some.inj hc
    exact ⟨Go.Proofs.Tryz.f72, Go.Proofs.Tryz.func72, e72⟩
  | 73, j, F, h, hc => by
    obtain rfl : 86 = j := Option.some.inj h
    obtain rfl : cd86 = F := Option.some.inj hc
    exact ⟨Go.Proofs.Tryz.f73, Go.Proofs.Tryz.func73, e73⟩
  | 74, j, F, h, hc => by
    obtain rfl : 34 = j := Option.some.inj h
    obtain rfl : cd34 = F := Option.some.inj hc
    exact ⟨Go.Proofs.Tryz.f74, Go.Proofs.Tryz.func74, e74⟩
  | 75, j, F, h, hc => by
    obtain rfl : 35 = j := Option.some.inj h
    obtain rfl : cd35 = F := Option.some.inj hc
    exact ⟨Go.Proofs.Tryz.f75, Go.Proofs.Tryz.func75, e75⟩
  | 76, j, F, h, hc => by
    obtain rfl : 36 = j := Option.some.inj h
    obtain rfl : cd36 = F := Option.some.inj hc
    exact ⟨Go.Proofs.Tryz.f76, Go.Proofs.Tryz.func76, e76⟩
  | 77, j, F, h, hc => by
    obtain rfl : 80 = j := Option.some.inj h
    obtain rfl : cd80 = F := Option.some.inj hc
    exact ⟨Go.Proofs.Tryz.f77, Go.Proofs.Tryz.func77, e77⟩
  | 78, j, F, h, hc => by
    obtain rfl : 81 = j := Option.some.inj h
    obtain rfl : cd81 = F := Option.some.inj hc
    exact ⟨Go.Proofs.Tryz.f78, Go.Proofs.Tryz.func78, e78⟩
  | 79, j, F, h, hc => by
    obtain rfl : 196 = j := Option.some.inj h
    exact absurd hc (by intro h; cases h)
  | 80, j, F, h, hc => by
    obtain rfl : 197 = j := Option.some.inj h
    exact absurd hc (by intro h; cases h)
  | 81, j, F, h, hc => by
    obtain rfl : 74 = j := Option.some.inj h
    obtain rfl : cd74 = F := Option.some.inj hc
    exact ⟨Go.Proofs.Tryz.f81, Go.Proofs.Tryz.func81, e81⟩
  | 82, j, F, h, hc => by
    obtain rfl : 213 = j := Option.some.inj h
    obtain rfl : cd213 = F := Option.some.inj hc
    exact ⟨Go.Proofs.Tryz.f82, Go.Proofs.Tryz.func82, e82⟩
  | 83, j, F, h, hc => by
    obtain rfl : 215 = j := Option.some.inj h
    exact absurd hc (by intro h; cases h)
  | 84, j, F, h, hc => by
    obtain rfl : 216 = j := Option.some.inj h
    exact absurd hc (by intro h; cases h)
  | 85, j, F, h, hc => by
    obtain rfl : 138 = j := Option.some.inj h
    obtain rfl : cd138 = F := Option.some.inj hc
    exact ⟨Go.Proofs.Tryz.f85, Go.Proofs.Tryz.func85, e85⟩
  | 86, j, F, h, hc => by
    obtain rfl : 214 = j := Option.some.inj h
    obtain rfl : cd214 = F := Option.some.inj hc
    exact ⟨Go.Proofs.Tryz.f86, Go.Proofs.Tryz.func86, e86⟩
  | 87, j, F, h, hc => by
    obtain rfl : 219 = j := Option.some.inj h
    obtain rfl : cd219 = F := Option.some.inj hc
    exact ⟨Go.Proofs.Tryz.f87, Go.Proofs.Tryz.func87, e87⟩
  | 88, j, F, h, hc => by
    obtain rfl : 220 = j := Option.some.inj h
    obtain rfl : cd220 = F := Option.some.inj hc
    exact ⟨Go.Proofs.Tryz.f88, Go.Proofs.Tryz.func88, e88⟩
  | 89, j, F, h, hc => by
    obtain rfl : 221 = j := Option.some.inj h
    obtain rfl : cd221 = F := Option.some.inj hc
    exact ⟨Go.Proofs.Tryz.f89, Go.Proofs.Tryz.func89, e89⟩
  | 90, j, F, h, hc => by
    obtain rfl : 222 = j := Option.some.inj h
    obtain rfl : cd222 = F := Option.some.inj hc
    exact ⟨Go.Proofs.Tryz.f90, Go.Proofs.Tryz.func90, e90⟩
  | 91, j, F, h, hc => by
    obtain rfl : 151 = j := Option.some.inj h
    obtain rfl : cd151 = F := Option.some.inj hc
    exact ⟨Go.Proofs.Tryz.f91, Go.Proofs.Tryz.func91, e91⟩
  | 92, j, F, h, hc => by
    obtain rfl : 223 = j := Option.some.inj h
    obtain rfl : cd223 = F := Option.some.inj hc
    exact ⟨Go.Proofs.Tryz.f92, Go.Proofs.Tryz.func92, e92⟩
  | 93, j, F, h, hc => by
    obtain rfl : 224 = j := Option.some.inj h
    obtain rfl : cd224 = F := Option.some.inj hc
    exact ⟨Go.Proofs.Tryz.f93, Go.Proofs.Tryz.func93, e93⟩
  | 94, j, F, h, hc => by
    obtain rfl : 285 = j := Option.some.inj h
    exact absurd hc (by intro h; cases h)
  | 95, j, F, h, hc => by
    obtain rfl : 286 = j := Option.some.inj h
    exact absurd hc (by intro h; cases h)
  | 96, j, F, h, hc => by
    obtain rfl : 328 = j := Option.some.inj h
    exact absurd hc (by intro h; cases h)
  | 97, j, F, h, hc => by
    obtain rfl : 330 = j := Option.some.inj h
    exact absurd hc (by intro h; cases h)
  | 98, j, F, h, hc => by
    obtain rfl : 206 = j := Option.some.inj h
    obtain rfl : cd206 = F := Option.some.inj hc
    exact ⟨Go.Proofs.Tryz.f98, Go.Proofs.Tryz.func98, e98⟩
  | 99, j, F, h, hc => by
    obtain rfl : 208 = j := Option.some.inj h
    obtain rfl : cd208 = F := Option.some.inj hc
    exact ⟨Go.Proofs.Tryz.f99, Go.Proofs.Tryz.func99, e99⟩
  | 100, j, F, h, hc => by
    obtain rfl : 91 = j := Option.some.inj h
    obtain rfl : cd91 = F := Option.some.inj hc
    exact ⟨Go.Proofs.Tryz.f100, Go.Proofs.Tryz.func100, e100⟩
  | 101, j, F, h, hc => by
    obtain rfl : 92 = j := Option.some.inj h
    obtain rfl : cd92 = F := Option.some.inj hc
    exact ⟨Go.Proofs.Tryz.f101, Go.Proofs.Tryz.func101, e101⟩
  | 102, j, F, h, hc => by
    obtain rfl : 31 = j := Option.some.inj h
    obtain rfl : cd31 = F := Option.some.inj hc
    exact ⟨Go.Proofs.Tryz.f102, Go.Proofs.Tryz.func102, e102⟩
  | 103, j, F, h, hc => by
    obtain rfl : 32 = j := Option.some.inj h
    obtain rfl : cd32 = F := Option.some.inj hc
    exact ⟨Go.Proofs.Tryz.f103, Go.Proofs.Tryz.func103, e103⟩
  | 104, j, F, h, hc => by
    obtain rfl : 33 = j := Option.some.inj h
    obtain rfl : cd33 = F := Option.some.inj hc
    exact ⟨Go.Proofs.Tryz.f104, Go.Proofs.Tryz.func104, e104⟩
  | 105, j, F, h, hc => by
    obtain rfl : 190 = j := Option.some.inj h
    obtain rfl : cd190 = F := Option.some.inj hc
    exact ⟨Go.Proofs.Tryz.f105, Go.Proofs.Tryz.func105, e105⟩
  | 106, j, F, h, hc => by
    obtain rfl : 295 = j := Option.some.inj h
    exact absurd hc (by intro h; cases h)
  | 107, j, F, h, hc => by
    obtain rfl : 299 = j := Option.some.inj h
    exact absurd hc (by intro h; cases h)
  | 108, j, F, h, hc => by
    obtain rfl : 372 = j := Option.some.inj h
    exact absurd hc (by intro h; cases h)
  | 109, j, F, h, hc => by
    obtain rfl : 70 = j := Option.some.inj h
    obtain rfl : cd70 = F := Option.some.inj hc
    exact ⟨Go.Proofs.Tryz.f109, Go.Proofs.Tryz.func109, e109⟩
  | 110, j, F, h, hc => by
    obtain rfl : 93 = j := Option.some.inj h
    obtain rfl : cd93 = F := Option.some.inj hc
    exact ⟨Go.Proofs.Tryz.f110, Go.Proofs.Tryz.func110, e110⟩
  | 111, j, F, h, hc => by
    obtain rfl : 184 = j := Option.some.inj h
    obtain rfl : cd184 = F := Option.some.inj hc
    exact ⟨Go.Proofs.Tryz.f111, Go.Proofs.Tryz.func111, e111⟩
  | 112, j, F, h, hc => by
    obtain rfl : 185 = j := Option.some.inj h
    obtain rfl : cd185 = F := Option.some.inj hc
    exact ⟨Go.Proofs.Tryz.f112, Go.Proofs.Tryz.func112, e112⟩
  | 113, j, F, h, hc => by
    obtain rfl : 293 = j := Option.some.inj h
    exact absurd hc (by intro h; cases h)
  | 114, j, F, h, hc => by
    obtain rfl : 309 = j := Option.some.inj h
    exact absurd hc (by intro h; cases h)
  | 115, j, F, h, hc => by
    obtain rfl : 65 = j := Option.some.inj h
    obtain rfl : cd65 = F := Option.some.inj hc
    exact ⟨Go.Proofs.Tryz.f115, Go.Proofs.Tryz.func115, e115⟩
  | 116, j, F, h, hc => by
    obtain rfl : 171 = j := Option.some.inj h
    obtain rfl : cd171 = F := Option.some.inj hc
    exact ⟨Go.Proofs.Tryz.f116, Go.Proofs.Tryz.func116, e116⟩
  | 117, j, F, h, hc => by
    obtain rfl : 172 = j := Option.some.inj h
    obtain rfl : cd172 = F := Option.some.inj hc
    exact ⟨Go.Proofs.Tryz.f117, Go.Proofs.Tryz.func117, e117⟩
  | 118, j, F, h, hc => by
    obtain rfl : 98 = j := Option.some.inj h
    obtain rfl : cd98 = F := Option.some.inj hc
    exact ⟨Go.Proofs.Tryz.f118, Go.Proofs.Tryz.func118, e118⟩
  | 119, j, F, h, hc => by
    obtain rfl : 99 = j := Option.some.inj h
    obtain rfl : cd99 = F := Option.some.inj hc
    exact ⟨Go.Proofs.Tryz.f119, Go.Proofs.Tryz.func119, e119⟩
  | 120, j, F, h, hc => by
    obtain rfl : 100 = j := Option.some.inj h
    obtain rfl : cd100 = F := Option.some.inj hc
    exact ⟨Go.Proofs.Tryz.f120, Go.Proofs.Tryz.func120, e120⟩
  | 121, j, F, h, hc => by
    obtain rfl : 101 = j := Option.some.inj h
    obtain rfl : cd101 = F := Option.some.inj hc
    exact ⟨Go.Proofs.Tryz.f121, Go.Proofs.Tryz.func121, e121⟩
  | 122, j, F, h, hc => by
    obtain rfl : 102 = j := Option.some.inj h
    obtain rfl : cd102 = F := Option.some.inj hc
    exact ⟨Go.Proofs.Tryz.f122, Go.Proofs.Tryz.func122, e122⟩
  | 123, j, F, h, hc => by
    obtain rfl : 103 = j := Option.some.inj h
    obtain rfl : cd103 = F := Option.some.inj hc
    exact ⟨Go.Proofs.Tryz.f123, Go.Proofs.Tryz.func123, e123⟩
  | 124, j, F, h, hc => by
    obtain rfl : 104 = j := Option.some.inj h
    obtain rfl : cd104 = F := Option.some.inj hc
    exact ⟨Go.Proofs.Tryz.f124, Go.Proofs.Tryz.func124, e124⟩
  | 125, j, F, h, hc => by
    obtain rfl : 105 = j := Option.some.inj h
    obtain rfl : cd105 = F := Option.some.inj hc
    exact ⟨Go.Proofs.Tryz.f125, Go.Proofs.Tryz.func125, e125⟩
  | 126, j, F, h, hc => by
    obtain rfl : 106 = j := Option.some.inj h
    obtain rfl : cd106 = F := Option.some.inj hc
    exact ⟨Go.Proofs.Tryz.f126, Go.Proofs.Tryz.func126, e126⟩
  | 127, j, F, h, hc => by
    obtain rfl : 107 = j := Option.some.inj h
    obtain rfl : cd107 = F := Option.some.inj hc
    exact ⟨Go.Proofs.Tryz.f127, Go.Proofs.Tryz.func127, e127⟩
  | 128, j, F, h, hc => by
    obtain rfl : 108 = j := Option.some.inj h
    obtain rfl : cd108 = F := Option.some.inj hc
    exact ⟨Go.Proofs.Tryz.f128, Go.Proofs.Tryz.func128, e128⟩
  | 129, j, F, h, hc => by
    obtain rfl : 94 = j := Option.some.inj h
    obtain rfl : cd94 = F := Option.some.inj hc
    exact ⟨Go.Proofs.Tryz.f129, Go.Proofs.Tryz.func129, e129⟩
  | 130, j, F, h, hc => by
    obtain rfl : 87 = j := Option.some.inj h
    obtain rfl : cd87 = F := Option.some.inj hc
    exact ⟨Go.Proofs.Tryz.f130, Go.Proofs.Tryz.func130, e130⟩
  | 131, j, F, h, hc => by
    obtain rfl : 88 = j := Option.some.inj h
    obtain rfl : cd88 = F := Option.some.inj hc
    exact ⟨Go.Proofs.Tryz.f131, Go.Proofs.Tryz.func131, e131⟩
  | 132, j, F, h, hc => by
    obtain rfl : 228 = j := Option.some.inj h
    obtain rfl : cd228 = F := Option.some.inj hc
    exact ⟨Go.Proofs.Tryz.f132, Go.Proofs.Tryz.func132, e132⟩
  | 133, j, F, h, hc => by
    obtain rfl : 143 = j := Option.some.inj h
    obtain rfl : cd143 = F := Option.some.inj hc
    exact ⟨Go.Proofs.Tryz.f133, Go.Proofs.Tryz.func133, e133⟩
  | 134, j, F, h, hc => by
    obtain rfl : 153 = j := Option.some.inj h
    obtain rfl : cd153 = F := Option.some.inj hc
    exact ⟨Go.Proofs.Tryz.f134, Go.Proofs.Tryz.func134, e134⟩
  | 135, j, F, h, hc => by
    obtain rfl : 97 = j := Option.some.inj h
    obtain rfl : cd97 = F := Option.some.inj hc
    exact ⟨Go.Proofs.Tryz.f135, Go.Proofs.Tryz.func135, e135⟩
  | 136, j, F, h, hc => by
    obtain rfl : 168 = j := Option.some.inj h
    obtain rfl : cd168 = F := Option.some.inj hc
    exact ⟨Go.Proofs.Tryz.f136, Go.Proofs.Tryz.func136, e136⟩
  | 137, j, F, h, hc => by
    obtain rfl : 294 = j := Option.some.inj h
    exact absurd hc (by intro h; cases h)
  | 138, j, F, h, hc => by
    obtain rfl : 333 = j := Option.some.inj h
    exact absurd hc (by intro h; cases h)
  | 139, j, F, h, hc => by
    obtain rfl : 331 = j := Option.some.inj h
    exact absurd hc (by intro h; cases h)
  | 140, j, F, h, hc => by
    obtain rfl : 109 = j := Option.some.inj h
    obtain rfl : cd109 = F := Option.some.inj hc
    exact ⟨Go.Proofs.Tryz.f140, Go.Proofs.Tryz.func140, e140⟩
  | 141, j, F, h, hc => by
    obtain rfl : 300 = j := Option.some.inj h
    exact absurd hc (by intro h; cases h)
  | 142, j, F, h, hc => by
    obtain rfl : 301 = j := Option.some.inj h
    exact absurd hc (by intro h; cases h)
  | 143, j, F, h, hc => by
    obtain rfl : 304 = j := Option.some.inj h
    exact absurd hc (by intro h; cases h)
  | 144, j, F, h, hc => by
    obtain rfl : 302 = j := Option.some.inj h
    exact absurd hc (by intro h; cases h)
  | 145, j, F, h, hc => by
    obtain rfl : 303 = j := Option.some.inj h
    exact absurd hc (by intro h; cases h)
  | 146, j, F, h, hc => by
    obtain rfl : 82 = j := Option.some.inj h
    obtain rfl : cd82 = F := Option.some.inj hc
    exact ⟨Go.Proofs.Tryz.f146, Go.Proofs.Tryz.func146, e146⟩
  | 147, j, F, h, hc => by
    obtain rfl : 83 = j := Option.some.inj h
    obtain rfl : cd83 = F := Option.some.inj hc
    exact ⟨Go.Proofs.Tryz.f147, Go.Proofs.Tryz.func147, e147⟩
  | 148, j, F, h, hc => by
    obtain rfl : 84 = j := Option.some.inj h
    obtain rfl : cd84 = F := Option.some.inj hc
    exact ⟨Go.Proofs.Tryz.f148, Go.Proofs.Tryz.func148, e148⟩
  | 149, j, F, h, hc => by
    obtain rfl : 110 = j := Option.some.inj h
    obtain rfl : cd110 = F := Option.some.inj hc
    exact ⟨Go.Proofs.Tryz.f149, Go.Proofs.Tryz.func149, e149⟩
  | 150, j, F, h, hc => by
    obtain rfl : 111 = j := Option.some.inj h
    obtain rfl : cd111 = F := Option.some.inj hc
    exact ⟨Go.Proofs.Tryz.f150, Go.Proofs.Tryz.func150, e150⟩
  | 151, j, F, h, hc => by
    obtain rfl : 112 = j := Option.some.inj h
    obtain rfl : cd112 = F := Option.some.inj hc
    exact ⟨Go.Proofs.Tryz.f151, Go.Proofs.Tryz.func151, e151⟩
  | 152, j, F, h, hc => by
    obtain rfl : 113 = j := Option.some.inj h
    obtain rfl : cd113 = F := Option.some.inj hc
    exact ⟨Go.Proofs.Tryz.f152, Go.Proofs.Tryz.func152, e152⟩
  | 153, j, F, h, hc => by
    obtain rfl : 114 = j := Option.some.inj h
    obtain rfl : cd114 = F := Option.some.inj hc
    exact ⟨Go.Proofs.Tryz.f153, Go.Proofs.Tryz.func153, e153⟩
  | 154, j, F, h, hc => by
    obtain rfl : 115 = j := Option.some.inj h
    obtain rfl : cd115 = F := Option.some.inj hc
    exact ⟨Go.Proofs.Tryz.f154, Go.Proofs.Tryz.func154, e154⟩
  | 155, j, F, h, hc => by
    obtain rfl : 116 = j := Option.some.inj h
    obtain rfl : cd116 = F := Option.some.inj hc
    exact ⟨Go.Proofs.Tryz.f155, Go.Proofs.Tryz.func155, e155⟩
  | 156, j, F, h, hc => by
    obtain rfl : 117 = j := Option.some.inj h
    obtain rfl : cd117 = F := Option.some.inj hc
    exact ⟨Go.Proofs.Tryz.f156, Go.Proofs.Tryz.func156, e156⟩
  | 157, j, F, h, hc => by
    obtain rfl : 118 = j := Option.some.inj h
    obtain rfl : cd118 = F := Option.some.inj hc
    exact ⟨Go.Proofs.Tryz.f157, Go.Proofs.Tryz.func157, e157⟩
  | 158, j, F, h, hc => by
    obtain rfl : 119 = j := Option.some.inj h
    obtain rfl : cd119 = F := Option.some.inj hc
    exact ⟨Go.Proofs.Tryz.f158, Go.Proofs.Tryz.func158, e158⟩
  | 159, j, F, h, hc => by
    obtain rfl : 120 = j := Option.some.inj h
    obtain rfl : cd120 = F := Option.some.inj hc
    exact ⟨Go.Proofs.Tryz.f159, Go.Proofs.Tryz.func159, e159⟩
  | 160, j, F, h, hc => by
    obtain rfl : 121 = j := Option.some.inj h
    obtain rfl : cd121 = F := Option.some.inj hc
    exact ⟨Go.Proofs.Tryz.f160, Go.Proofs.Tryz.func160, e160⟩
  | 161, j, F, h, hc => by
    obtain rfl : 318 = j := Option.some.inj h
    exact absurd hc (by intro h; cases h)
  | 162, j, F, h, hc => by
    obtain rfl : 308 = j := Option.some.inj h
    exact absurd hc (by intro h; cases h)
  | 163, j, F, h, hc => by
    obtain rfl : 315 = j := Option.some.inj h
    exact absurd hc (by intro h; cases h)
  | 164, j, F, h, hc => by
    obtain rfl : 314 = j := Option.some.inj h
    exact absurd hc (by intro h; cases h)
  | 165, j, F, h, hc => by
    obtain rfl : 49 = j := Option.some.inj h
    exact absurd hc (by intro h; cases h)
  | 166, j, F, h, hc => by
    obtain rfl : 44 = j := Option.some.inj h
    exact absurd hc (by intro h; cases h)
  | 167, j, F, h, hc => by
    obtain rfl : 180 = j := Option.some.inj h
    obtain rfl : cd180 = F := Option.some.inj hc
    exact ⟨Go.Proofs.Tryz.f167, Go.Proofs.Tryz.func167, e167⟩
  | 168, j, F, h, hc => by
    obtain rfl : 181 = j := Option.some.inj h
    obtain rfl : cd181 = F := Option.some.inj hc
    exact ⟨Go.Proofs.Tryz.f168, Go.Proofs.Tryz.func168, e168⟩
  | 169, j, F, h, hc => by
    obtain rfl : 182 = j := Option.some.inj h
    obtain rfl : cd182 = F := Option.some.inj hc
    exact ⟨Go.Proofs.Tryz.f169, Go.Proofs.Tryz.func169, e169⟩
  | 170, j, F, h, hc => by
    obtain rfl : 183 = j := Option.some.inj h
    obtain rfl : cd183 = F := Option.some.inj hc
    exact ⟨Go.Proofs.Tryz.f170, Go.Proofs.Tryz.func170, e170⟩
  | 171, j, F, h, hc => by
    obtain rfl : 95 = j := Option.some.inj h
    obtain rfl : cd95 = F := Option.some.inj hc
    exact ⟨Go.Proofs.Tryz.f171, Go.Proofs.Tryz.func171, e171⟩
  | 172, j, F, h, hc => by
    obtain rfl : 127 = j := Option.some.inj h
    obtain rfl : cd127 = F := Option.some.inj hc
    exact ⟨Go.Proofs.Tryz.f172, Go.Proofs.Tryz.func172, e172⟩
  | 173, j, F, h, hc => by
    obtain rfl : 128 = j := Option.some.inj h
    obtain rfl : cd128 = F := Option.some.inj hc
    exact ⟨Go.Proofs.Tryz.f173, Go.Proofs.Tryz.func173, e173⟩
  | 174, j, F, h, hc => by
    obtain rfl : 129 = j := Option.some.inj h
    obtain rfl : cd129 = F := Option.some.inj hc
    exact ⟨Go.Proofs.Tryz.f174, Go.Proofs.Tryz.func174, e174⟩
  | 175, j, F, h, hc => by
    obtain rfl : 130 = j := Option.some.inj h
    obtain rfl : cd130 = F := Option.some.inj hc
    exact ⟨Go.Proofs.Tryz.f175, Go.Proofs.Tryz.func175, e175⟩
  | 176, j, F, h, hc => by
    obtain rfl : 16 = j := Option.some.inj h
    obtain rfl : cd16 = F := Option.some.inj hc
    exact ⟨Go.Proofs.Tryz.f176, Go.Proofs.Tryz.func176, e176⟩
  | 177, j, F, h, hc => by
    obtain rfl : 236 = j := Option.some.inj h
    obtain rfl : cd236 = F := Option.some.inj hc
    exact ⟨Go.Proofs.Tryz.f177, Go.Proofs.Tryz.func177, e177⟩
  | 178, j, F, h, hc => by
    obtain rfl : 237 = j := Option.some.inj h
    obtain rfl : cd237 = F := Option.some.inj hc
    exact ⟨Go.Proofs.Tryz.f178, Go.Proofs.Tryz.func178, e178⟩
  | 179, j, F, h, hc => by
    obtain rfl : 238 = j := Option.some.inj h
    obtain rfl : cd238 = F := Option.some.inj hc
    exact ⟨Go.Proofs.Tryz.f179, Go.Proofs.Tryz.func179, e179⟩
  | 180, j, F, h, hc => by
    obtain rfl : 239 = j := Option.some.inj h
    obtain rfl : cd239 = F := Option.some.inj hc
    exact ⟨Go.Proofs.Tryz.f180, Go.Proofs.Tryz.func180, e180⟩
  | 181, j, F, h, hc => by
    obtain rfl : 240 = j := Option.some.inj h
    obtain rfl : cd240 = F := Option.some.inj hc
    exact ⟨Go.Proofs.Tryz.f181, Go.Proofs.Tryz.func181, e181⟩
  | 182, j, F, h, hc => by
    obtain rfl : 241 = j := Option.some.inj h
    obtain rfl : cd241 = F := Option.some.inj hc
    exact ⟨Go.Proofs.Tryz.f182, Go.Proofs.Tryz.func182, e182⟩
  | 183, j, F, h, hc => by
    obtain rfl : 242 = j := Option.some.inj h
    obtain rfl : cd242 = F := Option.some.inj hc
    exact ⟨Go.Proofs.Tryz.f183, Go.Proofs.Tryz.func183, e183⟩
  | 184, j, F, h, hc => by
    obtain rfl : 243 = j := Option.some.inj h
    obtain rfl : cd243 = F := Option.some.inj hc
    exact ⟨Go.Proofs.Tryz.f184, Go.Proofs.Tryz.func184, e184⟩
  | 185, j, F, h, hc => by
    obtain rfl : 244 = j := Option.some.inj h
    obtain rfl : cd244 = F := Option.some.inj hc
    exact ⟨Go.Proofs.Tryz.f185, Go.Proofs.Tryz.func185, e185⟩
  | 186, j, F, h, hc => by
    obtain rfl : 245 = j := Option.some.inj h
    obtain rfl : cd245 = F := Option.some.inj hc
    exact ⟨Go.Proofs.Tryz.f186, Go.Proofs.Tryz.func186, e186⟩
  | 187, j, F, h, hc => by
    obtain rfl : 246 = j := Option.some.inj h
    obtain rfl : cd246 = F := Option.some.inj hc
    exact ⟨Go.Proofs.Tryz.f187, Go.Proofs.Tryz.func187, e187⟩
  | 188, j, F, h, hc => by
    obtain rfl : 247 = j := Option.some.inj h
    obtain rfl : cd247 = F := Option.some.inj hc
    exact ⟨Go.Proofs.Tryz.f188, Go.Proofs.Tryz.func188, e188⟩
  | 189, j, F, h, hc => by
    obtain rfl : 248 = j := Option.some.inj h
    obtain rfl : cd248 = F := Option.some.inj hc
    exact ⟨Go.Proofs.Tryz.f189, Go.Proofs.Tryz.func189, e189⟩
  | 190, j, F, h, hc => by
    obtain rfl : 169 = j := Option.some.inj h
    obtain rfl : cd169 = F := Option.some.inj hc
    exact ⟨Go.Proofs.Tryz.f190, Go.Proofs.Tryz.func190, e190⟩
  | 191, j, F, h, hc => by
    obtain rfl : 170 = j := Option.some.inj h
    obtain rfl : cd170 = F := Option.some.inj hc
    exact ⟨Go.Proofs.Tryz.f191, Go.Proofs.Tryz.func191, e191⟩
  | 192, j, F, h, hc => by
    obtain rfl : 297 = j := Option.some.inj h
    exact absurd hc (by intro h; cases h)
  | 193, j, F, h, hc => by
    obtain rfl : 296 = j := Option.some.inj h
    exact absurd hc (by intro h; cases h)
  | 194, j, F, h, hc => by
    obtain rfl : 329 = j := Option.some.inj h
    exact absurd hc (by intro h; cases h)
  | 195, j, F, h, hc => by
    obtain rfl : 48 = j := Option.some.inj h
    exact absurd hc (by intro h; cases h)
  | 196, j, F, h, hc => by
    obtain rfl : 305 = j := Option.some.inj h
    exact absurd hc (by intro h; cases h)
  | 197, j, F, h, hc => by
    obtain rfl : 306 = j := Option.some.inj h
    exact absurd hc (by intro h; cases h)
  | 198, j, F, h, hc => by
    obtain rfl : 307 = j := Option.some.inj h
    exact absurd hc (by intro h; cases h)
  | 199, j, F, h, hc => by
    obtain rfl : 310 = j := Option.some.inj h
    exact absurd hc (by intro h; cases h)
  | 200, j, F, h, hc => by
    obtain rfl : 311 = j := Option.some.inj h
    exact absurd hc (by intro h; cases h)
  | 201, j, F, h, hc => by
    obtain rfl : 313 = j := Option.some.inj h
    exact absurd hc (by intro h; cases h)
  | 202, j, F, h, hc => by
    obtain rfl : 317 = j := Option.some.inj h
    exact absurd hc (by intro h; cases h)
  | 203, j, F, h, hc => by
    obtain rfl : 189 = j := Option.some.inj h
    obtain rfl : cd189 = F := Option.some.inj hc
    exact ⟨Go.Proofs.Tryz.f203, Go.Proofs.Tryz.func203, e203⟩
  | 204, j, F, h, hc => by
    obtain rfl : 26 = j := Option.some.inj h
    obtain rfl : cd26 = F := Option.some.inj hc
    exact ⟨Go.Proofs.Tryz.f204, Go.Proofs.Tryz.func204, e204⟩
  | 205, j, F, h, hc => by
    obtain rfl : 122 = j := Option.some.inj h
    obtain rfl : cd122 = F := Option.some.inj hc
    exact ⟨Go.Proofs.Tryz.f205, Go.Proofs.Tryz.func205, e205⟩
  | 206, j, F, h, hc => by
    obtain rfl : 123 = j := Option.some.inj h
    obtain rfl : cd123 = F := Option.some.inj hc
    exact ⟨Go.Proofs.Tryz.f206, Go.Proofs.Tryz.func206, e206⟩
  | 207, j, F, h, hc => by
    obtain rfl : 124 = j := Option.some.inj h
    obtain rfl : cd124 = F := Option.some.inj hc
    exact ⟨Go.Proofs.Tryz.f207, Go.Proofs.Tryz.func207, e207⟩
  | 208, j, F, h, hc => by
    obtain rfl : 125 = j := Option.some.inj h
    obtain rfl : cd125 = F := Option.some.inj hc
    exact ⟨Go.Proofs.Tryz.f208, Go.Proofs.Tryz.func208, e208⟩
  | 209, j, F, h, hc => by
    obtain rfl : 126 = j := Option.some.inj h
    obtain rfl : cd126 = F := Option.some.inj hc
    exact ⟨Go.Proofs.Tryz.f209, Go.Proofs.Tryz.func209, e209⟩
  | 210, j, F, h, hc => by
    obtain rfl : 139 = j := Option.some.inj h
    obtain rfl : cd139 = F := Option.some.inj hc
    exact ⟨Go.Proofs.Tryz.f210, Go.Proofs.Tryz.func210, e210⟩
  | 211, j, F, h, hc => by
    obtain rfl : 135 = j := Option.some.inj h
    obtain rfl : cd135 = F := Option.some.inj hc
    exact ⟨Go.Proofs.Tryz.f211, Go.Proofs.Tryz.func211, e211⟩
  | 212, j, F, h, hc => by
    obtain rfl : 140 = j := Option.some.inj h
    obtain rfl : cd140 = F := Option.some.inj hc
    exact ⟨Go.Proofs.Tryz.f212, Go.Proofs.Tryz.func212, e212⟩
  | 213, j, F, h, hc => by
    obtain rfl : 41 = j := Option.some.inj h
    obtain rfl : cd41 = F := Option.some.inj hc
    exact ⟨Go.Proofs.Tryz.f213, Go.Proofs.Tryz.func213, e213⟩
  | 214, j, F, h, hc => by
    obtain rfl : 42 = j := Option.some.inj h
    obtain rfl : cd42 = F := Option.some.inj hc
    exact ⟨Go.Proofs.Tryz.f214, Go.Proofs.Tryz.func214, e214⟩
  | 215, j, F, h, hc => by
    obtain rfl : 265 = j := Option.some.inj h
    obtain rfl : cd265 = F := Option.some.inj hc
    exact ⟨Go.Proofs.Tryz.f215, Go.Proofs.Tryz.func215, e215⟩
  | 216, j, F, h, hc => by
    obtain rfl : 266 = j := Option.some.inj h
    obtain rfl : cd266 = F := Option.some.inj hc
    exact ⟨Go.Proofs.Tryz.f216, Go.Proofs.Tryz.func216, e216⟩
  | 217, j, F, h, hc => by
    obtain rfl : 43 = j := Option.some.inj h
    exact absurd hc (by intro h; cases h)
  | 218, j, F, h, hc => by
    obtain rfl : 54 = j := Option.some.inj h
    exact absurd hc (by intro h; cases h)
  | 219, j, F, h, hc => by
    obtain rfl : 316 = j := Option.some.inj h
    exact absurd hc (by intro h; cases h)
  | 220, j, F, h, hc => by
    obtain rfl : 50 = j := Option.some.inj h
    obtain rfl : cd50 = F := Option.some.inj hc
    exact ⟨Go.Proofs.Tryz.f220, Go.Proofs.Tryz.func220, e220⟩
  | 221, j, F, h, hc => by
    obtain rfl : 46 = j := Option.some.inj h
    obtain rfl : cd46 = F := Option.some.inj hc
    exact ⟨Go.Proofs.Tryz.f221, Go.Proofs.Tryz.func221, e221⟩
  | 222, j, F, h, hc => by
    obtain rfl : 131 = j := Option.some.inj h
    obtain rfl : cd131 = F := Option.some.inj hc
    exact ⟨Go.Proofs.Tryz.f222, Go.Proofs.Tryz.func222, e222⟩
  | 223, j, F, h, hc => by
    obtain rfl : 132 = j := Option.some.inj h
    obtain rfl : cd132 = F := Option.some.inj hc
    exact ⟨Go.Proofs.Tryz.f223, Go.Proofs.Tryz.func223, e223⟩
  | 224, j, F, h, hc => by
    obtain rfl : 133 = j := Option.some.inj h
    obtain rfl : cd133 = F := Option.some.inj hc
    exact ⟨Go.Proofs.Tryz.f224, Go.Proofs.Tryz.func224, e224⟩
  | 225, j, F, h, hc => by
    obtain rfl : 134 = j := Option.some.inj h
    obtain rfl : cd134 = F := Option.some.inj hc
    exact ⟨Go.Proofs.Tryz.f225, Go.Proofs.Tryz.func225, e225⟩
  | 226, j, F, h, hc => by
    obtain rfl : 136 = j := Option.some.inj h
    obtain rfl : cd136 = F := Option.some.inj hc
    exact ⟨Go.Proofs.Tryz.f226, Go.Proofs.Tryz.func226, e226⟩
  | 227, j, F, h, hc => by
    obtain rfl : 137 = j := Option.some.inj h
    obtain rfl : cd137 = F := Option.some.inj hc
    exact ⟨Go.Proofs.Tryz.f227, Go.Proofs.Tryz.func227, e227⟩
  | 228, j, F, h, hc => by
    obtain rfl : 51 = j := Option.some.inj h
    obtain rfl : cd51 = F := Option.some.inj hc
    exact ⟨Go.Proofs.Tryz.f228, Go.Proofs.Tryz.func228, e228⟩
  | 229, j, F, h, hc => by
    obtain rfl : 52 = j := Option.some.inj h
    obtain rfl : cd52 = F := Option.some.inj hc
    exact ⟨Go.Proofs.Tryz.f229, Go.Proofs.Tryz.func229, e229⟩
  | 230, j, F, h, hc => by
    obtain rfl : 53 = j := Option.some.inj h
    obtain rfl : cd53 = F := Option.some.inj hc
    exact ⟨Go.Proofs.Tryz.f230, Go.Proofs.Tryz.func230, e230⟩
  | 231, j, F, h, hc => by
    obtain rfl : 141 = j := Option.some.inj h
    obtain rfl : cd141 = F := Option.some.inj hc
    exact ⟨Go.Proofs.Tryz.f231, Go.Proofs.Tryz.func231, e231⟩
  | 232, j, F, h, hc => by
    obtain rfl : 142 = j := Option.some.inj h
    obtain rfl : cd142 = F := Option.some.inj hc
    exact ⟨Go.Proofs.Tryz.f232, Go.Proofs.Tryz.func232, e232⟩
  | 233, j, F, h, hc => by
    obtain rfl : 144 = j := Option.some.inj h
    obtain rfl : cd144 = F := Option.some.inj hc
    exact ⟨Go.Proofs.Tryz.f233, Go.Proofs.Tryz.func233, e233⟩
  | 234, j, F, h, hc => by
    obtain rfl : 145 = j := Option.some.inj h
    obtain rfl : cd145 = F := Option.some.inj hc
    exact ⟨Go.Proofs.Tryz.f234, Go.Proofs.Tryz.func234, e234⟩
  | 235, j, F, h, hc => by
    obtain rfl : 55 = j := Option.some.inj h
    obtain rfl : cd55 = F := Option.some.inj hc
    exact ⟨Go.Proofs.Tryz.f235, Go.Proofs.Tryz.func235, e235⟩
  | 236, j, F, h, hc => absurd h (by intro h; cases h)
  | 237, j, F, h, hc => absurd h (by intro h; cases h)
  | 238, j, F, h, hc => absurd h (by intro h; cases h)
  | 239, j, F, h, hc => absurd h (by intro h; cases h)
  | 240, j, F, h, hc => absurd h (by intro h; cases h)
  | 241, j, F, h, hc => absurd h (by intro h; cases h)
  | 242, j, F, h, hc => absurd h (by intro h; cases h)
  | 243, j, F, h, hc => absurd h (by intro h; cases h)
  | 244, j, F, h, hc => absurd h (by intro h; cases h)
  | 245, j, F, h, hc => absurd h (by intro h; cases h)
  | 246, j, F, h, hc => absurd h (by intro h; cases h)
  | 247, j, F, h, hc => absurd h (by intro h; cases h)
  | 248, j, F, h, hc => absurd h (by intro h; cases h)
  | 249, j, F, h, hc => absurd h (by intro h; cases h)
  | 250, j, F, h, hc => absurd h (by intro h; cases h)
  | 251, j, F, h, hc => absurd h (by intro h; cases h)
  | 252, j, F, h, hc => absurd h (by intro h; cases h)
  | g + 253, j, F, h, hc => absurd h (by intro h; cases h)
theorem calls : ∀ (g j : Nat), inv g = some j → ∃ fn, Go.Proofs.Tryz.prog.funcs[g]? = some fn ∧ fn.body.isNone = false ∧ (fn.name == "runtime.NumGoroutine") = false
  | 0, j, h => absurd h (by intro h; cases h)
  | 1, j, h => absurd h (by intro h; cases h)
  | 2, j, h => absurd h (by intro h; cases h)
  | 3, j, h => ⟨Go.Proofs.Tryz.f3, Go.Proofs.Tryz.func3, by kernel_rfl, by kernel_rfl⟩
  | 4, j, h => ⟨Go.Proofs.Tryz.f4, Go.Proofs.Tryz.func4, by kernel_rfl, by kernel_rfl⟩
  | 5, j, h => ⟨Go.Proofs.Tryz.f5, Go.Proofs.Tryz.func5, by kernel_rfl, by kernel_rfl⟩
  | 6, j, h => ⟨Go.Proofs.Tryz.f6, Go.Proofs.Tryz.func6, by kernel_rfl, by kernel_rfl⟩
  | 7, j, h => ⟨Go.Proofs.Tryz.f7, Go.Proofs.Tryz.func7, by kernel_rfl, by kernel_rfl⟩
  | 8, j, h => ⟨Go.Proofs.Tryz.f8, Go.Proofs.Tryz.func8, by kernel_rfl, by kernel_rfl⟩
  | 9, j, h => ⟨Go.Proofs.Tryz.f9, Go.Proofs.Tryz.func9, by kernel_rfl, by kernel_rfl⟩
  | 10, j, h => ⟨Go.Proofs.Tryz.f10, Go.Proofs.Tryz.func10, by kernel_rfl, by kernel_rfl⟩
  | 11, j, h => ⟨Go.Proofs.Tryz.f11, Go.Proofs.Tryz.func11, by kernel_rfl, by kernel_rfl⟩
  | 12, j, h => ⟨Go.Proofs.Tryz.f12, Go.Proofs.Tryz.func12, by kernel_rfl, by kernel_rfl⟩
  | 13, j, h => ⟨Go.Proofs.Tryz.f13, Go.Proofs.Tryz.func13, by kernel_rfl, by kernel_rfl⟩
  | 14, j, h => ⟨Go.Proofs.Tryz.f14, Go.Proofs.Tryz.func14, by kernel_rfl, by kernel_rfl⟩
  | 15, j, h => ⟨Go.Proofs.Tryz.f15, Go.Proofs.Tryz.func15, by kernel_rfl, by kernel_rfl⟩
  | 16, j, h => ⟨Go.Proofs.Tryz.f16, Go.Proofs.Tryz.func16, by kernel_rfl, by kernel_rfl⟩
  | 17, j, h => ⟨Go.Proofs.Tryz.f17, Go.Proofs.Tryz.func17, by kernel_rfl, by kernel_rfl⟩
  | 18, j, h => ⟨Go.Proofs.Tryz.f18, Go.Proofs.Tryz.func18, by kernel_rfl, by kernel_rfl⟩
  | 19, j, h => ⟨Go.Proofs.Tryz.f19, Go.Proofs.Tryz.func19, by kernel_rfl, by kernel_rfl⟩
  | 20, j, h => ⟨Go.Proofs.Tryz.f20, Go.Proofs.Tryz.func20, by kernel_rfl, by kernel_rfl⟩
  | 21, j, h => ⟨Go.Proofs.Tryz.f21, Go.Proofs.Tryz.func21, by kernel_rfl, by kernel_rfl⟩
  | 22, j, h => ⟨Go.Proofs.Tryz.f22, Go.Proofs.Tryz.func22, by kernel_rfl, by kernel_rfl⟩
  | 23, j, h => ⟨Go.Proofs.Tryz.f23, Go.Proofs.Tryz.func23, by kernel_rfl, by kernel_rfl⟩
  | 24, j, h => ⟨Go.Proofs.Tryz.f24, Go.Proofs.Tryz.func24, by kernel_rfl, by kernel_rfl⟩
  | 25, j, h => ⟨Go.Proofs.Tryz.f25, Go.Proofs.Tryz.func25, by kernel_rfl, by kernel_rfl⟩
  | 26, j, h => ⟨Go.Proofs.Tryz.f26, Go.Proofs.Tryz.func26, by kernel_rfl, by kernel_rfl⟩
  | 27, j, h => ⟨Go.Proofs.Tryz.f27, Go.Proofs.Tryz.func27, by kernel_rfl, by kernel_rfl⟩
  | 28, j, h => ⟨Go.Proofs.Tryz.f28, Go.Proofs.Tryz.func28, by kernel_rfl, by kernel_rfl⟩
  | 29, j, h => ⟨Go.Proofs.Tryz.f29, Go.Proofs.Tryz.func29, by kernel_rfl, by kernel_rfl⟩
  | 30, j, h => ⟨Go.Proofs.Tryz.f30, Go.Proofs.Tryz.func30, by kernel_rfl, by kernel_rfl⟩
  | 31, j, h => ⟨Go.Proofs.Tryz.f31, Go.Proofs.Tryz.func31, by kernel_rfl, by kernel_rfl⟩
  | 32, j, h => ⟨Go.Proofs.Tryz.f32, Go.Proofs.Tryz.func32, by kernel_rfl, by kernel_rfl⟩
  | 33, j, h => ⟨Go.Proofs.Tryz.f33, Go.Proofs.Tryz.func33, by kernel_rfl, by kernel_rfl⟩
  | 34, j, h => ⟨Go.Proofs.Tryz.f34, Go.Proofs.Tryz.func34, by kernel_rfl, by kernel_rfl⟩
  | 35, j, h => ⟨Go.Proofs.Tryz.f35, Go.Proofs.Tryz.func35, by kernel_rfl, by kernel_rfl⟩
  | 36, j, h => ⟨Go.Proofs.Tryz.f36, Go.Proofs.Tryz.func36, by kernel_rfl, by kernel_rfl⟩
  | 37, j, h => ⟨Go.Proofs.Tryz.f37, Go.Proofs.Tryz.func37, by kernel_rfl, by kernel_rfl⟩
  | 38, j, h => ⟨Go.Proofs.Tryz.f38, Go.Proofs.Tryz.func38, by kernel_rfl, by kernel_rfl⟩
  | 39, j, h => ⟨Go.Proofs.Tryz.f39, Go.Proofs.Tryz.func39, by kernel_rfl, by kernel_rfl⟩
  | 40, j, h => ⟨Go.Proofs.Tryz.f40, Go.Proofs.Tryz.func40, by kernel_rfl, by kernel_rfl⟩
  | 41, j, h => ⟨Go.Proofs.Tryz.f41, Go.Proofs.Tryz.func41, by kernel_rfl, by kernel_rfl⟩
  | 42, j, h => ⟨Go.Proofs.Tryz.f42, Go.Proofs.Tryz.func42, by kernel_rfl, by kernel_rfl⟩
  | 43, j, h => ⟨Go.Proofs.Tryz.f43, Go.Proofs.Tryz.func43, by kernel_rfl, by kernel_rfl⟩
  | 44, j, h => ⟨Go.Proofs.Tryz.f44, Go.Proofs.Tryz.func44, by kernel_rfl, by kernel_rfl⟩
  | 45, j, h => ⟨Go.Proofs.Tryz.f45, Go.Proofs.Tryz.func45, by kernel_rfl, by kernel_rfl⟩
  | 46, j, h => ⟨Go.Proofs.Tryz.f46, Go.Proofs.Tryz.func46, by kernel_rfl, by kernel_rfl⟩
  | 47, j, h => ⟨Go.Proofs.Tryz.f47, Go.Proofs.Tryz.func47, by kernel_rfl, by kernel_rfl⟩
  | 48, j, h => ⟨Go.Proofs.Tryz.f48, Go.Proofs.Tryz.func48, by kernel_rfl, by kernel_rfl⟩
  | 49, j, h => ⟨Go.Proofs.Tryz.f49, Go.Proofs.Tryz.func49, by kernel_rfl, by kernel_rfl⟩
  | 50, j, h => ⟨Go.Proofs.Tryz.f50, Go.Proofs.Tryz.func50, by kernel_rfl, by kernel_rfl⟩
  | 51, j, h => ⟨Go.Proofs.Tryz.f51, Go.Proofs.Tryz.func51, by kernel_rfl, by kernel_rfl⟩
  | 52, j, h => ⟨Go.Proofs.Tryz.f52, Go.Proofs.Tryz.func52, by kernel_rfl, by kernel_rfl⟩
  | 53, j, h => ⟨Go.Proofs.Tryz.f53, Go.Proofs.Tryz.func53, by kernel_rfl, by kernel_rfl⟩
  | 54, j, h => ⟨Go.Proofs.Tryz.f54, Go.Proofs.Tryz.func54, by kernel_rfl, by kernel_rfl⟩
  | 55, j, h => ⟨Go.Proofs.Tryz.f55, Go.Proofs.Tryz.func55, by kernel_rfl, by kernel_rfl⟩
  | 56, j, h => ⟨Go.Proofs.Tryz.f56, Go.Proofs.Tryz.func56, by kernel_rfl, by kernel_rfl⟩
  | 57, j, h => ⟨Go.Proofs.Tryz.f57, Go.Proofs.Tryz.func57, by kernel_rfl, by kernel_rfl⟩
  | 58, j, h => ⟨Go.Proofs.Tryz.f58, Go.Proofs.Tryz.func58, by kernel_rfl, by kernel_rfl⟩
  | 59, j, h => ⟨Go.Proofs.Tryz.f59, Go.Proofs.Tryz.func59, by kernel_rfl, by kernel_rfl⟩
  | 60, j, h => ⟨Go.Proofs.Tryz.f60, Go.Proofs.Tryz.func60, by kernel_rfl, by kernel_rfl⟩
  | 61, j, h => ⟨Go.Proofs.Tryz.f61, Go.Proofs.Tryz.func61, by kernel_rfl, by kernel_rfl⟩
  | 62, j, h => ⟨Go.Proofs.Tryz.f62, Go.Proofs.Tryz.func62, by kernel_rfl, by kernel_rfl⟩
  | 63, j, h => ⟨Go.Proofs.Tryz.f63, Go.Proofs.Tryz.func63, by kernel_rfl, by kernel_rfl⟩
  | 64, j, h => ⟨Go.Proofs.Tryz.f64, Go.Proofs.Tryz.func64, by kernel_rfl, by kernel_rfl⟩
  | 65, j, h => ⟨Go.Proofs.Tryz.f65, Go.Proofs.Tryz.func65, by kernel_rfl, by kernel_rfl⟩
  | 66, j, h => ⟨Go.Proofs.Tryz.f66, Go.Proofs.Tryz.func66, by kernel_rfl, by kernel_rfl⟩
  | 67, j, h => ⟨Go.Proofs.Tryz.f67, Go.Proofs.Tryz.func67, by kernel_rfl, by kernel_rfl⟩
  | 68, j, h => ⟨Go.Proofs.Tryz.f68, Go.Proofs.Tryz.func68, by kernel_rfl, by kernel_rfl⟩
  | 69, j, h => ⟨Go.Proofs.Tryz.f69, Go.Proofs.Tryz.func69, by kernel_rfl, by kernel_rfl⟩
  | 70, j, h => ⟨Go.Proofs.Tryz.f70, Go.Proofs.Tryz.func70, by kernel_rfl, by kernel_rfl⟩
  | 71, j, h => ⟨Go.Proofs.Tryz.f71, Go.Proofs.Tryz.func71, by kernel_rfl, by kernel_rfl⟩
  | 72, j, h => ⟨Go.Proofs.Tryz.f72, Go.Proofs.Tryz.func72, by kernel_rfl, by kernel_rfl⟩
  | 73, j, h => ⟨Go.Proofs.Tryz.f73, Go.Proofs.Tryz.func73, by kernel_rfl, by kernel_rfl⟩
  | 74, j, h => ⟨Go.Proofs.Tryz.f74, Go.Proofs.Tryz.func74, by kernel_rfl, by kernel_rfl⟩
  | 75, j, h => ⟨Go.Proofs.Tryz.f75, Go.Proofs.Tryz.func75, by kernel_rfl, by kernel_rfl⟩
  | 76, j, h => ⟨Go.Proofs.Tryz.f76, Go.Proofs.Tryz.func76, by kernel_rfl, by kernel_rfl⟩
  | 77, j, h => ⟨Go.Proofs.Tryz.f77, Go.Proofs.Tryz.func77, by kernel_rfl, by kernel_rfl⟩
  | 78, j, h => ⟨Go.Proofs.Tryz.f78, Go.Proofs.Tryz.func78, by kernel_rfl, by kernel_rfl⟩
  | 79, j, h => ⟨Go.Proofs.Tryz.f79, Go.Proofs.Tryz.func79, by kernel_rfl, by kernel_rfl⟩
  | 80, j, h => ⟨Go.Proofs.Tryz.f80, Go.Proofs.Tryz.func80, by kernel_rfl, by kernel_rfl⟩
  | 81, j, h => ⟨Go.Proofs.Tryz.f81, Go.Proofs.Tryz.func81, by kernel_rfl, by kernel_rfl⟩
  | 82, j, h => ⟨Go.Proofs.Tryz.f82, Go.Proofs.Tryz.func82, by kernel_rfl, by kernel_rfl⟩
  | 83, j, h => ⟨Go.Proofs.Tryz.f83, Go.Proofs.Tryz.func83, by kernel_rfl, by kernel_rfl⟩
  | 84, j, h => ⟨Go.Proofs.Tryz.f84, Go.Proofs.Tryz.func84, by kernel_rfl, by kernel_rfl⟩
  | 85, j, h => ⟨Go.Proofs.Tryz.f85, Go.Proofs.Tryz.func85, by kernel_rfl, by kernel_rfl⟩
  | 86, j, h => ⟨Go.Proofs.Tryz.f86, Go.Proofs.Tryz.func86, by kernel_rfl, by kernel_rfl⟩
  | 87, j, h => ⟨Go.Proofs.Tryz.f87, Go.Proofs.Tryz.func87, by kernel_rfl, by kernel_rfl⟩
  | 88, j, h => ⟨Go.Proofs.Tryz.f88, Go.Proofs.Tryz.func88, by kernel_rfl, by kernel_rfl⟩
  | 89, j, h => ⟨Go.Proofs.Tryz.f89, Go.Proofs.Tryz.func89, by kernel_rfl, by kernel_rfl⟩
  | 90, j, h => ⟨Go.Proofs.Tryz.f90, Go.Proofs.Tryz.func90, by kernel_rfl, by kernel_rfl⟩
  | 91, j, h => ⟨Go.Proofs.Tryz.f91, Go.Proofs.Tryz.func91, by kernel_rfl, by kernel_rfl⟩
  | 92, j, h => ⟨Go.Proofs.Tryz.f92, Go.Proofs.Tryz.func92, by kernel_rfl, by kernel_rfl⟩
  | 93, j, h => ⟨Go.Proofs.Tryz.f93, Go.Proofs.Tryz.func93, by kernel_rfl, by kernel_rfl⟩
  | 94, j, h => ⟨Go.Proofs.Tryz.f94, Go.Proofs.Tryz.func94, by kernel_rfl, by kernel_rfl⟩
  | 95, j, h => ⟨Go.Proofs.Tryz.f95, Go.Proofs.Tryz.func95, by kernel_rfl, by kernel_rfl⟩
  | 96, j, h => ⟨Go.Proofs.Tryz.f96, Go.Proofs.Tryz.func96, by kernel_rfl, by kernel_rfl⟩
  | 97, j, h => ⟨Go.Proofs.Tryz.f97, Go.Proofs.Tryz.func97, by kernel_rfl, by kernel_rfl⟩
  | 98, j, h => ⟨Go.Proofs.Tryz.f98, Go.Proofs.Tryz.func98, by kernel_rfl, by kernel_rfl⟩
  | 99, j, h => ⟨Go.Proofs.Tryz.f99, Go.Proofs.Tryz.func99, by kernel_rfl, by kernel_rfl⟩
  | 100, j, h => ⟨Go.Proofs.Tryz.f100, Go.Proofs.Tryz.func100, by kernel_rfl, by kernel_rfl⟩
  | 101, j, h => ⟨Go.Proofs.Tryz.f101, Go.Proofs.Tryz.func101, by kernel_rfl, by kernel_rfl⟩
  | 102, j, h => ⟨Go.Proofs.Tryz.f102, Go.Proofs.Tryz.func102, by kernel_rfl, by kernel_rfl⟩
  | 103, j, h => ⟨Go.Proofs.Tryz.f103, Go.Proofs.Tryz.func103, by kernel_rfl, by kernel_rfl⟩
  | 104, j, h => ⟨Go.Proofs.Tryz.f104, Go.Proofs.Tryz.func104, by kernel_rfl, by kernel_rfl⟩
  | 105, j, h => ⟨Go.Proofs.Tryz.f105, Go.Proofs.Tryz.func105, by kernel_rfl, by kernel_rfl⟩
  | 106, j, h => ⟨Go.Proofs.Tryz.f106, Go.Proofs.Tryz.func106, by kernel_rfl, by kernel_rfl⟩
  | 107, j, h => ⟨Go.Proofs.Tryz.f107, Go.Proofs.Tryz.func107, by kernel_rfl, by kernel_rfl⟩
  | 108, j, h => ⟨Go.Proofs.Tryz.f108, Go.Proofs.Tryz.func108, by kernel_rfl, by kernel_rfl⟩
  | 109, j, h => ⟨Go.Proofs.Tryz.f109, Go.Proofs.Tryz.func109, by kernel_rfl, by kernel_rfl⟩
  | 110, j, h => ⟨Go.Proofs.Tryz.f110, Go.Proofs.Tryz.func110, by kernel_rfl, by kernel_rfl⟩
  | 111, j, h => ⟨Go.Proofs.Tryz.f111, Go.Proofs.Tryz.func111, by kernel_rfl, by kernel_rfl⟩
  | 112, j, h => ⟨Go.Proofs.Tryz.f112, Go.Proofs.Tryz.func112, by kernel_rfl, by kernel_rfl⟩
  | 113, j, h => ⟨Go.Proofs.Tryz.f113, Go.Proofs.Tryz.func113, by kernel_rfl, by kernel_rfl⟩
  | 114, j, h => ⟨Go.Proofs.Tryz.f114, Go.Proofs.Tryz.func114, by kernel_rfl, by kernel_rfl⟩
  | 115, j, h => ⟨Go.Proofs.Tryz.f115, Go.Proofs.Tryz.func115, by kernel_rfl, by kernel_rfl⟩
  | 116, j, h => ⟨Go.Proofs.Tryz.f116, Go.Proofs.Tryz.func116, by kernel_rfl, by kernel_rfl⟩
  | 117, j, h => ⟨Go.Proofs.Tryz.f117, Go.Proofs.Tryz.func117, by kernel_rfl, by kernel_rfl⟩
  | 118, j, h => ⟨Go.Proofs.Tryz.f118, Go.Proofs.Tryz.func118, by kernel_rfl, by kernel_rfl⟩
  | 119, j, h => ⟨Go.Proofs.Tryz.f119, Go.Proofs.Tryz.func119, by kernel_rfl, by kernel_rfl⟩
  | 120, j, h => ⟨Go.Proofs.Tryz.f120, Go.Proofs.Tryz.func120, by kernel_rfl, by kernel_rfl⟩
  | 121, j, h => ⟨Go.Proofs.Tryz.f121, Go.Proofs.Tryz.func121, by kernel_rfl, by kernel_rfl⟩
  | 122, j, h => ⟨Go.Proofs.Tryz.f122, Go.Proofs.Tryz.func122, by kernel_rfl, by kernel_rfl⟩
  | 123, j, h => ⟨Go.Proofs.Tryz.f123, Go.Proofs.Tryz.func123, by kernel_rfl, by kernel_rfl⟩
  | 124, j, h => ⟨Go.Proofs.Tryz.f124, Go.Proofs.Tryz.func124, by kernel_rfl, by kernel_rfl⟩
  | 125, j, h => ⟨Go.Proofs.Tryz.f125, Go.Proofs.Tryz.func125, by kernel_rfl, by kernel_rfl⟩
  | 126, j, h => ⟨Go.Proofs.Tryz.f126, Go.Proofs.Tryz.func126, by kernel_rfl, by kernel_rfl⟩
  | 127, j, h => ⟨Go.Proofs.Tryz.f127, Go.Proofs.Tryz.func127, by kernel_rfl, by kernel_rfl⟩
  | 128, j, h => ⟨Go.Proofs.Tryz.f128, Go.Proofs.Tryz.func128, by kernel_rfl, by kernel_rfl⟩
  | 129, j, h => ⟨Go.Proofs.Tryz.f129, Go.Proofs.Tryz.func129, by kernel_rfl, by kernel_rfl⟩
  | 130, j, h => ⟨Go.Proofs.Tryz.f130, Go.Proofs.Tryz.func130, by kernel_rfl, by kernel_rfl⟩
  | 131, j, h => ⟨Go.Proofs.Tryz.f131, Go.Proofs.Tryz.func131, by kernel_rfl, by kernel_rfl⟩
  | 132, j, h => ⟨Go.Proofs.Tryz.f132, Go.Proofs.Tryz.func132, by kernel_rfl, by kernel_rfl⟩
  | 133, j, h => ⟨Go.Proofs.Tryz.f133, Go.Proofs.Tryz.func133, by kernel_rfl, by kernel_rfl⟩
  | 134, j, h => ⟨Go.Proofs.Tryz.f134, Go.Proofs.Tryz.func134, by kernel_rfl, by kernel_rfl⟩
  | 135, j, h => ⟨Go.Proofs.Tryz.f135, Go.Proofs.Tryz.func135, by kernel_rfl, by kernel_rfl⟩
  | 136, j, h => ⟨Go.Proofs.Tryz.f136, Go.Proofs.Tryz.func136, by kernel_rfl, by kernel_rfl⟩
  | 137, j, h => ⟨Go.Proofs.Tryz.f137, Go.Proofs.Tryz.func137, by kernel_rfl, by kernel_rfl⟩
  | 138, j, h => ⟨Go.Proofs.Tryz.f138, Go.Proofs.Tryz.func138, by kernel_rfl, by kernel_rfl⟩
  | 139, j, h => ⟨Go.Proofs.Tryz.f139, Go.Proofs.Tryz.func139, by kernel_rfl, by kernel_rfl⟩
  | 140, j, h => ⟨Go.Proofs.Tryz.f140, Go.Proofs.Tryz.func140, by kernel_rfl, by kernel_rfl⟩
  | 141, j, h => ⟨Go.Proofs.Tryz.f141, Go.Proofs.Tryz.func141, by kernel_rfl, by kernel_rfl⟩
  | 142, j, h => ⟨Go.Proofs.Tryz.f142, Go.Proofs.Tryz.func142, by kernel_rfl, by kernel_rfl⟩
  | 143, j, h => ⟨Go.Proofs.Tryz.f143, Go.Proofs.Tryz.func143, by kernel_rfl, by kernel_rfl⟩
  | 144, j, h => ⟨Go.Proofs.Tryz.f144, Go.Proofs.Tryz.func144, by kernel_rfl, by kernel_rfl⟩
  | 145, j, h => ⟨Go.Proofs.Tryz.f145, Go.Proofs.Tryz.func145, by kernel_rfl, by kernel_rfl⟩
  | 146, j, h => ⟨Go.Proofs.Tryz.f146, Go.Proofs.Tryz.func146, by kernel_rfl, by kernel_rfl⟩
  | 147, j, h => ⟨Go.Proofs.Tryz.f147, Go.Proofs.Tryz.func147, by kernel_rfl, by kernel_rfl⟩
  | 148, j, h => ⟨Go.Proofs.Tryz.f148, Go.Proofs.Tryz.func148, by kernel_rfl, by kernel_rfl⟩
  | 149, j, h => ⟨Go.Proofs.Tryz.f149, Go.Proofs.Tryz.func149, by kernel_rfl, by kernel_rfl⟩
  | 150, j, h => ⟨Go.Proofs.Tryz.f150, Go.Proofs.Tryz.func150, by kernel_rfl, by kernel_rfl⟩
  | 151, j, h => ⟨Go.Proofs.Tryz.f151, Go.Proofs.Tryz.func151, by kernel_rfl, by kernel_rfl⟩
  | 152, j, h => ⟨Go.Proofs.Tryz.f152, Go.Proofs.Tryz.func152, by kernel_rfl, by kernel_rfl⟩
  | 153, j, h => ⟨Go.Proofs.Tryz.f153, Go.Proofs.Tryz.func153, by kernel_rfl, by kernel_rfl⟩
  | 154, j, h => ⟨Go.Proofs.Tryz.f154, Go.Proofs.Tryz.func154, by kernel_rfl, by kernel_rfl⟩
  | 155, j, h => ⟨Go.Proofs.Tryz.f155, Go.Proofs.Tryz.func155, by kernel_rfl, by kernel_rfl⟩
  | 156, j, h => ⟨Go.Proofs.Tryz.f156, Go.Proofs.Tryz.func156, by kernel_rfl, by kernel_rfl⟩
  | 157, j, h => ⟨Go.Proofs.Tryz.f157, Go.Proofs.Tryz.func157, by kernel_rfl, by kernel_rfl⟩
  | 158, j, h => ⟨Go.Proofs.Tryz.f158, Go.Proofs.Tryz.func158, by kernel_rfl, by kernel_rfl⟩
  | 159, j, h => ⟨Go.Proofs.Tryz.f159, Go.Proofs.Tryz.func159, by kernel_rfl, by kernel_rfl⟩
  | 160, j, h => ⟨Go.Proofs.Tryz.f160, Go.Proofs.Tryz.func160, by kernel_rfl, by kernel_rfl⟩
  | 161, j, h => ⟨Go.Proofs.Tryz.f161, Go.Proofs.Tryz.func161, by kernel_rfl, by kernel_rfl⟩
  | 162, j, h => ⟨Go.Proofs.Tryz.f162, Go.Proofs.Tryz.func162, by kernel_rfl, by kernel_rfl⟩
  | 163, j, h => ⟨Go.Proofs.Tryz.f163, Go.Proofs.Tryz.func163, by kernel_rfl, by kernel_rfl⟩
  | 164, j, h => ⟨Go.Proofs.Tryz.f164, Go.Proofs.Tryz.func164, by kernel_rfl, by kernel_rfl⟩
  | 165, j, h => ⟨Go.Proofs.Tryz.f165, Go.Proofs.Tryz.func165, by kernel_rfl, by kernel_rfl⟩
  | 166, j, h => ⟨Go.Proofs.Tryz.f166, Go.Proofs.Tryz.func166, by kernel_rfl, by kernel_rfl⟩
  | 167, j, h => ⟨Go.Proofs.Tryz.f167, Go.Proofs.Tryz.func167, by kernel_rfl, by kernel_rfl⟩
  | 168, j, h => ⟨Go.Proofs.Tryz.f168, Go.Proofs.Tryz.func168, by kernel_rfl, by kernel_rfl⟩
  | 169, j, h => ⟨Go.Proofs.Tryz.f169, Go.Proofs.Tryz.func169, by kernel_rfl, by kernel_rfl⟩
  | 170, j, h => ⟨Go.Proofs.Tryz.f170, Go.Proofs.Tryz.func170, by kernel_rfl, by kernel_rfl⟩
  | 171, j, h => ⟨Go.Proofs.Tryz.f171, Go.Proofs.Tryz.func171, by kernel_rfl, by kernel_rfl⟩
  | 172, j, h => ⟨Go.Proofs.Tryz.f172, Go.Proofs.Tryz.func172, by kernel_rfl, by kernel_rfl⟩
  | 173, j, h => ⟨Go.Proofs.Tryz.f173, Go.Proofs.Tryz.func173, by kernel_rfl, by kernel_rfl⟩
  | 174, j, h => ⟨Go.Proofs.Tryz.f174, Go.Proofs.Tryz.func174, by kernel_rfl, by kernel_rfl⟩
  | 175, j, h => ⟨Go.Proofs.Tryz.f175, Go.Proofs.Tryz.func175, by kernel_rfl, by kernel_rfl⟩
  | 176, j, h => ⟨Go.Proofs.Tryz.f176, Go.Proofs.Tryz.func176, by kernel_rfl, by kernel_rfl⟩
  | 177, j, h => ⟨Go.Proofs.Tryz.f177, Go.Proofs.Tryz.func177, by kernel_rfl, by kernel_rfl⟩
  | 178, j, h => ⟨Go.Proofs.Tryz.f178, Go.Proofs.Tryz.func178, by kernel_rfl, by kernel_rfl⟩
  | 179, j, h => ⟨Go.Proofs.Tryz.f179, Go.Proofs.Tryz.func179, by kernel_rfl, by kernel_rfl⟩
  | 180, j, h => ⟨Go.Proofs.Tryz.f180, Go.Proofs.Tryz.func180, by kernel_rfl, by kernel_rfl⟩
  | 181, j, h => ⟨Go.Proofs.Tryz.f181, Go.Proofs.Tryz.func181, by kernel_rfl, by kernel_rfl⟩
  | 182, j, h => ⟨Go.Proofs.Tryz.f182, Go.Proofs.Tryz.func182, by kernel_rfl, by kernel_rfl⟩
  | 183, j, h => ⟨Go.Proofs.Tryz.f183, Go.Proofs.Tryz.func183, by kernel_rfl, by kernel_rfl⟩
  | 184, j, h => ⟨Go.Proofs.Tryz.f184, Go.Proofs.Tryz.func184, by kernel_rfl, by kernel_rfl⟩
  | 185, j, h => ⟨Go.Proofs.Tryz.f185, Go.Proofs.Tryz.func185, by kernel_rfl, by kernel_rfl⟩
  | 186, j, h => ⟨Go.Proofs.Tryz.f186, Go.Proofs.Tryz.func186, by kernel_rfl, by kernel_rfl⟩
  | 187, j, h => ⟨Go.Proofs.Tryz.f187, Go.Proofs.Tryz.func187, by kernel_rfl, by kernel_rfl⟩
  | 188, j, h => ⟨Go.Proofs.Tryz.f188, Go.Proofs.Tryz.func188, by kernel_rfl, by kernel_rfl⟩
  | 189, j, h => ⟨Go.Proofs.Tryz.f189, Go.Proofs.Tryz.func189, by kernel_rfl, by kernel_rfl⟩
  | 190, j, h => ⟨Go.Proofs.Tryz.f190, Go.Proofs.Tryz.func190, by kernel_rfl, by kernel_rfl⟩
  | 191, j, h => ⟨Go.Proofs.Tryz.f191, Go.Proofs.Tryz.func191, by kernel_rfl, by kernel_rfl⟩
  | 192, j, h => ⟨Go.Proofs.Tryz.f192, Go.Proofs.Tryz.func192, by kernel_rfl, by kernel_rfl⟩
  | 193, j, h => ⟨Go.Proofs.Tryz.f193, Go.Proofs.Tryz.func193, by kernel_rfl, by kernel_rfl⟩
  | 194, j, h => ⟨Go.Proofs.Tryz.f194, Go.Proofs.Tryz.func194, by kernel_rfl, by kernel_rfl⟩
  | 195, j, h => ⟨Go.Proofs.Tryz.f195, Go.Proofs.Tryz.func195, by kernel_rfl, by kernel_rfl⟩
  | 196, j, h => ⟨Go.Proofs.Tryz.f196, Go.Proofs.Tryz.func196, by kernel_rfl, by kernel_rfl⟩
  | 197, j, h => ⟨Go.Proofs.Tryz.f197, Go.Proofs.Tryz.func197, by kernel_rfl, by kernel_rfl⟩
  | 198, j, h => ⟨Go.Proofs.Tryz.f198, Go.Proofs.Tryz.func198, by kernel_rfl, by kernel_rfl⟩
  | 199, j, h => ⟨Go.Proofs.Tryz.f199, Go.Proofs.Tryz.func199, by kernel_rfl, by kernel_rfl⟩
  | 200, j, h => ⟨Go.Proofs.Tryz.f200, Go.Proofs.Tryz.func200, by kernel_rfl, by kernel_rfl⟩
  | 201, j, h => ⟨Go.Proofs.Tryz.f201, Go.Proofs.Tryz.func201, by kernel_rfl, by kernel_rfl⟩
  | 202, j, h => ⟨Go.Proofs.Tryz.f202, Go.Proofs.Tryz.func202, by kernel_rfl, by kernel_rfl⟩
  | 203, j, h => ⟨Go.Proofs.Tryz.f203, Go.Proofs.Tryz.func203, by kernel_rfl, by kernel_rfl⟩
  | 204, j, h => ⟨Go.Proofs.Tryz.f204, Go.Proofs.Tryz.func204, by kernel_rfl, by kernel_rfl⟩
  | 205, j, h => ⟨Go.Proofs.Tryz.f205, Go.Proofs.Tryz.func205, by kernel_rfl, by kernel_rfl⟩
  | 206, j, h => ⟨Go.Proofs.Tryz.f206, Go.Proofs.Tryz.func206, by kernel_rfl, by kernel_rfl⟩
  | 207, j, h => ⟨Go.Proofs.Tryz.f207, Go.Proofs.Tryz.func207, by kernel_rfl, by kernel_rfl⟩
  | 208, j, h => ⟨Go.Proofs.Tryz.f208, Go.Proofs.Tryz.func208, by kernel_rfl, by kernel_rfl⟩
  | 209, j, h => ⟨Go.Proofs.Tryz.f209, Go.Proofs.Tryz.func209, by kernel_rfl, by kernel_rfl⟩
  | 210, j, h => ⟨Go.Proofs.Tryz.f210, Go.Proofs.Tryz.func210, by kernel_rfl, by kernel_rfl⟩
  | 211, j, h => ⟨Go.Proofs.Tryz.f211, Go.Proofs.Tryz.func211, by kernel_rfl, by kernel_rfl⟩
  | 212, j, h => ⟨Go.Proofs.Tryz.f212, Go.Proofs.Tryz.func212, by kernel_rfl, by kernel_rfl⟩
  | 213, j, h => ⟨Go.Proofs.Tryz.f213, Go.Proofs.Tryz.func213, by kernel_rfl, by kernel_rfl⟩
  | 214, j, h => ⟨Go.Proofs.Tryz.f214, Go.Proofs.Tryz.func214, by kernel_rfl, by kernel_rfl⟩
  | 215, j, h => ⟨Go.Proofs.Tryz.f215, Go.Proofs.Tryz.func215, by kernel_rfl, by kernel_rfl⟩
  | 216, j, h => ⟨Go.Proofs.Tryz.f216, Go.Proofs.Tryz.func216, by kernel_rfl, by kernel_rfl⟩
  | 217, j, h => ⟨Go.Proofs.Tryz.f217, Go.Proofs.Tryz.func217, by kernel_rfl, by kernel_rfl⟩
  | 218, j, h => ⟨Go.Proofs.Tryz.f218, Go.Proofs.Tryz.func218, by kernel_rfl, by kernel_rfl⟩
  | 219, j, h => ⟨Go.Proofs.Tryz.f219, Go.Proofs.Tryz.func219, by kernel_rfl, by kernel_rfl⟩
  | 220, j, h => ⟨Go.Proofs.Tryz.f220, Go.Proofs.Tryz.func220, by kernel_rfl, by kernel_rfl⟩
  | 221, j, h => ⟨Go.Proofs.Tryz.f221, Go.Proofs.Tryz.func221, by kernel_rfl, by kernel_rfl⟩
  | 222, j, h => ⟨Go.Proofs.Tryz.f222, Go.Proofs.Tryz.func222, by kernel_rfl, by kernel_rfl⟩
  | 223, j, h => ⟨Go.Proofs.Tryz.f223, Go.Proofs.Tryz.func223, by kernel_rfl, by kernel_rfl⟩
  | 224, j, h => ⟨Go.Proofs.Tryz.f224, Go.Proofs.Tryz.func224, by kernel_rfl, by kernel_rfl⟩
  | 225, j, h => ⟨Go.Proofs.Tryz.f225, Go.Proofs.Tryz.func225, by kernel_rfl, by kernel_rfl⟩
  | 226, j, h => ⟨Go.Proofs.Tryz.f226, Go.Proofs.Tryz.func226, by kernel_rfl, by kernel_rfl⟩
  | 227, j, h => ⟨Go.Proofs.Tryz.f227, Go.Proofs.Tryz.func227, by kernel_rfl, by kernel_rfl⟩
  | 228, j, h => ⟨Go.Proofs.Tryz.f228, Go.Proofs.Tryz.func228, by kernel_rfl, by kernel_rfl⟩
  | 229, j, h => ⟨Go.Proofs.Tryz.f229, Go.Proofs.Tryz.func229, by kernel_rfl, by kernel_rfl⟩
  | 230, j, h => ⟨Go.Proofs.Tryz.f230, Go.Proofs.Tryz.func230, by kernel_rfl, by kernel_rfl⟩
  | 231, j, h => ⟨Go.Proofs.Tryz.f231, Go.Proofs.Tryz.func231, by kernel_rfl, by kernel_rfl⟩
  | 232, j, h => ⟨Go.Proofs.Tryz.f232, Go.Proofs.Tryz.func232, by kernel_rfl, by kernel_rfl⟩
  | 233, j, h => ⟨Go.Proofs.Tryz.f233, Go.Proofs.Tryz.func233, by kernel_rfl, by kernel_rfl⟩
  | 234, j, h => ⟨Go.Proofs.Tryz.f234, Go.Proofs.Tryz.func234, by kernel_rfl, by kernel_rfl⟩
  | 235, j, h => ⟨Go.Proofs.Tryz.f235, Go.Proofs.Tryz.func235, by kernel_rfl, by kernel_rfl⟩
  | 236, j, h => absurd h (by intro h; cases h)
  | 237, j, h => absurd h (by intro h; cases h)
  | 238, j, h => absurd h (by intro h; cases h)
  | 239, j, h => absurd h (by intro h; cases h)
  | 240, j, h => absurd h (by intro h; cases h)
  | 241, j, h => absurd h (by intro h; cases h)
  | 242, j, h => absurd h (by intro h; cases h)
  | 243, j, h => absurd h (by intro h; cases h)
  | 244, j, h => absurd h (by intro h; cases h)
  | 245, j, h => absurd h (by intro h; cases h)
  | 246, j, h => absurd h (by intro h; cases h)
  | 247, j, h => absurd h (by intro h; cases h)
  | 248, j, h => absurd h (by intro h; cases h)
  | 249, j, h => absurd h (by intro h; cases h)
  | 250, j, h => absurd h (by intro h; cases h)
  | 251, j, h => absurd h (by intro h; cases h)
  | 252, j, h => absurd h (by intro h; cases h)
  | g + 253, j, h => absurd h (by intro h; cases h)
theorem all : HasAll Go.Proofs.Tryz.prog inv := ⟨⟨by kernel_rfl, calls⟩, fun j F hc g hg => has g j F hg hc⟩
end
end Go.Eng.Tryz
