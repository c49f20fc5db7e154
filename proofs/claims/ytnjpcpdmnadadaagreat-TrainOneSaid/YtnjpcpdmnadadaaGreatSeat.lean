/-
  THE SEAT: its functions have the codes that the engine walks.
-/
import Derived.Test.YtnjpcpdmnadadaaGreatChecked
import Derived.Test.YtnjpcpdmnadadaaGreatK11
namespace Go.Eng.Tryz
open Go.Proofs.Tryz
def tab : List Nat := [0,0,0,378,195,379,380,381,382,386,387,211,388,226,389,390,391,210,212,213,392,393,271,77,200,90,394,9,395,227,228,396,397,398,70,230,293,399,66,400,96,25,91,214,216,217,99,100,22,231,232,233,234,235,236,109,50,401,297,402,403,317,20,80,23,250,251,17,252,296,300,404,71,27,123,124,125,126,127,101,102,103,104,105,106,107,108,229,144,128,129,253,68,254,255,256,257,258,259,260,261,19,262,263,264,265,303,311,312,354,44,45,94,47,48,97,268,269,270,42,43,301,302,305,304,295,405,83,84,85,51,132,92,133,134,135,136,137,138,130,131,237,177,238,239,240,241,242,243,178,244,245,246,247,248,249,139,140,272,273,81,82,46,0,275,276,0,278,313,353,111,112,113,114,115,116,117,118,119,120,121,122,52,53,54,279,49,306,307,308,309,310,314,142,110,143,145,146,95,141,185,98,266,186,267,280,199,281,336,56,55,315,316,318,319,282,215,283,294,0,0,0,0,0,0,0,0,0,0,0,0,0,0,0,0,0]
def inv (g : Nat) : Option Nat := match tab[g]? with | some (k + 1) => some k | _ => none
def Good (g : Nat) : Prop := ∀ j F, inv g = some j → code j = some F → ∃ fn, prog.funcs[g]? = some fn ∧ zkN prog inv fn = some F
theorem gd {g j : Nat} {fn : Func} {F : AFn} (h : prog.funcs[g]? = some fn) (hi : inv g = some j) (hc : code j = some F) (e : zkN prog inv fn = some F) : Good g := by
  intro j2 F2 h2 c2
  rw [hi] at h2
  obtain rfl : j = j2 := Option.some.inj h2
  rw [hc] at c2
  obtain rfl : F = F2 := Option.some.inj c2
  exact ⟨fn, h, e⟩
theorem gc {g : Nat} {l : List Nat} (h : Good g) (t : ∀ x ∈ l, Good x) : ∀ x ∈ g :: l, Good x := fun x hx => (List.mem_cons.1 hx).elim (fun e => e ▸ h) (t x)
theorem gn : ∀ x ∈ ([] : List Nat), Good x := fun x hx => absurd hx (by simp)
def noC (g : Nat) : Bool := match inv g with | none => true | some j => (code j).isNone
def okC (fs : Array Func) (g : Nat) : Bool := match inv g with | none => true | some _ => match fs[g]? with | some fn => !fn.body.isNone && !(fn.name == "runtime.NumGoroutine") | none => false
section
set_option maxRecDepth 100000
theorem e4 : zkN prog inv f4 = some cd194 := by kernel_rfl
theorem e5 : zkN prog inv f5 = some cd378 := by kernel_rfl
theorem e6 : zkN prog inv f6 = some cd379 := by kernel_rfl
theorem e7 : zkN prog inv f7 = some cd380 := by kernel_rfl
theorem e8 : zkN prog inv f8 = some cd381 := by kernel_rfl
theorem e9 : zkN prog inv f9 = some cd385 := by kernel_rfl
theorem e11 : zkN prog inv f11 = some cd210 := by kernel_rfl
theorem e13 : zkN prog inv f13 = some cd225 := by kernel_rfl
theorem e17 : zkN prog inv f17 = some cd209 := by kernel_rfl
theorem e18 : zkN prog inv f18 = some cd211 := by kernel_rfl
theorem e19 : zkN prog inv f19 = some cd212 := by kernel_rfl
theorem e20 : zkN prog inv f20 = some cd391 := by kernel_rfl
theorem e21 : zkN prog inv f21 = some cd392 := by kernel_rfl
theorem e22 : zkN prog inv f22 = some cd270 := by kernel_rfl
theorem e23 : zkN prog inv f23 = some cd76 := by kernel_rfl
theorem e24 : zkN prog inv f24 = some cd199 := by kernel_rfl
theorem e25 : zkN prog inv f25 = some cd89 := by kernel_rfl
theorem e26 : zkN prog inv f26 = some cd393 := by kernel_rfl
theorem e27 : zkN prog inv f27 = some cd8 := by kernel_rfl
theorem e28 : zkN prog inv f28 = some cd394 := by kernel_rfl
theorem e29 : zkN prog inv f29 = some cd226 := by kernel_rfl
theorem e30 : zkN prog inv f30 = some cd227 := by kernel_rfl
theorem e34 : zkN prog inv f34 = some cd69 := by kernel_rfl
theorem e35 : zkN prog inv f35 = some cd229 := by kernel_rfl
theorem e38 : zkN prog inv f38 = some cd65 := by kernel_rfl
theorem e39 : zkN prog inv f39 = some cd399 := by kernel_rfl
theorem e40 : zkN prog inv f40 = some cd95 := by kernel_rfl
theorem e41 : zkN prog inv f41 = some cd24 := by kernel_rfl
theorem e42 : zkN prog inv f42 = some cd90 := by kernel_rfl
theorem e43 : zkN prog inv f43 = some cd213 := by kernel_rfl
theorem e44 : zkN prog inv f44 = some cd215 := by kernel_rfl
theorem e45 : zkN prog inv f45 = some cd216 := by kernel_rfl
theorem e46 : zkN prog inv f46 = some cd98 := by kernel_rfl
theorem e47 : zkN prog inv f47 = some cd99 := by kernel_rfl
theorem e48 : zkN prog inv f48 = some cd21 := by kernel_rfl
theorem e49 : zkN prog inv f49 = some cd230 := by kernel_rfl
theorem e50 : zkN prog inv f50 = some cd231 := by kernel_rfl
theorem e51 : zkN prog inv f51 = some cd232 := by kernel_rfl
theorem e52 : zkN prog inv f52 = some cd233 := by kernel_rfl
theorem e53 : zkN prog inv f53 = some cd234 := by kernel_rfl
theorem e54 : zkN prog inv f54 = some cd235 := by kernel_rfl
theorem e55 : zkN prog inv f55 = some cd108 := by kernel_rfl
theorem e56 : zkN prog inv f56 = some cd49 := by kernel_rfl
theorem e63 : zkN prog inv f63 = some cd79 := by kernel_rfl
theorem e64 : zkN prog inv f64 = some cd22 := by kernel_rfl
theorem e65 : zkN prog inv f65 = some cd249 := by kernel_rfl
theorem e66 : zkN prog inv f66 = some cd250 := by kernel_rfl
theorem e67 : zkN prog inv f67 = some cd16 := by kernel_rfl
theorem e68 : zkN prog inv f68 = some cd251 := by kernel_rfl
theorem e72 : zkN prog inv f72 = some cd70 := by kernel_rfl
theorem e73 : zkN prog inv f73 = some cd26 := by kernel_rfl
theorem e74 : zkN prog inv f74 = some cd122 := by kernel_rfl
theorem e75 : zkN prog inv f75 = some cd123 := by kernel_rfl
theorem e76 : zkN prog inv f76 = some cd124 := by kernel_rfl
theorem e77 : zkN prog inv f77 = some cd125 := by kernel_rfl
theorem e78 : zkN prog inv f78 = some cd126 := by kernel_rfl
theorem e79 : zkN prog inv f79 = some cd100 := by kernel_rfl
theorem e80 : zkN prog inv f80 = some cd101 := by kernel_rfl
theorem e81 : zkN prog inv f81 = some cd102 := by kernel_rfl
theorem e82 : zkN prog inv f82 = some cd103 := by kernel_rfl
theorem e83 : zkN prog inv f83 = some cd104 := by kernel_rfl
theorem e84 : zkN prog inv f84 = some cd105 := by kernel_rfl
theorem e85 : zkN prog inv f85 = some cd106 := by kernel_rfl
theorem e86 : zkN prog inv f86 = some cd107 := by kernel_rfl
theorem e87 : zkN prog inv f87 = some cd228 := by kernel_rfl
theorem e88 : zkN prog inv f88 = some cd143 := by kernel_rfl
theorem e89 : zkN prog inv f89 = some cd127 := by kernel_rfl
theorem e90 : zkN prog inv f90 = some cd128 := by kernel_rfl
theorem e91 : zkN prog inv f91 = some cd252 := by kernel_rfl
theorem e92 : zkN prog inv f92 = some cd67 := by kernel_rfl
theorem e93 : zkN prog inv f93 = some cd253 := by kernel_rfl
theorem e94 : zkN prog inv f94 = some cd254 := by kernel_rfl
theorem e95 : zkN prog inv f95 = some cd255 := by kernel_rfl
theorem e96 : zkN prog inv f96 = some cd256 := by kernel_rfl
theorem e97 : zkN prog inv f97 = some cd257 := by kernel_rfl
theorem e98 : zkN prog inv f98 = some cd258 := by kernel_rfl
theorem e99 : zkN prog inv f99 = some cd259 := by kernel_rfl
theorem e100 : zkN prog inv f100 = some cd260 := by kernel_rfl
theorem e101 : zkN prog inv f101 = some cd18 := by kernel_rfl
theorem e102 : zkN prog inv f102 = some cd261 := by kernel_rfl
theorem e103 : zkN prog inv f103 = some cd262 := by kernel_rfl
theorem e104 : zkN prog inv f104 = some cd263 := by kernel_rfl
theorem e105 : zkN prog inv f105 = some cd264 := by kernel_rfl
theorem e110 : zkN prog inv f110 = some cd43 := by kernel_rfl
theorem e112 : zkN prog inv f112 = some cd93 := by kernel_rfl
theorem e113 : zkN prog inv f113 = some cd46 := by kernel_rfl
theorem e114 : zkN prog inv f114 = some cd47 := by kernel_rfl
theorem e115 : zkN prog inv f115 = some cd96 := by kernel_rfl
theorem e116 : zkN prog inv f116 = some cd267 := by kernel_rfl
theorem e117 : zkN prog inv f117 = some cd268 := by kernel_rfl
theorem e118 : zkN prog inv f118 = some cd269 := by kernel_rfl
theorem e119 : zkN prog inv f119 = some cd41 := by kernel_rfl
theorem e120 : zkN prog inv f120 = some cd42 := by kernel_rfl
theorem e127 : zkN prog inv f127 = some cd82 := by kernel_rfl
theorem e128 : zkN prog inv f128 = some cd83 := by kernel_rfl
theorem e129 : zkN prog inv f129 = some cd84 := by kernel_rfl
theorem e130 : zkN prog inv f130 = some cd50 := by kernel_rfl
theorem e131 : zkN prog inv f131 = some cd131 := by kernel_rfl
theorem e132 : zkN prog inv f132 = some cd91 := by kernel_rfl
theorem e133 : zkN prog inv f133 = some cd132 := by kernel_rfl
theorem e134 : zkN prog inv f134 = some cd133 := by kernel_rfl
theorem e135 : zkN prog inv f135 = some cd134 := by kernel_rfl
theorem e136 : zkN prog inv f136 = some cd135 := by kernel_rfl
theorem e137 : zkN prog inv f137 = some cd136 := by kernel_rfl
theorem e138 : zkN prog inv f138 = some cd137 := by kernel_rfl
theorem e139 : zkN prog inv f139 = some cd129 := by kernel_rfl
theorem e140 : zkN prog inv f140 = some cd130 := by kernel_rfl
theorem e141 : zkN prog inv f141 = some cd236 := by kernel_rfl
theorem e142 : zkN prog inv f142 = some cd176 := by kernel_rfl
theorem e143 : zkN prog inv f143 = some cd237 := by kernel_rfl
theorem e144 : zkN prog inv f144 = some cd238 := by kernel_rfl
theorem e145 : zkN prog inv f145 = some cd239 := by kernel_rfl
theorem e146 : zkN prog inv f146 = some cd240 := by kernel_rfl
theorem e147 : zkN prog inv f147 = some cd241 := by kernel_rfl
theorem e148 : zkN prog inv f148 = some cd242 := by kernel_rfl
theorem e149 : zkN prog inv f149 = some cd177 := by kernel_rfl
theorem e150 : zkN prog inv f150 = some cd243 := by kernel_rfl
theorem e151 : zkN prog inv f151 = some cd244 := by kernel_rfl
theorem e152 : zkN prog inv f152 = some cd245 := by kernel_rfl
theorem e153 : zkN prog inv f153 = some cd246 := by kernel_rfl
theorem e154 : zkN prog inv f154 = some cd247 := by kernel_rfl
theorem e155 : zkN prog inv f155 = some cd248 := by kernel_rfl
theorem e156 : zkN prog inv f156 = some cd138 := by kernel_rfl
theorem e157 : zkN prog inv f157 = some cd139 := by kernel_rfl
theorem e158 : zkN prog inv f158 = some cd271 := by kernel_rfl
theorem e159 : zkN prog inv f159 = some cd272 := by kernel_rfl
theorem e160 : zkN prog inv f160 = some cd80 := by kernel_rfl
theorem e161 : zkN prog inv f161 = some cd81 := by kernel_rfl
theorem e162 : zkN prog inv f162 = some cd45 := by kernel_rfl
theorem e164 : zkN prog inv f164 = some cd274 := by kernel_rfl
theorem e165 : zkN prog inv f165 = some cd275 := by kernel_rfl
theorem e167 : zkN prog inv f167 = some cd277 := by kernel_rfl
theorem e170 : zkN prog inv f170 = some cd110 := by kernel_rfl
theorem e171 : zkN prog inv f171 = some cd111 := by kernel_rfl
theorem e172 : zkN prog inv f172 = some cd112 := by kernel_rfl
theorem e173 : zkN prog inv f173 = some cd113 := by kernel_rfl
theorem e174 : zkN prog inv f174 = some cd114 := by kernel_rfl
theorem e175 : zkN prog inv f175 = some cd115 := by kernel_rfl
theorem e176 : zkN prog inv f176 = some cd116 := by kernel_rfl
theorem e177 : zkN prog inv f177 = some cd117 := by kernel_rfl
theorem e178 : zkN prog inv f178 = some cd118 := by kernel_rfl
theorem e179 : zkN prog inv f179 = some cd119 := by kernel_rfl
theorem e180 : zkN prog inv f180 = some cd120 := by kernel_rfl
theorem e181 : zkN prog inv f181 = some cd121 := by kernel_rfl
theorem e182 : zkN prog inv f182 = some cd51 := by kernel_rfl
theorem e183 : zkN prog inv f183 = some cd52 := by kernel_rfl
theorem e184 : zkN prog inv f184 = some cd53 := by kernel_rfl
theorem e185 : zkN prog inv f185 = some cd278 := by kernel_rfl
theorem e186 : zkN prog inv f186 = some cd48 := by kernel_rfl
theorem e193 : zkN prog inv f193 = some cd141 := by kernel_rfl
theorem e194 : zkN prog inv f194 = some cd109 := by kernel_rfl
theorem e195 : zkN prog inv f195 = some cd142 := by kernel_rfl
theorem e196 : zkN prog inv f196 = some cd144 := by kernel_rfl
theorem e197 : zkN prog inv f197 = some cd145 := by kernel_rfl
theorem e198 : zkN prog inv f198 = some cd94 := by kernel_rfl
theorem e199 : zkN prog inv f199 = some cd140 := by kernel_rfl
theorem e200 : zkN prog inv f200 = some cd184 := by kernel_rfl
theorem e201 : zkN prog inv f201 = some cd97 := by kernel_rfl
theorem e202 : zkN prog inv f202 = some cd265 := by kernel_rfl
theorem e203 : zkN prog inv f203 = some cd185 := by kernel_rfl
theorem e204 : zkN prog inv f204 = some cd266 := by kernel_rfl
theorem e205 : zkN prog inv f205 = some cd279 := by kernel_rfl
theorem e206 : zkN prog inv f206 = some cd198 := by kernel_rfl
theorem e207 : zkN prog inv f207 = some cd280 := by kernel_rfl
theorem e209 : zkN prog inv f209 = some cd55 := by kernel_rfl
theorem e210 : zkN prog inv f210 = some cd54 := by kernel_rfl
theorem e215 : zkN prog inv f215 = some cd281 := by kernel_rfl
theorem e216 : zkN prog inv f216 = some cd214 := by kernel_rfl
theorem e217 : zkN prog inv f217 = some cd282 := by kernel_rfl
def gs : List Nat := [4,5,6,7,8,9,11,13,17,18,19,20,21,22,23,24,25,26,27,28,29,30,34,35,38,39,40,41,42,43,44,45,46,47,48,49,50,51,52,53,54,55,56,63,64,65,66,67,68,72,73,74,75,76,77,78,79,80,81,82,83,84,85,86,87,88,89,90,91,92,93,94,95,96,97,98,99,100,101,102,103,104,105,110,112,113,114,115,116,117,118,119,120,127,128,129,130,131,132,133,134,135,136,137,138,139,140,141,142,143,144,145,146,147,148,149,150,151,152,153,154,155,156,157,158,159,160,161,162,164,165,167,170,171,172,173,174,175,176,177,178,179,180,181,182,183,184,185,186,193,194,195,196,197,198,199,200,201,202,203,204,205,206,207,209,210,215,216,217]
theorem g0x : ∀ x ∈ [4,5,6,7,8,9,11,13,17,18,19,20], Good x := gc (gd func4 rfl rfl e4) (gc (gd func5 rfl rfl e5) (gc (gd func6 rfl rfl e6) (gc (gd func7 rfl rfl e7) (gc (gd func8 rfl rfl e8) (gc (gd func9 rfl rfl e9) (gc (gd func11 rfl rfl e11) (gc (gd func13 rfl rfl e13) (gc (gd func17 rfl rfl e17) (gc (gd func18 rfl rfl e18) (gc (gd func19 rfl rfl e19) (gc (gd func20 rfl rfl e20) (gn))))))))))))
theorem g1x : ∀ x ∈ [21,22,23,24,25,26,27,28,29,30,34,35], Good x := gc (gd func21 rfl rfl e21) (gc (gd func22 rfl rfl e22) (gc (gd func23 rfl rfl e23) (gc (gd func24 rfl rfl e24) (gc (gd func25 rfl rfl e25) (gc (gd func26 rfl rfl e26) (gc (gd func27 rfl rfl e27) (gc (gd func28 rfl rfl e28) (gc (gd func29 rfl rfl e29) (gc (gd func30 rfl rfl e30) (gc (gd func34 rfl rfl e34) (gc (gd func35 rfl rfl e35) (gn))))))))))))
theorem g2x : ∀ x ∈ [38,39,40,41,42,43,44,45,46,47,48,49], Good x := gc (gd func38 rfl rfl e38) (gc (gd func39 rfl rfl e39) (gc (gd func40 rfl rfl e40) (gc (gd func41 rfl rfl e41) (gc (gd func42 rfl rfl e42) (gc (gd func43 rfl rfl e43) (gc (gd func44 rfl rfl e44) (gc (gd func45 rfl rfl e45) (gc (gd func46 rfl rfl e46) (gc (gd func47 rfl rfl e47) (gc (gd func48 rfl rfl e48) (gc (gd func49 rfl rfl e49) (gn))))))))))))
theorem g3x : ∀ x ∈ [50,51,52,53,54,55,56,63,64,65,66,67], Good x := gc (gd func50 rfl rfl e50) (gc (gd func51 rfl rfl e51) (gc (gd func52 rfl rfl e52) (gc (gd func53 rfl rfl e53) (gc (gd func54 rfl rfl e54) (gc (gd func55 rfl rfl e55) (gc (gd func56 rfl rfl e56) (gc (gd func63 rfl rfl e63) (gc (gd func64 rfl rfl e64) (gc (gd func65 rfl rfl e65) (gc (gd func66 rfl rfl e66) (gc (gd func67 rfl rfl e67) (gn))))))))))))
theorem g4x : ∀ x ∈ [68,72,73,74,75,76,77,78,79,80,81,82], Good x := gc (gd func68 rfl rfl e68) (gc (gd func72 rfl rfl e72) (gc (gd func73 rfl rfl e73) (gc (gd func74 rfl rfl e74) (gc (gd func75 rfl rfl e75) (gc (gd func76 rfl rfl e76) (gc (gd func77 rfl rfl e77) (gc (gd func78 rfl rfl e78) (gc (gd func79 rfl rfl e79) (gc (gd func80 rfl rfl e80) (gc (gd func81 rfl rfl e81) (gc (gd func82 rfl rfl e82) (gn))))))))))))
theorem g5x : ∀ x ∈ [83,84,85,86,87,88,89,90,91,92,93,94], Good x := gc (gd func83 rfl rfl e83) (gc (gd func84 rfl rfl e84) (gc (gd func85 rfl rfl e85) (gc (gd func86 rfl rfl e86) (gc (gd func87 rfl rfl e87) (gc (gd func88 rfl rfl e88) (gc (gd func89 rfl rfl e89) (gc (gd func90 rfl rfl e90) (gc (gd func91 rfl rfl e91) (gc (gd func92 rfl rfl e92) (gc (gd func93 rfl rfl e93) (gc (gd func94 rfl rfl e94) (gn))))))))))))
theorem g6x : ∀ x ∈ [95,96,97,98,99,100,101,102,103,104,105,110], Good x := gc (gd func95 rfl rfl e95) (gc (gd func96 rfl rfl e96) (gc (gd func97 rfl rfl e97) (gc (gd func98 rfl rfl e98) (gc (gd func99 rfl rfl e99) (gc (gd func100 rfl rfl e100) (gc (gd func101 rfl rfl e101) (gc (gd func102 rfl rfl e102) (gc (gd func103 rfl rfl e103) (gc (gd func104 rfl rfl e104) (gc (gd func105 rfl rfl e105) (gc (gd func110 rfl rfl e110) (gn))))))))))))
theorem g7x : ∀ x ∈ [112,113,114,115,116,117,118,119,120,127,128,129], Good x := gc (gd func112 rfl rfl e112) (gc (gd func113 rfl rfl e113) (gc (gd func114 rfl rfl e114) (gc (gd func115 rfl rfl e115) (gc (gd func116 rfl rfl e116) (gc (gd func117 rfl rfl e117) (gc (gd func118 rfl rfl e118) (gc (gd func119 rfl rfl e119) (gc (gd func120 rfl rfl e120) (gc (gd func127 rfl rfl e127) (gc (gd func128 rfl rfl e128) (gc (gd func129 rfl rfl e129) (gn))))))))))))
theorem g8x : ∀ x ∈ [130,131,132,133,134,135,136,137,138,139,140,141], Good x := gc (gd func130 rfl rfl e130) (gc (gd func131 rfl rfl e131) (gc (gd func132 rfl rfl e132) (gc (gd func133 rfl rfl e133) (gc (gd func134 rfl rfl e134) (gc (gd func135 rfl rfl e135) (gc (gd func136 rfl rfl e136) (gc (gd func137 rfl rfl e137) (gc (gd func138 rfl rfl e138) (gc (gd func139 rfl rfl e139) (gc (gd func140 rfl rfl e140) (gc (gd func141 rfl rfl e141) (gn))))))))))))
theorem g9x : ∀ x ∈ [142,143,144,145,146,147,148,149,150,151,152,153], Good x := gc (gd func142 rfl rfl e142) (gc (gd func143 rfl rfl e143) (gc (gd func144 rfl rfl e144) (gc (gd func145 rfl rfl e145) (gc (gd func146 rfl rfl e146) (gc (gd func147 rfl rfl e147) (gc (gd func148 rfl rfl e148) (gc (gd func149 rfl rfl e149) (gc (gd func150 rfl rfl e150) (gc (gd func151 rfl rfl e151) (gc (gd func152 rfl rfl e152) (gc (gd func153 rfl rfl e153) (gn))))))))))))
theorem g10x : ∀ x ∈ [154,155,156,157,158,159,160,161,162,164,165,167], Good x := gc (gd func154 rfl rfl e154) (gc (gd func155 rfl rfl e155) (gc (gd func156 rfl rfl e156) (gc (gd func157 rfl rfl e157) (gc (gd func158 rfl rfl e158) (gc (gd func159 rfl rfl e159) (gc (gd func160 rfl rfl e160) (gc (gd func161 rfl rfl e161) (gc (gd func162 rfl rfl e162) (gc (gd func164 rfl rfl e164) (gc (gd func165 rfl rfl e165) (gc (gd func167 rfl rfl e167) (gn))))))))))))
theorem g11x : ∀ x ∈ [170,171,172,173,174,175,176,177,178,179,180,181], Good x := gc (gd func170 rfl rfl e170) (gc (gd func171 rfl rfl e171) (gc (gd func172 rfl rfl e172) (gc (gd func173 rfl rfl e173) (gc (gd func174 rfl rfl e174) (gc (gd func175 rfl rfl e175) (gc (gd func176 rfl rfl e176) (gc (gd func177 rfl rfl e177) (gc (gd func178 rfl rfl e178) (gc (gd func179 rfl rfl e179) (gc (gd func180 rfl rfl e180) (gc (gd func181 rfl rfl e181) (gn))))))))))))
theorem g12x : ∀ x ∈ [182,183,184,185,186,193,194,195,196,197,198,199], Good x := gc (gd func182 rfl rfl e182) (gc (gd func183 rfl rfl e183) (gc (gd func184 rfl rfl e184) (gc (gd func185 rfl rfl e185) (gc (gd func186 rfl rfl e186) (gc (gd func193 rfl rfl e193) (gc (gd func194 rfl rfl e194) (gc (gd func195 rfl rfl e195) (gc (gd func196 rfl rfl e196) (gc (gd func197 rfl rfl e197) (gc (gd func198 rfl rfl e198) (gc (gd func199 rfl rfl e199) (gn))))))))))))
theorem g13x : ∀ x ∈ [200,201,202,203,204,205,206,207,209,210,215,216], Good x := gc (gd func200 rfl rfl e200) (gc (gd func201 rfl rfl e201) (gc (gd func202 rfl rfl e202) (gc (gd func203 rfl rfl e203) (gc (gd func204 rfl rfl e204) (gc (gd func205 rfl rfl e205) (gc (gd func206 rfl rfl e206) (gc (gd func207 rfl rfl e207) (gc (gd func209 rfl rfl e209) (gc (gd func210 rfl rfl e210) (gc (gd func215 rfl rfl e215) (gc (gd func216 rfl rfl e216) (gn))))))))))))
theorem g14x : ∀ x ∈ [217], Good x := gc (gd func217 rfl rfl e217) (gn)
theorem gl : gs = [4,5,6,7,8,9,11,13,17,18,19,20] ++ [21,22,23,24,25,26,27,28,29,30,34,35] ++ [38,39,40,41,42,43,44,45,46,47,48,49] ++ [50,51,52,53,54,55,56,63,64,65,66,67] ++ [68,72,73,74,75,76,77,78,79,80,81,82] ++ [83,84,85,86,87,88,89,90,91,92,93,94] ++ [95,96,97,98,99,100,101,102,103,104,105,110] ++ [112,113,114,115,116,117,118,119,120,127,128,129] ++ [130,131,132,133,134,135,136,137,138,139,140,141] ++ [142,143,144,145,146,147,148,149,150,151,152,153] ++ [154,155,156,157,158,159,160,161,162,164,165,167] ++ [170,171,172,173,174,175,176,177,178,179,180,181] ++ [182,183,184,185,186,193,194,195,196,197,198,199] ++ [200,201,202,203,204,205,206,207,209,210,215,216] ++ [217] := rfl
theorem ga {a b : List Nat} (h : ∀ x ∈ a, Good x) (t : ∀ x ∈ b, Good x) : ∀ x ∈ a ++ b, Good x := fun x hx => (List.mem_append.1 hx).elim (h x) (t x)
theorem gsx : ∀ x ∈ gs, Good x := by
  rw [gl]
  exact ga (ga (ga (ga (ga (ga (ga (ga (ga (ga (ga (ga (ga (ga (g0x) g1x) g2x) g3x) g4x) g5x) g6x) g7x) g8x) g9x) g10x) g11x) g12x) g13x) g14x
theorem cov : (List.range tab.length).all (fun g => noC g || gs.contains g) = true := by kernel_rfl
theorem cal : (List.range tab.length).all (okC prog.funcs) = true := by kernel_rfl
theorem invlt {g j : Nat} (h : inv g = some j) : g < tab.length := by
  rcases Nat.lt_or_ge g tab.length with h2 | h2
  · exact h2
  · unfold inv at h
    rw [List.getElem?_eq_none h2] at h
    cases h
theorem has (g : Nat) : Good g := by
  intro j F h hc
  have h1 := List.all_eq_true.1 cov g (List.mem_range.2 (invlt h))
  simp only [Bool.or_eq_true] at h1
  rcases h1 with h1 | h1
  · unfold noC at h1
    rw [h] at h1
    simp only [hc] at h1
    cases h1
  · exact gsx g (List.contains_iff_mem.1 h1) j F h hc
theorem calls : ∀ (g j : Nat), inv g = some j → ∃ fn, prog.funcs[g]? = some fn ∧ fn.body.isNone = false ∧ (fn.name == "runtime.NumGoroutine") = false := by
  intro g j h
  have h1 := List.all_eq_true.1 cal g (List.mem_range.2 (invlt h))
  unfold okC at h1
  rw [h] at h1
  simp only at h1
  split at h1
  · rename_i fn e
    simp only [Bool.and_eq_true, Bool.not_eq_true'] at h1
    exact ⟨fn, e, h1.1, h1.2⟩
  · cases h1
theorem all : HasAll prog inv := ⟨⟨by kernel_rfl, calls⟩, fun j F hc g hg => has g j F hg hc⟩
end
end Go.Eng.Tryz
