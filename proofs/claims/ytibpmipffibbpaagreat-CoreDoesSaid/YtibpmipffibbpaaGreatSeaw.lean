/-
  THE SEAT: its functions have the codes that the engine walks.
-/
import Derived.Test.YtibpmipffibbpaaGreatChecked
import Derived.Test.YtibpmipffibbpaaGreatU8
namespace Go.Eng.Tryz
open Go.Proofs.Tryz
def tab : List Nat := [0,0,0,358,359,362,342,374,72,9,15,180,364,11,163,365,164,366,367,165,70,12,68,196,200,199,77,352,208,383,10,187,97,188,189,293,371,80,174,175,176,177,178,179,335,336,313,372,166,157,167,168,35,36,37,81,82,197,198,75,214,216,217,139,215,90,91,220,74,221,222,223,152,224,225,286,287,329,331,32,33,34,191,296,300,373,71,94,185,186,294,310,66,172,173,95,88,89,229,144,99,100,101,102,103,104,105,106,107,108,109,86,87,154,98,169,295,334,332,301,302,305,303,304,83,84,85,111,112,113,114,115,116,117,118,119,120,121,122,319,309,316,315,50,45,181,182,183,184,237,238,239,240,241,242,243,244,245,246,247,248,249,96,128,129,130,131,17,78,110,170,171,298,297,330,49,306,307,308,311,312,314,318,190,266,267,27,123,124,125,126,127,140,136,141,42,43,92,93,44,55,317,51,47,132,133,134,135,137,138,52,53,54,142,143,145,146,56,0,0,0,0,0,0,0,0,0,0,0,0,0,0,0,0,0]
def inv (g : Nat) : Option Nat := match tab[g]? with | some (k + 1) => some k | _ => none
def Good (g : Nat) : Prop := ∀ j F, inv g = some j → code j = some F → ∃ fn, prog.funcs[g]? = some fn ∧ zlU prog inv fn = some F
theorem gd {g j : Nat} {fn : Func} {F : AFn} (h : prog.funcs[g]? = some fn) (hi : inv g = some j) (hc : code j = some F) (e : zlU prog inv fn = some F) : Good g := by
  intro j2 F2 h2 c2
  rw [hi] at h2
  obtain rfl : j = j2 := Option.some.inj h2
  rw [hc] at c2
  obtain rfl : F = F2 := Option.some.inj c2
  exact ⟨fn, h, e⟩
theorem gc {g : Nat} {l : List Nat} (h : Good g) (t : ∀ x ∈ l, Good x) : ∀ x ∈ g :: l, Good x := fun x hx => (List.mem_cons.1 hx).elim (fun e => e ▸ h) (t x)
theorem gn : ∀ x ∈ ([] : List Nat), Good x := fun x hx => absurd hx (by simp)
def noC (g : Nat) : Bool := match inv g with | none => true | some j => (code j).isNone
def okC (fs : Array Func) (g : Nat) : Bool := match inv g with | none => true | some _ => match fs[g]? with | some fn => !fn.body.isNone && !(fn.name == "runtime.NumGoroutine") | none => false
section
set_option maxRecDepth 100000
theorem e7 : zlU prog inv f7 = some cd373 := by kernel_rfl
theorem e8 : zlU prog inv f8 = some cd71 := by kernel_rfl
theorem e9 : zlU prog inv f9 = some cd8 := by kernel_rfl
theorem e10 : zlU prog inv f10 = some cd14 := by kernel_rfl
theorem e11 : zlU prog inv f11 = some cd179 := by kernel_rfl
theorem e13 : zlU prog inv f13 = some cd10 := by kernel_rfl
theorem e14 : zlU prog inv f14 = some cd162 := by kernel_rfl
theorem e15 : zlU prog inv f15 = some cd364 := by kernel_rfl
theorem e16 : zlU prog inv f16 = some cd163 := by kernel_rfl
theorem e17 : zlU prog inv f17 = some cd365 := by kernel_rfl
theorem e20 : zlU prog inv f20 = some cd69 := by kernel_rfl
theorem e21 : zlU prog inv f21 = some cd11 := by kernel_rfl
theorem e22 : zlU prog inv f22 = some cd67 := by kernel_rfl
theorem e28 : zlU prog inv f28 = some cd207 := by kernel_rfl
theorem e29 : zlU prog inv f29 = some cd382 := by kernel_rfl
theorem e30 : zlU prog inv f30 = some cd9 := by kernel_rfl
theorem e31 : zlU prog inv f31 = some cd186 := by kernel_rfl
theorem e32 : zlU prog inv f32 = some cd96 := by kernel_rfl
theorem e33 : zlU prog inv f33 = some cd187 := by kernel_rfl
theorem e34 : zlU prog inv f34 = some cd188 := by kernel_rfl
theorem e35 : zlU prog inv f35 = some cd292 := by kernel_rfl
theorem e36 : zlU prog inv f36 = some cd370 := by kernel_rfl
theorem e37 : zlU prog inv f37 = some cd79 := by kernel_rfl
theorem e38 : zlU prog inv f38 = some cd173 := by kernel_rfl
theorem e39 : zlU prog inv f39 = some cd174 := by kernel_rfl
theorem e40 : zlU prog inv f40 = some cd175 := by kernel_rfl
theorem e41 : zlU prog inv f41 = some cd176 := by kernel_rfl
theorem e42 : zlU prog inv f42 = some cd177 := by kernel_rfl
theorem e43 : zlU prog inv f43 = some cd178 := by kernel_rfl
theorem e44 : zlU prog inv f44 = some cd334 := by kernel_rfl
theorem e45 : zlU prog inv f45 = some cd335 := by kernel_rfl
theorem e46 : zlU prog inv f46 = some cd312 := by kernel_rfl
theorem e47 : zlU prog inv f47 = some cd371 := by kernel_rfl
theorem e49 : zlU prog inv f49 = some cd156 := by kernel_rfl
theorem e52 : zlU prog inv f52 = some cd34 := by kernel_rfl
theorem e53 : zlU prog inv f53 = some cd35 := by kernel_rfl
theorem e54 : zlU prog inv f54 = some cd36 := by kernel_rfl
theorem e55 : zlU prog inv f55 = some cd80 := by kernel_rfl
theorem e56 : zlU prog inv f56 = some cd81 := by kernel_rfl
theorem e59 : zlU prog inv f59 = some cd74 := by kernel_rfl
theorem e63 : zlU prog inv f63 = some cd138 := by kernel_rfl
theorem e66 : zlU prog inv f66 = some cd90 := by kernel_rfl
theorem e67 : zlU prog inv f67 = some cd219 := by kernel_rfl
theorem e68 : zlU prog inv f68 = some cd73 := by kernel_rfl
theorem e69 : zlU prog inv f69 = some cd220 := by kernel_rfl
theorem e70 : zlU prog inv f70 = some cd221 := by kernel_rfl
theorem e71 : zlU prog inv f71 = some cd222 := by kernel_rfl
theorem e72 : zlU prog inv f72 = some cd151 := by kernel_rfl
theorem e73 : zlU prog inv f73 = some cd223 := by kernel_rfl
theorem e74 : zlU prog inv f74 = some cd224 := by kernel_rfl
theorem e75 : zlU prog inv f75 = some cd285 := by kernel_rfl
theorem e76 : zlU prog inv f76 = some cd286 := by kernel_rfl
theorem e77 : zlU prog inv f77 = some cd328 := by kernel_rfl
theorem e78 : zlU prog inv f78 = some cd330 := by kernel_rfl
theorem e79 : zlU prog inv f79 = some cd31 := by kernel_rfl
theorem e80 : zlU prog inv f80 = some cd32 := by kernel_rfl
theorem e81 : zlU prog inv f81 = some cd33 := by kernel_rfl
theorem e82 : zlU prog inv f82 = some cd190 := by kernel_rfl
theorem e83 : zlU prog inv f83 = some cd295 := by kernel_rfl
theorem e84 : zlU prog inv f84 = some cd299 := by kernel_rfl
theorem e85 : zlU prog inv f85 = some cd372 := by kernel_rfl
theorem e86 : zlU prog inv f86 = some cd70 := by kernel_rfl
theorem e87 : zlU prog inv f87 = some cd93 := by kernel_rfl
theorem e88 : zlU prog inv f88 = some cd184 := by kernel_rfl
theorem e89 : zlU prog inv f89 = some cd185 := by kernel_rfl
theorem e90 : zlU prog inv f90 = some cd293 := by kernel_rfl
theorem e91 : zlU prog inv f91 = some cd309 := by kernel_rfl
theorem e93 : zlU prog inv f93 = some cd171 := by kernel_rfl
theorem e94 : zlU prog inv f94 = some cd172 := by kernel_rfl
theorem e95 : zlU prog inv f95 = some cd94 := by kernel_rfl
theorem e96 : zlU prog inv f96 = some cd87 := by kernel_rfl
theorem e97 : zlU prog inv f97 = some cd88 := by kernel_rfl
theorem e99 : zlU prog inv f99 = some cd143 := by kernel_rfl
theorem e102 : zlU prog inv f102 = some cd100 := by kernel_rfl
theorem e103 : zlU prog inv f103 = some cd101 := by kernel_rfl
theorem e104 : zlU prog inv f104 = some cd102 := by kernel_rfl
theorem e105 : zlU prog inv f105 = some cd103 := by kernel_rfl
theorem e106 : zlU prog inv f106 = some cd104 := by kernel_rfl
theorem e107 : zlU prog inv f107 = some cd105 := by kernel_rfl
theorem e108 : zlU prog inv f108 = some cd106 := by kernel_rfl
theorem e109 : zlU prog inv f109 = some cd107 := by kernel_rfl
theorem e110 : zlU prog inv f110 = some cd108 := by kernel_rfl
theorem e111 : zlU prog inv f111 = some cd85 := by kernel_rfl
theorem e112 : zlU prog inv f112 = some cd86 := by kernel_rfl
theorem e113 : zlU prog inv f113 = some cd153 := by kernel_rfl
theorem e114 : zlU prog inv f114 = some cd97 := by kernel_rfl
theorem e115 : zlU prog inv f115 = some cd168 := by kernel_rfl
theorem e116 : zlU prog inv f116 = some cd294 := by kernel_rfl
theorem e117 : zlU prog inv f117 = some cd333 := by kernel_rfl
theorem e118 : zlU prog inv f118 = some cd331 := by kernel_rfl
theorem e119 : zlU prog inv f119 = some cd300 := by kernel_rfl
theorem e120 : zlU prog inv f120 = some cd301 := by kernel_rfl
theorem e121 : zlU prog inv f121 = some cd304 := by kernel_rfl
theorem e122 : zlU prog inv f122 = some cd302 := by kernel_rfl
theorem e123 : zlU prog inv f123 = some cd303 := by kernel_rfl
theorem e124 : zlU prog inv f124 = some cd82 := by kernel_rfl
theorem e125 : zlU prog inv f125 = some cd83 := by kernel_rfl
theorem e126 : zlU prog inv f126 = some cd84 := by kernel_rfl
theorem e127 : zlU prog inv f127 = some cd110 := by kernel_rfl
theorem e128 : zlU prog inv f128 = some cd111 := by kernel_rfl
theorem e129 : zlU prog inv f129 = some cd112 := by kernel_rfl
theorem e130 : zlU prog inv f130 = some cd113 := by kernel_rfl
theorem e131 : zlU prog inv f131 = some cd114 := by kernel_rfl
theorem e132 : zlU prog inv f132 = some cd115 := by kernel_rfl
theorem e133 : zlU prog inv f133 = some cd116 := by kernel_rfl
theorem e134 : zlU prog inv f134 = some cd117 := by kernel_rfl
theorem e135 : zlU prog inv f135 = some cd118 := by kernel_rfl
theorem e136 : zlU prog inv f136 = some cd119 := by kernel_rfl
theorem e137 : zlU prog inv f137 = some cd120 := by kernel_rfl
theorem e138 : zlU prog inv f138 = some cd121 := by kernel_rfl
theorem e139 : zlU prog inv f139 = some cd318 := by kernel_rfl
theorem e140 : zlU prog inv f140 = some cd308 := by kernel_rfl
theorem e141 : zlU prog inv f141 = some cd315 := by kernel_rfl
theorem e142 : zlU prog inv f142 = some cd314 := by kernel_rfl
theorem e143 : zlU prog inv f143 = some cd49 := by kernel_rfl
theorem e144 : zlU prog inv f144 = some cd44 := by kernel_rfl
theorem e145 : zlU prog inv f145 = some cd180 := by kernel_rfl
theorem e146 : zlU prog inv f146 = some cd181 := by kernel_rfl
theorem e147 : zlU prog inv f147 = some cd182 := by kernel_rfl
theorem e148 : zlU prog inv f148 = some cd183 := by kernel_rfl
theorem e162 : zlU prog inv f162 = some cd95 := by kernel_rfl
theorem e163 : zlU prog inv f163 = some cd127 := by kernel_rfl
theorem e165 : zlU prog inv f165 = some cd129 := by kernel_rfl
theorem e166 : zlU prog inv f166 = some cd130 := by kernel_rfl
theorem e167 : zlU prog inv f167 = some cd16 := by kernel_rfl
theorem e168 : zlU prog inv f168 = some cd77 := by kernel_rfl
theorem e169 : zlU prog inv f169 = some cd109 := by kernel_rfl
theorem e170 : zlU prog inv f170 = some cd169 := by kernel_rfl
theorem e171 : zlU prog inv f171 = some cd170 := by kernel_rfl
theorem e172 : zlU prog inv f172 = some cd297 := by kernel_rfl
theorem e173 : zlU prog inv f173 = some cd296 := by kernel_rfl
theorem e174 : zlU prog inv f174 = some cd329 := by kernel_rfl
theorem e175 : zlU prog inv f175 = some cd48 := by kernel_rfl
theorem e176 : zlU prog inv f176 = some cd305 := by kernel_rfl
theorem e177 : zlU prog inv f177 = some cd306 := by kernel_rfl
theorem e178 : zlU prog inv f178 = some cd307 := by kernel_rfl
theorem e179 : zlU prog inv f179 = some cd310 := by kernel_rfl
theorem e180 : zlU prog inv f180 = some cd311 := by kernel_rfl
theorem e181 : zlU prog inv f181 = some cd313 := by kernel_rfl
theorem e182 : zlU prog inv f182 = some cd317 := by kernel_rfl
theorem e183 : zlU prog inv f183 = some cd189 := by kernel_rfl
theorem e186 : zlU prog inv f186 = some cd26 := by kernel_rfl
theorem e187 : zlU prog inv f187 = some cd122 := by kernel_rfl
theorem e188 : zlU prog inv f188 = some cd123 := by kernel_rfl
theorem e189 : zlU prog inv f189 = some cd124 := by kernel_rfl
theorem e190 : zlU prog inv f190 = some cd125 := by kernel_rfl
theorem e191 : zlU prog inv f191 = some cd126 := by kernel_rfl
theorem e192 : zlU prog inv f192 = some cd139 := by kernel_rfl
theorem e193 : zlU prog inv f193 = some cd135 := by kernel_rfl
theorem e194 : zlU prog inv f194 = some cd140 := by kernel_rfl
theorem e195 : zlU prog inv f195 = some cd41 := by kernel_rfl
theorem e196 : zlU prog inv f196 = some cd42 := by kernel_rfl
theorem e197 : zlU prog inv f197 = some cd91 := by kernel_rfl
theorem e198 : zlU prog inv f198 = some cd92 := by kernel_rfl
theorem e199 : zlU prog inv f199 = some cd43 := by kernel_rfl
theorem e200 : zlU prog inv f200 = some cd54 := by kernel_rfl
theorem e201 : zlU prog inv f201 = some cd316 := by kernel_rfl
theorem e202 : zlU prog inv f202 = some cd50 := by kernel_rfl
theorem e203 : zlU prog inv f203 = some cd46 := by kernel_rfl
theorem e204 : zlU prog inv f204 = some cd131 := by kernel_rfl
theorem e205 : zlU prog inv f205 = some cd132 := by kernel_rfl
theorem e206 : zlU prog inv f206 = some cd133 := by kernel_rfl
theorem e207 : zlU prog inv f207 = some cd134 := by kernel_rfl
theorem e208 : zlU prog inv f208 = some cd136 := by kernel_rfl
theorem e209 : zlU prog inv f209 = some cd137 := by kernel_rfl
theorem e210 : zlU prog inv f210 = some cd51 := by kernel_rfl
theorem e211 : zlU prog inv f211 = some cd52 := by kernel_rfl
theorem e212 : zlU prog inv f212 = some cd53 := by kernel_rfl
theorem e213 : zlU prog inv f213 = some cd141 := by kernel_rfl
theorem e214 : zlU prog inv f214 = some cd142 := by kernel_rfl
theorem e215 : zlU prog inv f215 = some cd144 := by kernel_rfl
theorem e216 : zlU prog inv f216 = some cd145 := by kernel_rfl
theorem e217 : zlU prog inv f217 = some cd55 := by kernel_rfl
def gs : List Nat := [7,8,9,10,11,13,14,15,16,17,20,21,22,28,29,30,31,32,33,34,35,36,37,38,39,40,41,42,43,44,45,46,47,49,52,53,54,55,56,59,63,66,67,68,69,70,71,72,73,74,75,76,77,78,79,80,81,82,83,84,85,86,87,88,89,90,91,93,94,95,96,97,99,102,103,104,105,106,107,108,109,110,111,112,113,114,115,116,117,118,119,120,121,122,123,124,125,126,127,128,129,130,131,132,133,134,135,136,137,138,139,140,141,142,143,144,145,146,147,148,162,163,165,166,167,168,169,170,171,172,173,174,175,176,177,178,179,180,181,182,183,186,187,188,189,190,191,192,193,194,195,196,197,198,199,200,201,202,203,204,205,206,207,208,209,210,211,212,213,214,215,216,217]
theorem g0x : ∀ x ∈ [7,8,9,10,11,13,14,15,16,17,20,21], Good x := gc (gd func7 rfl rfl e7) (gc (gd func8 rfl rfl e8) (gc (gd func9 rfl rfl e9) (gc (gd func10 rfl rfl e10) (gc (gd func11 rfl rfl e11) (gc (gd func13 rfl rfl e13) (gc (gd func14 rfl rfl e14) (gc (gd func15 rfl rfl e15) (gc (gd func16 rfl rfl e16) (gc (gd func17 rfl rfl e17) (gc (gd func20 rfl rfl e20) (gc (gd func21 rfl rfl e21) (gn))))))))))))
theorem g1x : ∀ x ∈ [22,28,29,30,31,32,33,34,35,36,37,38], Good x := gc (gd func22 rfl rfl e22) (gc (gd func28 rfl rfl e28) (gc (gd func29 rfl rfl e29) (gc (gd func30 rfl rfl e30) (gc (gd func31 rfl rfl e31) (gc (gd func32 rfl rfl e32) (gc (gd func33 rfl rfl e33) (gc (gd func34 rfl rfl e34) (gc (gd func35 rfl rfl e35) (gc (gd func36 rfl rfl e36) (gc (gd func37 rfl rfl e37) (gc (gd func38 rfl rfl e38) (gn))))))))))))
theorem g2x : ∀ x ∈ [39,40,41,42,43,44,45,46,47,49,52,53], Good x := gc (gd func39 rfl rfl e39) (gc (gd func40 rfl rfl e40) (gc (gd func41 rfl rfl e41) (gc (gd func42 rfl rfl e42) (gc (gd func43 rfl rfl e43) (gc (gd func44 rfl rfl e44) (gc (gd func45 rfl rfl e45) (gc (gd func46 rfl rfl e46) (gc (gd func47 rfl rfl e47) (gc (gd func49 rfl rfl e49) (gc (gd func52 rfl rfl e52) (gc (gd func53 rfl rfl e53) (gn))))))))))))
theorem g3x : ∀ x ∈ [54,55,56,59,63,66,67,68,69,70,71,72], Good x := gc (gd func54 rfl rfl e54) (gc (gd func55 rfl rfl e55) (gc (gd func56 rfl rfl e56) (gc (gd func59 rfl rfl e59) (gc (gd func63 rfl rfl e63) (gc (gd func66 rfl rfl e66) (gc (gd func67 rfl rfl e67) (gc (gd func68 rfl rfl e68) (gc (gd func69 rfl rfl e69) (gc (gd func70 rfl rfl e70) (gc (gd func71 rfl rfl e71) (gc (gd func72 rfl rfl e72) (gn))))))))))))
theorem g4x : ∀ x ∈ [73,74,75,76,77,78,79,80,81,82,83,84], Good x := gc (gd func73 rfl rfl e73) (gc (gd func74 rfl rfl e74) (gc (gd func75 rfl rfl e75) (gc (gd func76 rfl rfl e76) (gc (gd func77 rfl rfl e77) (gc (gd func78 rfl rfl e78) (gc (gd func79 rfl rfl e79) (gc (gd func80 rfl rfl e80) (gc (gd func81 rfl rfl e81) (gc (gd func82 rfl rfl e82) (gc (gd func83 rfl rfl e83) (gc (gd func84 rfl rfl e84) (gn))))))))))))
theorem g5x : ∀ x ∈ [85,86,87,88,89,90,91,93,94,95,96,97], Good x := gc (gd func85 rfl rfl e85) (gc (gd func86 rfl rfl e86) (gc (gd func87 rfl rfl e87) (gc (gd func88 rfl rfl e88) (gc (gd func89 rfl rfl e89) (gc (gd func90 rfl rfl e90) (gc (gd func91 rfl rfl e91) (gc (gd func93 rfl rfl e93) (gc (gd func94 rfl rfl e94) (gc (gd func95 rfl rfl e95) (gc (gd func96 rfl rfl e96) (gc (gd func97 rfl rfl e97) (gn))))))))))))
theorem g6x : ∀ x ∈ [99,102,103,104,105,106,107,108,109,110,111,112], Good x := gc (gd func99 rfl rfl e99) (gc (gd func102 rfl rfl e102) (gc (gd func103 rfl rfl e103) (gc (gd func104 rfl rfl e104) (gc (gd func105 rfl rfl e105) (gc (gd func106 rfl rfl e106) (gc (gd func107 rfl rfl e107) (gc (gd func108 rfl rfl e108) (gc (gd func109 rfl rfl e109) (gc (gd func110 rfl rfl e110) (gc (gd func111 rfl rfl e111) (gc (gd func112 rfl rfl e112) (gn))))))))))))
theorem g7x : ∀ x ∈ [113,114,115,116,117,118,119,120,121,122,123,124], Good x := gc (gd func113 rfl rfl e113) (gc (gd func114 rfl rfl e114) (gc (gd func115 rfl rfl e115) (gc (gd func116 rfl rfl e116) (gc (gd func117 rfl rfl e117) (gc (gd func118 rfl rfl e118) (gc (gd func119 rfl rfl e119) (gc (gd func120 rfl rfl e120) (gc (gd func121 rfl rfl e121) (gc (gd func122 rfl rfl e122) (gc (gd func123 rfl rfl e123) (gc (gd func124 rfl rfl e124) (gn))))))))))))
theorem g8x : ∀ x ∈ [125,126,127,128,129,130,131,132,133,134,135,136], Good x := gc (gd func125 rfl rfl e125) (gc (gd func126 rfl rfl e126) (gc (gd func127 rfl rfl e127) (gc (gd func128 rfl rfl e128) (gc (gd func129 rfl rfl e129) (gc (gd func130 rfl rfl e130) (gc (gd func131 rfl rfl e131) (gc (gd func132 rfl rfl e132) (gc (gd func133 rfl rfl e133) (gc (gd func134 rfl rfl e134) (gc (gd func135 rfl rfl e135) (gc (gd func136 rfl rfl e136) (gn))))))))))))
theorem g9x : ∀ x ∈ [137,138,139,140,141,142,143,144,145,146,147,148], Good x := gc (gd func137 rfl rfl e137) (gc (gd func138 rfl rfl e138) (gc (gd func139 rfl rfl e139) (gc (gd func140 rfl rfl e140) (gc (gd func141 rfl rfl e141) (gc (gd func142 rfl rfl e142) (gc (gd func143 rfl rfl e143) (gc (gd func144 rfl rfl e144) (gc (gd func145 rfl rfl e145) (gc (gd func146 rfl rfl e146) (gc (gd func147 rfl rfl e147) (gc (gd func148 rfl rfl e148) (gn))))))))))))
theorem g10x : ∀ x ∈ [162,163,165,166,167,168,169,170,171,172,173,174], Good x := gc (gd func162 rfl rfl e162) (gc (gd func163 rfl rfl e163) (gc (gd func165 rfl rfl e165) (gc (gd func166 rfl rfl e166) (gc (gd func167 rfl rfl e167) (gc (gd func168 rfl rfl e168) (gc (gd func169 rfl rfl e169) (gc (gd func170 rfl rfl e170) (gc (gd func171 rfl rfl e171) (gc (gd func172 rfl rfl e172) (gc (gd func173 rfl rfl e173) (gc (gd func174 rfl rfl e174) (gn))))))))))))
theorem g11x : ∀ x ∈ [175,176,177,178,179,180,181,182,183,186,187,188], Good x := gc (gd func175 rfl rfl e175) (gc (gd func176 rfl rfl e176) (gc (gd func177 rfl rfl e177) (gc (gd func178 rfl rfl e178) (gc (gd func179 rfl rfl e179) (gc (gd func180 rfl rfl e180) (gc (gd func181 rfl rfl e181) (gc (gd func182 rfl rfl e182) (gc (gd func183 rfl rfl e183) (gc (gd func186 rfl rfl e186) (gc (gd func187 rfl rfl e187) (gc (gd func188 rfl rfl e188) (gn))))))))))))
theorem g12x : ∀ x ∈ [189,190,191,192,193,194,195,196,197,198,199,200], Good x := gc (gd func189 rfl rfl e189) (gc (gd func190 rfl rfl e190) (gc (gd func191 rfl rfl e191) (gc (gd func192 rfl rfl e192) (gc (gd func193 rfl rfl e193) (gc (gd func194 rfl rfl e194) (gc (gd func195 rfl rfl e195) (gc (gd func196 rfl rfl e196) (gc (gd func197 rfl rfl e197) (gc (gd func198 rfl rfl e198) (gc (gd func199 rfl rfl e199) (gc (gd func200 rfl rfl e200) (gn))))))))))))
theorem g13x : ∀ x ∈ [201,202,203,204,205,206,207,208,209,210,211,212], Good x := gc (gd func201 rfl rfl e201) (gc (gd func202 rfl rfl e202) (gc (gd func203 rfl rfl e203) (gc (gd func204 rfl rfl e204) (gc (gd func205 rfl rfl e205) (gc (gd func206 rfl rfl e206) (gc (gd func207 rfl rfl e207) (gc (gd func208 rfl rfl e208) (gc (gd func209 rfl rfl e209) (gc (gd func210 rfl rfl e210) (gc (gd func211 rfl rfl e211) (gc (gd func212 rfl rfl e212) (gn))))))))))))
theorem g14x : ∀ x ∈ [213,214,215,216,217], Good x := gc (gd func213 rfl rfl e213) (gc (gd func214 rfl rfl e214) (gc (gd func215 rfl rfl e215) (gc (gd func216 rfl rfl e216) (gc (gd func217 rfl rfl e217) (gn)))))
theorem gl : gs = [7,8,9,10,11,13,14,15,16,17,20,21] ++ [22,28,29,30,31,32,33,34,35,36,37,38] ++ [39,40,41,42,43,44,45,46,47,49,52,53] ++ [54,55,56,59,63,66,67,68,69,70,71,72] ++ [73,74,75,76,77,78,79,80,81,82,83,84] ++ [85,86,87,88,89,90,91,93,94,95,96,97] ++ [99,102,103,104,105,106,107,108,109,110,111,112] ++ [113,114,115,116,117,118,119,120,121,122,123,124] ++ [125,126,127,128,129,130,131,132,133,134,135,136] ++ [137,138,139,140,141,142,143,144,145,146,147,148] ++ [162,163,165,166,167,168,169,170,171,172,173,174] ++ [175,176,177,178,179,180,181,182,183,186,187,188] ++ [189,190,191,192,193,194,195,196,197,198,199,200] ++ [201,202,203,204,205,206,207,208,209,210,211,212] ++ [213,214,215,216,217] := rfl
theorem ga {a b : List Nat} (h : ∀ x ∈ a, Good x) (t : ∀ x ∈ b, Good x) : ∀ x ∈ a ++ b, Good x := fun x hx => (List.mem_append.1 hx).elim (h x) (t x)
theorem gsx : ∀ x ∈ gs, Good x := by
  rw [gl]
  exact ga (ga (ga (ga (ga (ga (ga (ga (ga (ga (ga (ga (ga (ga (g0x) g1x) g2x) g3x) g4x) g5x) g6x) g7x) g8x) g9x) g10x) g11x) g12x) g13x) g14x
theorem cov : (List.range tab.length).all (fun g => noC g || gs.contains g) = true := by kernel_rfl
theorem cal : (List.range tab.length).all (okC prog.funcs) = true := by kernel_rfl
theorem invlt {g j : Nat} (h : inv g = some j) : g < tab.length := by
  rcases Nat.lt_or_ge g tab.length with h2 | h2
  · exact h2
  · unfold inv at h
    rw [List.getElem?_eq_none h2] at h
    cases h
theorem has (g : Nat) : Good g := by
  intro j F h hc
  have h1 := List.all_eq_true.1 cov g (List.mem_range.2 (invlt h))
  simp only [Bool.or_eq_true] at h1
  rcases h1 with h1 | h1
  · unfold noC at h1
    rw [h] at h1
    simp only [hc] at h1
    cases h1
  · exact gsx g (List.contains_iff_mem.1 h1) j F h hc
theorem calls : ∀ (g j : Nat), inv g = some j → ∃ fn, prog.funcs[g]? = some fn ∧ fn.body.isNone = false ∧ (fn.name == "runtime.NumGoroutine") = false := by
  intro g j h
  have h1 := List.all_eq_true.1 cal g (List.mem_range.2 (invlt h))
  unfold okC at h1
  rw [h] at h1
  simp only at h1
  split at h1
  · rename_i fn e
    simp only [Bool.and_eq_true, Bool.not_eq_true'] at h1
    exact ⟨fn, e, h1.1, h1.2⟩
  · cases h1
theorem all : HasAll prog inv := ⟨⟨by kernel_rfl, calls⟩, fun j F hc g hg => has g j F hg hc⟩
end
end Go.Eng.Tryz
