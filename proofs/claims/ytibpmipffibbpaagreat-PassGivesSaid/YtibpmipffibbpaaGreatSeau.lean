/-
  THE SEAT: its functions have the codes that the engine walks.
-/
import Derived.Test.YtibpmipffibbpaaGreatChecked
import Derived.Test.YtibpmipffibbpaaGreatP6
namespace Go.Eng.Tryz
open Go.Proofs.Tryz
def tab : List Nat := [0,0,0,358,359,362,342,374,72,9,15,180,364,11,163,365,164,366,367,165,70,12,68,196,200,199,77,352,208,383,10,187,97,188,189,293,371,80,174,175,176,177,178,179,335,336,313,372,166,157,167,168,35,36,37,81,82,197,198,75,214,216,217,139,215,90,91,220,74,221,222,223,152,224,225,286,287,329,331,32,33,34,191,296,300,373,71,94,185,186,294,310,66,172,173,95,88,89,229,144,99,100,101,102,103,104,105,106,107,108,109,86,87,154,98,169,295,334,332,301,302,305,303,304,83,84,85,111,112,113,114,115,116,117,118,119,120,121,122,319,309,316,315,50,45,181,182,183,184,237,238,239,240,241,242,243,244,245,246,247,248,249,96,128,129,130,131,17,78,110,170,171,298,297,330,49,306,307,308,311,312,314,318,190,266,267,27,123,124,125,126,127,140,136,141,42,43,92,93,44,55,317,51,47,132,133,134,135,137,138,52,53,54,142,143,145,146,56,0,0,0,0,0,0,0,0,0,0,0,0,0,0,0,0,0]
def inv (g : Nat) : Option Nat := match tab[g]? with | some (k + 1) => some k | _ => none
def Good (g : Nat) : Prop := ∀ j F, inv g = some j → code j = some F → ∃ fn, prog.funcs[g]? = some fn ∧ zkg prog inv fn = some F
theorem gd {g j : Nat} {fn : Func} {F : AFn} (h : prog.funcs[g]? = some fn) (hi : inv g = some j) (hc : code j = some F) (e : zkg prog inv fn = some F) : Good g := by
  intro j2 F2 h2 c2
  rw [hi] at h2
  obtain rfl : j = j2 := Option.some.inj h2
  rw [hc] at c2
  obtain rfl : F = F2 := Option.some.inj c2
  exact ⟨fn, h, e⟩
theorem gc {g : Nat} {l : List Nat} (h : Good g) (t : ∀ x ∈ l, Good x) : ∀ x ∈ g :: l, Good x := fun x hx => (List.mem_cons.1 hx).elim (fun e => e ▸ h) (t x)
theorem gn : ∀ x ∈ ([] : List Nat), Good x := fun x hx => absurd hx (by simp)
def noC (g : Nat) : Bool := match inv g with | none => true | some j => (code j).isNone
def okC (fs : Array Func) (g : Nat) : Bool := match inv g with | none => true | some _ => match fs[g]? with | some fn => !fn.body.isNone && !(fn.name == "runtime.NumGoroutine") | none => false
section
set_option maxRecDepth 100000
theorem e5 : zkg prog inv f5 = some cd361 := by kernel_rfl
theorem e6 : zkg prog inv f6 = some cd341 := by kernel_rfl
theorem e8 : zkg prog inv f8 = some cd71 := by kernel_rfl
theorem e9 : zkg prog inv f9 = some cd8 := by kernel_rfl
theorem e11 : zkg prog inv f11 = some cd179 := by kernel_rfl
theorem e19 : zkg prog inv f19 = some cd164 := by kernel_rfl
theorem e20 : zkg prog inv f20 = some cd69 := by kernel_rfl
theorem e21 : zkg prog inv f21 = some cd11 := by kernel_rfl
theorem e22 : zkg prog inv f22 = some cd67 := by kernel_rfl
theorem e23 : zkg prog inv f23 = some cd195 := by kernel_rfl
theorem e24 : zkg prog inv f24 = some cd199 := by kernel_rfl
theorem e25 : zkg prog inv f25 = some cd198 := by kernel_rfl
theorem e26 : zkg prog inv f26 = some cd76 := by kernel_rfl
theorem e27 : zkg prog inv f27 = some cd351 := by kernel_rfl
theorem e30 : zkg prog inv f30 = some cd9 := by kernel_rfl
theorem e31 : zkg prog inv f31 = some cd186 := by kernel_rfl
theorem e32 : zkg prog inv f32 = some cd96 := by kernel_rfl
theorem e33 : zkg prog inv f33 = some cd187 := by kernel_rfl
theorem e34 : zkg prog inv f34 = some cd188 := by kernel_rfl
theorem e37 : zkg prog inv f37 = some cd79 := by kernel_rfl
theorem e38 : zkg prog inv f38 = some cd173 := by kernel_rfl
theorem e41 : zkg prog inv f41 = some cd176 := by kernel_rfl
theorem e42 : zkg prog inv f42 = some cd177 := by kernel_rfl
theorem e48 : zkg prog inv f48 = some cd165 := by kernel_rfl
theorem e49 : zkg prog inv f49 = some cd156 := by kernel_rfl
theorem e50 : zkg prog inv f50 = some cd166 := by kernel_rfl
theorem e51 : zkg prog inv f51 = some cd167 := by kernel_rfl
theorem e52 : zkg prog inv f52 = some cd34 := by kernel_rfl
theorem e53 : zkg prog inv f53 = some cd35 := by kernel_rfl
theorem e54 : zkg prog inv f54 = some cd36 := by kernel_rfl
theorem e55 : zkg prog inv f55 = some cd80 := by kernel_rfl
theorem e56 : zkg prog inv f56 = some cd81 := by kernel_rfl
theorem e57 : zkg prog inv f57 = some cd196 := by kernel_rfl
theorem e58 : zkg prog inv f58 = some cd197 := by kernel_rfl
theorem e59 : zkg prog inv f59 = some cd74 := by kernel_rfl
theorem e60 : zkg prog inv f60 = some cd213 := by kernel_rfl
theorem e61 : zkg prog inv f61 = some cd215 := by kernel_rfl
theorem e62 : zkg prog inv f62 = some cd216 := by kernel_rfl
theorem e63 : zkg prog inv f63 = some cd138 := by kernel_rfl
theorem e64 : zkg prog inv f64 = some cd214 := by kernel_rfl
theorem e65 : zkg prog inv f65 = some cd89 := by kernel_rfl
theorem e66 : zkg prog inv f66 = some cd90 := by kernel_rfl
theorem e68 : zkg prog inv f68 = some cd73 := by kernel_rfl
theorem e79 : zkg prog inv f79 = some cd31 := by kernel_rfl
theorem e80 : zkg prog inv f80 = some cd32 := by kernel_rfl
theorem e81 : zkg prog inv f81 = some cd33 := by kernel_rfl
theorem e82 : zkg prog inv f82 = some cd190 := by kernel_rfl
theorem e86 : zkg prog inv f86 = some cd70 := by kernel_rfl
theorem e87 : zkg prog inv f87 = some cd93 := by kernel_rfl
theorem e88 : zkg prog inv f88 = some cd184 := by kernel_rfl
theorem e89 : zkg prog inv f89 = some cd185 := by kernel_rfl
theorem e92 : zkg prog inv f92 = some cd65 := by kernel_rfl
theorem e93 : zkg prog inv f93 = some cd171 := by kernel_rfl
theorem e94 : zkg prog inv f94 = some cd172 := by kernel_rfl
theorem e95 : zkg prog inv f95 = some cd94 := by kernel_rfl
theorem e96 : zkg prog inv f96 = some cd87 := by kernel_rfl
theorem e97 : zkg prog inv f97 = some cd88 := by kernel_rfl
theorem e98 : zkg prog inv f98 = some cd228 := by kernel_rfl
theorem e99 : zkg prog inv f99 = some cd143 := by kernel_rfl
theorem e100 : zkg prog inv f100 = some cd98 := by kernel_rfl
theorem e101 : zkg prog inv f101 = some cd99 := by kernel_rfl
theorem e102 : zkg prog inv f102 = some cd100 := by kernel_rfl
theorem e103 : zkg prog inv f103 = some cd101 := by kernel_rfl
theorem e104 : zkg prog inv f104 = some cd102 := by kernel_rfl
theorem e105 : zkg prog inv f105 = some cd103 := by kernel_rfl
theorem e106 : zkg prog inv f106 = some cd104 := by kernel_rfl
theorem e107 : zkg prog inv f107 = some cd105 := by kernel_rfl
theorem e108 : zkg prog inv f108 = some cd106 := by kernel_rfl
theorem e109 : zkg prog inv f109 = some cd107 := by kernel_rfl
theorem e110 : zkg prog inv f110 = some cd108 := by kernel_rfl
theorem e111 : zkg prog inv f111 = some cd85 := by kernel_rfl
theorem e112 : zkg prog inv f112 = some cd86 := by kernel_rfl
theorem e114 : zkg prog inv f114 = some cd97 := by kernel_rfl
theorem e124 : zkg prog inv f124 = some cd82 := by kernel_rfl
theorem e125 : zkg prog inv f125 = some cd83 := by kernel_rfl
theorem e126 : zkg prog inv f126 = some cd84 := by kernel_rfl
theorem e127 : zkg prog inv f127 = some cd110 := by kernel_rfl
theorem e128 : zkg prog inv f128 = some cd111 := by kernel_rfl
theorem e129 : zkg prog inv f129 = some cd112 := by kernel_rfl
theorem e130 : zkg prog inv f130 = some cd113 := by kernel_rfl
theorem e131 : zkg prog inv f131 = some cd114 := by kernel_rfl
theorem e132 : zkg prog inv f132 = some cd115 := by kernel_rfl
theorem e133 : zkg prog inv f133 = some cd116 := by kernel_rfl
theorem e134 : zkg prog inv f134 = some cd117 := by kernel_rfl
theorem e135 : zkg prog inv f135 = some cd118 := by kernel_rfl
theorem e136 : zkg prog inv f136 = some cd119 := by kernel_rfl
theorem e137 : zkg prog inv f137 = some cd120 := by kernel_rfl
theorem e138 : zkg prog inv f138 = some cd121 := by kernel_rfl
theorem e145 : zkg prog inv f145 = some cd180 := by kernel_rfl
theorem e146 : zkg prog inv f146 = some cd181 := by kernel_rfl
theorem e147 : zkg prog inv f147 = some cd182 := by kernel_rfl
theorem e148 : zkg prog inv f148 = some cd183 := by kernel_rfl
theorem e149 : zkg prog inv f149 = some cd236 := by kernel_rfl
theorem e150 : zkg prog inv f150 = some cd237 := by kernel_rfl
theorem e151 : zkg prog inv f151 = some cd238 := by kernel_rfl
theorem e152 : zkg prog inv f152 = some cd239 := by kernel_rfl
theorem e153 : zkg prog inv f153 = some cd240 := by kernel_rfl
theorem e154 : zkg prog inv f154 = some cd241 := by kernel_rfl
theorem e155 : zkg prog inv f155 = some cd242 := by kernel_rfl
theorem e156 : zkg prog inv f156 = some cd243 := by kernel_rfl
theorem e157 : zkg prog inv f157 = some cd244 := by kernel_rfl
theorem e158 : zkg prog inv f158 = some cd245 := by kernel_rfl
theorem e159 : zkg prog inv f159 = some cd246 := by kernel_rfl
theorem e160 : zkg prog inv f160 = some cd247 := by kernel_rfl
theorem e161 : zkg prog inv f161 = some cd248 := by kernel_rfl
theorem e162 : zkg prog inv f162 = some cd95 := by kernel_rfl
theorem e163 : zkg prog inv f163 = some cd127 := by kernel_rfl
theorem e164 : zkg prog inv f164 = some cd128 := by kernel_rfl
theorem e165 : zkg prog inv f165 = some cd129 := by kernel_rfl
theorem e166 : zkg prog inv f166 = some cd130 := by kernel_rfl
theorem e167 : zkg prog inv f167 = some cd16 := by kernel_rfl
theorem e169 : zkg prog inv f169 = some cd109 := by kernel_rfl
theorem e183 : zkg prog inv f183 = some cd189 := by kernel_rfl
theorem e184 : zkg prog inv f184 = some cd265 := by kernel_rfl
theorem e185 : zkg prog inv f185 = some cd266 := by kernel_rfl
theorem e186 : zkg prog inv f186 = some cd26 := by kernel_rfl
theorem e187 : zkg prog inv f187 = some cd122 := by kernel_rfl
theorem e188 : zkg prog inv f188 = some cd123 := by kernel_rfl
theorem e189 : zkg prog inv f189 = some cd124 := by kernel_rfl
theorem e190 : zkg prog inv f190 = some cd125 := by kernel_rfl
theorem e191 : zkg prog inv f191 = some cd126 := by kernel_rfl
theorem e192 : zkg prog inv f192 = some cd139 := by kernel_rfl
theorem e193 : zkg prog inv f193 = some cd135 := by kernel_rfl
theorem e194 : zkg prog inv f194 = some cd140 := by kernel_rfl
theorem e195 : zkg prog inv f195 = some cd41 := by kernel_rfl
theorem e196 : zkg prog inv f196 = some cd42 := by kernel_rfl
theorem e197 : zkg prog inv f197 = some cd91 := by kernel_rfl
theorem e202 : zkg prog inv f202 = some cd50 := by kernel_rfl
theorem e203 : zkg prog inv f203 = some cd46 := by kernel_rfl
theorem e204 : zkg prog inv f204 = some cd131 := by kernel_rfl
theorem e205 : zkg prog inv f205 = some cd132 := by kernel_rfl
theorem e206 : zkg prog inv f206 = some cd133 := by kernel_rfl
theorem e207 : zkg prog inv f207 = some cd134 := by kernel_rfl
theorem e208 : zkg prog inv f208 = some cd136 := by kernel_rfl
theorem e209 : zkg prog inv f209 = some cd137 := by kernel_rfl
theorem e210 : zkg prog inv f210 = some cd51 := by kernel_rfl
theorem e211 : zkg prog inv f211 = some cd52 := by kernel_rfl
theorem e212 : zkg prog inv f212 = some cd53 := by kernel_rfl
theorem e213 : zkg prog inv f213 = some cd141 := by kernel_rfl
theorem e214 : zkg prog inv f214 = some cd142 := by kernel_rfl
theorem e215 : zkg prog inv f215 = some cd144 := by kernel_rfl
theorem e216 : zkg prog inv f216 = some cd145 := by kernel_rfl
theorem e217 : zkg prog inv f217 = some cd55 := by kernel_rfl
def gs : List Nat := [5,6,8,9,11,19,20,21,22,23,24,25,26,27,30,31,32,33,34,37,38,41,42,48,49,50,51,52,53,54,55,56,57,58,59,60,61,62,63,64,65,66,68,79,80,81,82,86,87,88,89,92,93,94,95,96,97,98,99,100,101,102,103,104,105,106,107,108,109,110,111,112,114,124,125,126,127,128,129,130,131,132,133,134,135,136,137,138,145,146,147,148,149,150,151,152,153,154,155,156,157,158,159,160,161,162,163,164,165,166,167,169,183,184,185,186,187,188,189,190,191,192,193,194,195,196,197,202,203,204,205,206,207,208,209,210,211,212,213,214,215,216,217]
theorem g0x : ∀ x ∈ [5,6,8,9,11,19,20,21,22,23,24,25], Good x := gc (gd func5 rfl rfl e5) (gc (gd func6 rfl rfl e6) (gc (gd func8 rfl rfl e8) (gc (gd func9 rfl rfl e9) (gc (gd func11 rfl rfl e11) (gc (gd func19 rfl rfl e19) (gc (gd func20 rfl rfl e20) (gc (gd func21 rfl rfl e21) (gc (gd func22 rfl rfl e22) (gc (gd func23 rfl rfl e23) (gc (gd func24 rfl rfl e24) (gc (gd func25 rfl rfl e25) (gn))))))))))))
theorem g1x : ∀ x ∈ [26,27,30,31,32,33,34,37,38,41,42,48], Good x := gc (gd func26 rfl rfl e26) (gc (gd func27 rfl rfl e27) (gc (gd func30 rfl rfl e30) (gc (gd func31 rfl rfl e31) (gc (gd func32 rfl rfl e32) (gc (gd func33 rfl rfl e33) (gc (gd func34 rfl rfl e34) (gc (gd func37 rfl rfl e37) (gc (gd func38 rfl rfl e38) (gc (gd func41 rfl rfl e41) (gc (gd func42 rfl rfl e42) (gc (gd func48 rfl rfl e48) (gn))))))))))))
theorem g2x : ∀ x ∈ [49,50,51,52,53,54,55,56,57,58,59,60], Good x := gc (gd func49 rfl rfl e49) (gc (gd func50 rfl rfl e50) (gc (gd func51 rfl rfl e51) (gc (gd func52 rfl rfl e52) (gc (gd func53 rfl rfl e53) (gc (gd func54 rfl rfl e54) (gc (gd func55 rfl rfl e55) (gc (gd func56 rfl rfl e56) (gc (gd func57 rfl rfl e57) (gc (gd func58 rfl rfl e58) (gc (gd func59 rfl rfl e59) (gc (gd func60 rfl rfl e60) (gn))))))))))))
theorem g3x : ∀ x ∈ [61,62,63,64,65,66,68,79,80,81,82,86], Good x := gc (gd func61 rfl rfl e61) (gc (gd func62 rfl rfl e62) (gc (gd func63 rfl rfl e63) (gc (gd func64 rfl rfl e64) (gc (gd func65 rfl rfl e65) (gc (gd func66 rfl rfl e66) (gc (gd func68 rfl rfl e68) (gc (gd func79 rfl rfl e79) (gc (gd func80 rfl rfl e80) (gc (gd func81 rfl rfl e81) (gc (gd func82 rfl rfl e82) (gc (gd func86 rfl rfl e86) (gn))))))))))))
theorem g4x : ∀ x ∈ [87,88,89,92,93,94,95,96,97,98,99,100], Good x := gc (gd func87 rfl rfl e87) (gc (gd func88 rfl rfl e88) (gc (gd func89 rfl rfl e89) (gc (gd func92 rfl rfl e92) (gc (gd func93 rfl rfl e93) (gc (gd func94 rfl rfl e94) (gc (gd func95 rfl rfl e95) (gc (gd func96 rfl rfl e96) (gc (gd func97 rfl rfl e97) (gc (gd func98 rfl rfl e98) (gc (gd func99 rfl rfl e99) (gc (gd func100 rfl rfl e100) (gn))))))))))))
theorem g5x : ∀ x ∈ [101,102,103,104,105,106,107,108,109,110,111,112], Good x := gc (gd func101 rfl rfl e101) (gc (gd func102 rfl rfl e102) (gc (gd func103 rfl rfl e103) (gc (gd func104 rfl rfl e104) (gc (gd func105 rfl rfl e105) (gc (gd func106 rfl rfl e106) (gc (gd func107 rfl rfl e107) (gc (gd func108 rfl rfl e108) (gc (gd func109 rfl rfl e109) (gc (gd func110 rfl rfl e110) (gc (gd func111 rfl rfl e111) (gc (gd func112 rfl rfl e112) (gn))))))))))))
theorem g6x : ∀ x ∈ [114,124,125,126,127,128,129,130,131,132,133,134], Good x := gc (gd func114 rfl rfl e114) (gc (gd func124 rfl rfl e124) (gc (gd func125 rfl rfl e125) (gc (gd func126 rfl rfl e126) (gc (gd func127 rfl rfl e127) (gc (gd func128 rfl rfl e128) (gc (gd func129 rfl rfl e129) (gc (gd func130 rfl rfl e130) (gc (gd func131 rfl rfl e131) (gc (gd func132 rfl rfl e132) (gc (gd func133 rfl rfl e133) (gc (gd func134 rfl rfl e134) (gn))))))))))))
theorem g7x : ∀ x ∈ [135,136,137,138,145,146,147,148,149,150,151,152], Good x := gc (gd func135 rfl rfl e135) (gc (gd func136 rfl rfl e136) (gc (gd func137 rfl rfl e137) (gc (gd func138 rfl rfl e138) (gc (gd func145 rfl rfl e145) (gc (gd func146 rfl rfl e146) (gc (gd func147 rfl rfl e147) (gc (gd func148 rfl rfl e148) (gc (gd func149 rfl rfl e149) (gc (gd func150 rfl rfl e150) (gc (gd func151 rfl rfl e151) (gc (gd func152 rfl rfl e152) (gn))))))))))))
theorem g8x : ∀ x ∈ [153,154,155,156,157,158,159,160,161,162,163,164], Good x := gc (gd func153 rfl rfl e153) (gc (gd func154 rfl rfl e154) (gc (gd func155 rfl rfl e155) (gc (gd func156 rfl rfl e156) (gc (gd func157 rfl rfl e157) (gc (gd func158 rfl rfl e158) (gc (gd func159 rfl rfl e159) (gc (gd func160 rfl rfl e160) (gc (gd func161 rfl rfl e161) (gc (gd func162 rfl rfl e162) (gc (gd func163 rfl rfl e163) (gc (gd func164 rfl rfl e164) (gn))))))))))))
theorem g9x : ∀ x ∈ [165,166,167,169,183,184,185,186,187,188,189,190], Good x := gc (gd func165 rfl rfl e165) (gc (gd func166 rfl rfl e166) (gc (gd func167 rfl rfl e167) (gc (gd func169 rfl rfl e169) (gc (gd func183 rfl rfl e183) (gc (gd func184 rfl rfl e184) (gc (gd func185 rfl rfl e185) (gc (gd func186 rfl rfl e186) (gc (gd func187 rfl rfl e187) (gc (gd func188 rfl rfl e188) (gc (gd func189 rfl rfl e189) (gc (gd func190 rfl rfl e190) (gn))))))))))))
theorem g10x : ∀ x ∈ [191,192,193,194,195,196,197,202,203,204,205,206], Good x := gc (gd func191 rfl rfl e191) (gc (gd func192 rfl rfl e192) (gc (gd func193 rfl rfl e193) (gc (gd func194 rfl rfl e194) (gc (gd func195 rfl rfl e195) (gc (gd func196 rfl rfl e196) (gc (gd func197 rfl rfl e197) (gc (gd func202 rfl rfl e202) (gc (gd func203 rfl rfl e203) (gc (gd func204 rfl rfl e204) (gc (gd func205 rfl rfl e205) (gc (gd func206 rfl rfl e206) (gn))))))))))))
theorem g11x : ∀ x ∈ [207,208,209,210,211,212,213,214,215,216,217], Good x := gc (gd func207 rfl rfl e207) (gc (gd func208 rfl rfl e208) (gc (gd func209 rfl rfl e209) (gc (gd func210 rfl rfl e210) (gc (gd func211 rfl rfl e211) (gc (gd func212 rfl rfl e212) (gc (gd func213 rfl rfl e213) (gc (gd func214 rfl rfl e214) (gc (gd func215 rfl rfl e215) (gc (gd func216 rfl rfl e216) (gc (gd func217 rfl rfl e217) (gn)))))))))))
theorem gl : gs = [5,6,8,9,11,19,20,21,22,23,24,25] ++ [26,27,30,31,32,33,34,37,38,41,42,48] ++ [49,50,51,52,53,54,55,56,57,58,59,60] ++ [61,62,63,64,65,66,68,79,80,81,82,86] ++ [87,88,89,92,93,94,95,96,97,98,99,100] ++ [101,102,103,104,105,106,107,108,109,110,111,112] ++ [114,124,125,126,127,128,129,130,131,132,133,134] ++ [135,136,137,138,145,146,147,148,149,150,151,152] ++ [153,154,155,156,157,158,159,160,161,162,163,164] ++ [165,166,167,169,183,184,185,186,187,188,189,190] ++ [191,192,193,194,195,196,197,202,203,204,205,206] ++ [207,208,209,210,211,212,213,214,215,216,217] := rfl
theorem ga {a b : List Nat} (h : ∀ x ∈ a, Good x) (t : ∀ x ∈ b, Good x) : ∀ x ∈ a ++ b, Good x := fun x hx => (List.mem_append.1 hx).elim (h x) (t x)
theorem gsx : ∀ x ∈ gs, Good x := by
  rw [gl]
  exact ga (ga (ga (ga (ga (ga (ga (ga (ga (ga (ga (g0x) g1x) g2x) g3x) g4x) g5x) g6x) g7x) g8x) g9x) g10x) g11x
theorem cov : (List.range tab.length).all (fun g => noC g || gs.contains g) = true := by kernel_rfl
theorem cal : (List.range tab.length).all (okC prog.funcs) = true := by kernel_rfl
theorem invlt {g j : Nat} (h : inv g = some j) : g < tab.length := by
  rcases Nat.lt_or_ge g tab.length with h2 | h2
  · exact h2
  · unfold inv at h
    rw [List.getElem?_eq_none h2] at h
    cases h
theorem has (g : Nat) : Good g := by
  intro j F h hc
  have h1 := List.all_eq_true.1 cov g (List.mem_range.2 (invlt h))
  simp only [Bool.or_eq_true] at h1
  rcases h1 with h1 | h1
  · unfold noC at h1
    rw [h] at h1
    simp only [hc] at h1
    cases h1
  · exact gsx g (List.contains_iff_mem.1 h1) j F h hc
theorem calls : ∀ (g j : Nat), inv g = some j → ∃ fn, prog.funcs[g]? = some fn ∧ fn.body.isNone = false ∧ (fn.name == "runtime.NumGoroutine") = false := by
  intro g j h
  have h1 := List.all_eq_true.1 cal g (List.mem_range.2 (invlt h))
  unfold okC at h1
  rw [h] at h1
  simp only at h1
  split at h1
  · rename_i fn e
    simp only [Bool.and_eq_true, Bool.not_eq_true'] at h1
    exact ⟨fn, e, h1.1, h1.2⟩
  · cases h1
theorem all : HasAll prog inv := ⟨⟨by kernel_rfl, calls⟩, fun j F hc g hg => has g j F hg hc⟩
end
end Go.Eng.Tryz
