/-
  THE SEAT: its functions have the codes that the engine walks.
-/
import Derived.Test.YtjfongdncghjmaaGreatChecked
import Derived.Test.YtjfongdncghjmaaGreatK6
namespace Go.Eng.Tryz
open Go.Proofs.Tryz
def tab:List Nat:=[0,0,0,378,386,387,211,388,226,389,390,391,394,9,395,227,228,392,396,397,398,70,230,293,399,393,22,231,232,233,234,235,236,109,50,401,297,402,403,317,20,80,23,250,251,17,77,90,252,296,300,404,400,253,68,254,255,256,257,258,259,260,261,25,19,262,263,264,265,303,311,312,354,44,45,71,94,27,47,48,97,268,269,270,42,43,91,99,100,271,301,302,305,304,295,405,272,273,81,82,46,0,275,276,0,278,313,353,83,84,85,111,112,113,114,115,116,117,118,119,120,121,122,51,52,53,54,279,101,102,103,104,105,106,107,108,96,128,129,49,306,307,308,309,310,314,95,280,199,281,336,56,130,131,123,124,125,126,127,139,140,136,55,315,316,318,319,282,214,215,283,294,141,132,92,133,134,135,137,138,229,142,110,143,144,145,146,237,177,238,239,240,241,242,243,178,244,245,246,247,248,249,185,98,266,186,267,0,0,0,0,0,0,0,0,0,0,0,0,0,0,0,0,0]
def inv (g:Nat):Option Nat:=match tab[g]? with|some (k+1)=>some k|_=>none
def Good (g:Nat):Prop:=∀ j F,inv g=some j->code j=some F->∃ fn,prog.funcs[g]?=some fn/\zl9 prog inv fn=some F
theorem gd {g j:Nat} {fn:Func} {F:AFn} (h:prog.funcs[g]?=some fn) (hi:inv g=some j) (hc:code j=some F) (e:zl9 prog inv fn=some F):Good g:=by
 intro j2 F2 h2 c2
 rw[hi]at h2
 obtain rfl:j=j2:=Option.some.inj h2
 rw[hc]at c2
 obtain rfl:F=F2:=Option.some.inj c2
 exact ⟨fn,h,e⟩
theorem gc {g:Nat} {l:List Nat} (h:Good g) (t:∀ x∈l,Good x):∀ x∈g::l,Good x:=fun x hx=>(List.mem_cons.1 hx).elim (fun e=>e▸h) (t x)
theorem gn:∀ x∈([]:List Nat),Good x:=fun x hx=>absurd hx (by simp)
def noC (g:Nat):Bool:=match inv g with|none=>true|some j=>(code j).isNone
def okC (fs:Array Func) (g:Nat):Bool:=match inv g with|none=>true|some _=>match fs[g]? with|some fn=>!fn.body.isNone&&!(fn.name == "runtime.NumGoroutine")|none=>false
section
set_option maxRecDepth 100000
theorem e3:zl9 prog inv f3=some cd377:=by kernel_rfl
theorem e4:zl9 prog inv f4=some cd385:=by kernel_rfl
theorem e5:zl9 prog inv f5=some cd386:=by kernel_rfl
theorem e6:zl9 prog inv f6=some cd210:=by kernel_rfl
theorem e7:zl9 prog inv f7=some cd387:=by kernel_rfl
theorem e8:zl9 prog inv f8=some cd225:=by kernel_rfl
theorem e9:zl9 prog inv f9=some cd388:=by kernel_rfl
theorem e10:zl9 prog inv f10=some cd389:=by kernel_rfl
theorem e11:zl9 prog inv f11=some cd390:=by kernel_rfl
theorem e12:zl9 prog inv f12=some cd393:=by kernel_rfl
theorem e13:zl9 prog inv f13=some cd8:=by kernel_rfl
theorem e14:zl9 prog inv f14=some cd394:=by kernel_rfl
theorem e15:zl9 prog inv f15=some cd226:=by kernel_rfl
theorem e16:zl9 prog inv f16=some cd227:=by kernel_rfl
theorem e17:zl9 prog inv f17=some cd391:=by kernel_rfl
theorem e18:zl9 prog inv f18=some cd395:=by kernel_rfl
theorem e19:zl9 prog inv f19=some cd396:=by kernel_rfl
theorem e20:zl9 prog inv f20=some cd397:=by kernel_rfl
theorem e21:zl9 prog inv f21=some cd69:=by kernel_rfl
theorem e22:zl9 prog inv f22=some cd229:=by kernel_rfl
theorem e23:zl9 prog inv f23=some cd292:=by kernel_rfl
theorem e24:zl9 prog inv f24=some cd398:=by kernel_rfl
theorem e25:zl9 prog inv f25=some cd392:=by kernel_rfl
theorem e26:zl9 prog inv f26=some cd21:=by kernel_rfl
theorem e27:zl9 prog inv f27=some cd230:=by kernel_rfl
theorem e28:zl9 prog inv f28=some cd231:=by kernel_rfl
theorem e29:zl9 prog inv f29=some cd232:=by kernel_rfl
theorem e30:zl9 prog inv f30=some cd233:=by kernel_rfl
theorem e31:zl9 prog inv f31=some cd234:=by kernel_rfl
theorem e32:zl9 prog inv f32=some cd235:=by kernel_rfl
theorem e33:zl9 prog inv f33=some cd108:=by kernel_rfl
theorem e34:zl9 prog inv f34=some cd49:=by kernel_rfl
theorem e35:zl9 prog inv f35=some cd400:=by kernel_rfl
theorem e36:zl9 prog inv f36=some cd296:=by kernel_rfl
theorem e37:zl9 prog inv f37=some cd401:=by kernel_rfl
theorem e38:zl9 prog inv f38=some cd402:=by kernel_rfl
theorem e39:zl9 prog inv f39=some cd316:=by kernel_rfl
theorem e40:zl9 prog inv f40=some cd19:=by kernel_rfl
theorem e41:zl9 prog inv f41=some cd79:=by kernel_rfl
theorem e42:zl9 prog inv f42=some cd22:=by kernel_rfl
theorem e43:zl9 prog inv f43=some cd249:=by kernel_rfl
theorem e44:zl9 prog inv f44=some cd250:=by kernel_rfl
theorem e45:zl9 prog inv f45=some cd16:=by kernel_rfl
theorem e46:zl9 prog inv f46=some cd76:=by kernel_rfl
theorem e47:zl9 prog inv f47=some cd89:=by kernel_rfl
theorem e48:zl9 prog inv f48=some cd251:=by kernel_rfl
theorem e49:zl9 prog inv f49=some cd295:=by kernel_rfl
theorem e50:zl9 prog inv f50=some cd299:=by kernel_rfl
theorem e51:zl9 prog inv f51=some cd403:=by kernel_rfl
theorem e52:zl9 prog inv f52=some cd399:=by kernel_rfl
theorem e53:zl9 prog inv f53=some cd252:=by kernel_rfl
theorem e54:zl9 prog inv f54=some cd67:=by kernel_rfl
theorem e55:zl9 prog inv f55=some cd253:=by kernel_rfl
theorem e56:zl9 prog inv f56=some cd254:=by kernel_rfl
theorem e57:zl9 prog inv f57=some cd255:=by kernel_rfl
theorem e58:zl9 prog inv f58=some cd256:=by kernel_rfl
theorem e59:zl9 prog inv f59=some cd257:=by kernel_rfl
theorem e60:zl9 prog inv f60=some cd258:=by kernel_rfl
theorem e61:zl9 prog inv f61=some cd259:=by kernel_rfl
theorem e62:zl9 prog inv f62=some cd260:=by kernel_rfl
theorem e63:zl9 prog inv f63=some cd24:=by kernel_rfl
theorem e64:zl9 prog inv f64=some cd18:=by kernel_rfl
theorem e65:zl9 prog inv f65=some cd261:=by kernel_rfl
theorem e66:zl9 prog inv f66=some cd262:=by kernel_rfl
theorem e67:zl9 prog inv f67=some cd263:=by kernel_rfl
theorem e68:zl9 prog inv f68=some cd264:=by kernel_rfl
theorem e69:zl9 prog inv f69=some cd302:=by kernel_rfl
theorem e70:zl9 prog inv f70=some cd310:=by kernel_rfl
theorem e71:zl9 prog inv f71=some cd311:=by kernel_rfl
theorem e72:zl9 prog inv f72=some cd353:=by kernel_rfl
theorem e73:zl9 prog inv f73=some cd43:=by kernel_rfl
theorem e74:zl9 prog inv f74=some cd44:=by kernel_rfl
theorem e75:zl9 prog inv f75=some cd70:=by kernel_rfl
theorem e76:zl9 prog inv f76=some cd93:=by kernel_rfl
theorem e77:zl9 prog inv f77=some cd26:=by kernel_rfl
theorem e78:zl9 prog inv f78=some cd46:=by kernel_rfl
theorem e79:zl9 prog inv f79=some cd47:=by kernel_rfl
theorem e80:zl9 prog inv f80=some cd96:=by kernel_rfl
theorem e81:zl9 prog inv f81=some cd267:=by kernel_rfl
theorem e82:zl9 prog inv f82=some cd268:=by kernel_rfl
theorem e83:zl9 prog inv f83=some cd269:=by kernel_rfl
theorem e84:zl9 prog inv f84=some cd41:=by kernel_rfl
theorem e85:zl9 prog inv f85=some cd42:=by kernel_rfl
theorem e86:zl9 prog inv f86=some cd90:=by kernel_rfl
theorem e87:zl9 prog inv f87=some cd98:=by kernel_rfl
theorem e88:zl9 prog inv f88=some cd99:=by kernel_rfl
theorem e89:zl9 prog inv f89=some cd270:=by kernel_rfl
theorem e90:zl9 prog inv f90=some cd300:=by kernel_rfl
theorem e91:zl9 prog inv f91=some cd301:=by kernel_rfl
theorem e92:zl9 prog inv f92=some cd304:=by kernel_rfl
theorem e93:zl9 prog inv f93=some cd303:=by kernel_rfl
theorem e94:zl9 prog inv f94=some cd294:=by kernel_rfl
theorem e95:zl9 prog inv f95=some cd404:=by kernel_rfl
theorem e96:zl9 prog inv f96=some cd271:=by kernel_rfl
theorem e97:zl9 prog inv f97=some cd272:=by kernel_rfl
theorem e98:zl9 prog inv f98=some cd80:=by kernel_rfl
theorem e99:zl9 prog inv f99=some cd81:=by kernel_rfl
theorem e100:zl9 prog inv f100=some cd45:=by kernel_rfl
theorem e102:zl9 prog inv f102=some cd274:=by kernel_rfl
theorem e103:zl9 prog inv f103=some cd275:=by kernel_rfl
theorem e105:zl9 prog inv f105=some cd277:=by kernel_rfl
theorem e106:zl9 prog inv f106=some cd312:=by kernel_rfl
theorem e107:zl9 prog inv f107=some cd352:=by kernel_rfl
theorem e108:zl9 prog inv f108=some cd82:=by kernel_rfl
theorem e109:zl9 prog inv f109=some cd83:=by kernel_rfl
theorem e110:zl9 prog inv f110=some cd84:=by kernel_rfl
theorem e111:zl9 prog inv f111=some cd110:=by kernel_rfl
theorem e112:zl9 prog inv f112=some cd111:=by kernel_rfl
theorem e113:zl9 prog inv f113=some cd112:=by kernel_rfl
theorem e114:zl9 prog inv f114=some cd113:=by kernel_rfl
theorem e115:zl9 prog inv f115=some cd114:=by kernel_rfl
theorem e116:zl9 prog inv f116=some cd115:=by kernel_rfl
theorem e117:zl9 prog inv f117=some cd116:=by kernel_rfl
theorem e118:zl9 prog inv f118=some cd117:=by kernel_rfl
theorem e119:zl9 prog inv f119=some cd118:=by kernel_rfl
theorem e120:zl9 prog inv f120=some cd119:=by kernel_rfl
theorem e121:zl9 prog inv f121=some cd120:=by kernel_rfl
theorem e122:zl9 prog inv f122=some cd121:=by kernel_rfl
theorem e123:zl9 prog inv f123=some cd50:=by kernel_rfl
theorem e124:zl9 prog inv f124=some cd51:=by kernel_rfl
theorem e125:zl9 prog inv f125=some cd52:=by kernel_rfl
theorem e126:zl9 prog inv f126=some cd53:=by kernel_rfl
theorem e127:zl9 prog inv f127=some cd278:=by kernel_rfl
theorem e128:zl9 prog inv f128=some cd100:=by kernel_rfl
theorem e129:zl9 prog inv f129=some cd101:=by kernel_rfl
theorem e130:zl9 prog inv f130=some cd102:=by kernel_rfl
theorem e131:zl9 prog inv f131=some cd103:=by kernel_rfl
theorem e132:zl9 prog inv f132=some cd104:=by kernel_rfl
theorem e133:zl9 prog inv f133=some cd105:=by kernel_rfl
theorem e134:zl9 prog inv f134=some cd106:=by kernel_rfl
theorem e135:zl9 prog inv f135=some cd107:=by kernel_rfl
theorem e136:zl9 prog inv f136=some cd95:=by kernel_rfl
theorem e137:zl9 prog inv f137=some cd127:=by kernel_rfl
theorem e138:zl9 prog inv f138=some cd128:=by kernel_rfl
theorem e139:zl9 prog inv f139=some cd48:=by kernel_rfl
theorem e140:zl9 prog inv f140=some cd305:=by kernel_rfl
theorem e141:zl9 prog inv f141=some cd306:=by kernel_rfl
theorem e142:zl9 prog inv f142=some cd307:=by kernel_rfl
theorem e143:zl9 prog inv f143=some cd308:=by kernel_rfl
theorem e144:zl9 prog inv f144=some cd309:=by kernel_rfl
theorem e145:zl9 prog inv f145=some cd313:=by kernel_rfl
theorem e146:zl9 prog inv f146=some cd94:=by kernel_rfl
theorem e147:zl9 prog inv f147=some cd279:=by kernel_rfl
theorem e148:zl9 prog inv f148=some cd198:=by kernel_rfl
theorem e149:zl9 prog inv f149=some cd280:=by kernel_rfl
theorem e150:zl9 prog inv f150=some cd335:=by kernel_rfl
theorem e151:zl9 prog inv f151=some cd55:=by kernel_rfl
theorem e152:zl9 prog inv f152=some cd129:=by kernel_rfl
theorem e153:zl9 prog inv f153=some cd130:=by kernel_rfl
theorem e154:zl9 prog inv f154=some cd122:=by kernel_rfl
theorem e155:zl9 prog inv f155=some cd123:=by kernel_rfl
theorem e156:zl9 prog inv f156=some cd124:=by kernel_rfl
theorem e157:zl9 prog inv f157=some cd125:=by kernel_rfl
theorem e158:zl9 prog inv f158=some cd126:=by kernel_rfl
theorem e159:zl9 prog inv f159=some cd138:=by kernel_rfl
theorem e160:zl9 prog inv f160=some cd139:=by kernel_rfl
theorem e161:zl9 prog inv f161=some cd135:=by kernel_rfl
theorem e162:zl9 prog inv f162=some cd54:=by kernel_rfl
theorem e163:zl9 prog inv f163=some cd314:=by kernel_rfl
theorem e164:zl9 prog inv f164=some cd315:=by kernel_rfl
theorem e165:zl9 prog inv f165=some cd317:=by kernel_rfl
theorem e166:zl9 prog inv f166=some cd318:=by kernel_rfl
theorem e167:zl9 prog inv f167=some cd281:=by kernel_rfl
theorem e168:zl9 prog inv f168=some cd213:=by kernel_rfl
theorem e169:zl9 prog inv f169=some cd214:=by kernel_rfl
theorem e170:zl9 prog inv f170=some cd282:=by kernel_rfl
theorem e171:zl9 prog inv f171=some cd293:=by kernel_rfl
theorem e172:zl9 prog inv f172=some cd140:=by kernel_rfl
theorem e173:zl9 prog inv f173=some cd131:=by kernel_rfl
theorem e174:zl9 prog inv f174=some cd91:=by kernel_rfl
theorem e175:zl9 prog inv f175=some cd132:=by kernel_rfl
theorem e176:zl9 prog inv f176=some cd133:=by kernel_rfl
theorem e177:zl9 prog inv f177=some cd134:=by kernel_rfl
theorem e178:zl9 prog inv f178=some cd136:=by kernel_rfl
theorem e179:zl9 prog inv f179=some cd137:=by kernel_rfl
theorem e180:zl9 prog inv f180=some cd228:=by kernel_rfl
theorem e181:zl9 prog inv f181=some cd141:=by kernel_rfl
theorem e182:zl9 prog inv f182=some cd109:=by kernel_rfl
theorem e183:zl9 prog inv f183=some cd142:=by kernel_rfl
theorem e184:zl9 prog inv f184=some cd143:=by kernel_rfl
theorem e185:zl9 prog inv f185=some cd144:=by kernel_rfl
theorem e186:zl9 prog inv f186=some cd145:=by kernel_rfl
theorem e187:zl9 prog inv f187=some cd236:=by kernel_rfl
theorem e188:zl9 prog inv f188=some cd176:=by kernel_rfl
theorem e189:zl9 prog inv f189=some cd237:=by kernel_rfl
theorem e190:zl9 prog inv f190=some cd238:=by kernel_rfl
theorem e191:zl9 prog inv f191=some cd239:=by kernel_rfl
theorem e192:zl9 prog inv f192=some cd240:=by kernel_rfl
theorem e193:zl9 prog inv f193=some cd241:=by kernel_rfl
theorem e194:zl9 prog inv f194=some cd242:=by kernel_rfl
theorem e195:zl9 prog inv f195=some cd177:=by kernel_rfl
theorem e196:zl9 prog inv f196=some cd243:=by kernel_rfl
theorem e197:zl9 prog inv f197=some cd244:=by kernel_rfl
theorem e198:zl9 prog inv f198=some cd245:=by kernel_rfl
theorem e199:zl9 prog inv f199=some cd246:=by kernel_rfl
theorem e200:zl9 prog inv f200=some cd247:=by kernel_rfl
theorem e201:zl9 prog inv f201=some cd248:=by kernel_rfl
theorem e202:zl9 prog inv f202=some cd184:=by kernel_rfl
theorem e203:zl9 prog inv f203=some cd97:=by kernel_rfl
theorem e204:zl9 prog inv f204=some cd265:=by kernel_rfl
theorem e205:zl9 prog inv f205=some cd185:=by kernel_rfl
theorem e206:zl9 prog inv f206=some cd266:=by kernel_rfl
def gs:List Nat:=[3,4,5,6,7,8,9,10,11,12,13,14,15,16,17,18,19,20,21,22,23,24,25,26,27,28,29,30,31,32,33,34,35,36,37,38,39,40,41,42,43,44,45,46,47,48,49,50,51,52,53,54,55,56,57,58,59,60,61,62,63,64,65,66,67,68,69,70,71,72,73,74,75,76,77,78,79,80,81,82,83,84,85,86,87,88,89,90,91,92,93,94,95,96,97,98,99,100,102,103,105,106,107,108,109,110,111,112,113,114,115,116,117,118,119,120,121,122,123,124,125,126,127,128,129,130,131,132,133,134,135,136,137,138,139,140,141,142,143,144,145,146,147,148,149,150,151,152,153,154,155,156,157,158,159,160,161,162,163,164,165,166,167,168,169,170,171,172,173,174,175,176,177,178,179,180,181,182,183,184,185,186,187,188,189,190,191,192,193,194,195,196,197,198,199,200,201,202,203,204,205,206]
theorem g0x:∀ x∈[3,4,5,6,7,8,9,10,11,12,13,14],Good x:=gc (gd func3 rfl rfl e3) (gc (gd func4 rfl rfl e4) (gc (gd func5 rfl rfl e5) (gc (gd func6 rfl rfl e6) (gc (gd func7 rfl rfl e7) (gc (gd func8 rfl rfl e8) (gc (gd func9 rfl rfl e9) (gc (gd func10 rfl rfl e10) (gc (gd func11 rfl rfl e11) (gc (gd func12 rfl rfl e12) (gc (gd func13 rfl rfl e13) (gc (gd func14 rfl rfl e14) (gn))))))))))))
theorem g1x:∀ x∈[15,16,17,18,19,20,21,22,23,24,25,26],Good x:=gc (gd func15 rfl rfl e15) (gc (gd func16 rfl rfl e16) (gc (gd func17 rfl rfl e17) (gc (gd func18 rfl rfl e18) (gc (gd func19 rfl rfl e19) (gc (gd func20 rfl rfl e20) (gc (gd func21 rfl rfl e21) (gc (gd func22 rfl rfl e22) (gc (gd func23 rfl rfl e23) (gc (gd func24 rfl rfl e24) (gc (gd func25 rfl rfl e25) (gc (gd func26 rfl rfl e26) (gn))))))))))))
theorem g2x:∀ x∈[27,28,29,30,31,32,33,34,35,36,37,38],Good x:=gc (gd func27 rfl rfl e27) (gc (gd func28 rfl rfl e28) (gc (gd func29 rfl rfl e29) (gc (gd func30 rfl rfl e30) (gc (gd func31 rfl rfl e31) (gc (gd func32 rfl rfl e32) (gc (gd func33 rfl rfl e33) (gc (gd func34 rfl rfl e34) (gc (gd func35 rfl rfl e35) (gc (gd func36 rfl rfl e36) (gc (gd func37 rfl rfl e37) (gc (gd func38 rfl rfl e38) (gn))))))))))))
theorem g3x:∀ x∈[39,40,41,42,43,44,45,46,47,48,49,50],Good x:=gc (gd func39 rfl rfl e39) (gc (gd func40 rfl rfl e40) (gc (gd func41 rfl rfl e41) (gc (gd func42 rfl rfl e42) (gc (gd func43 rfl rfl e43) (gc (gd func44 rfl rfl e44) (gc (gd func45 rfl rfl e45) (gc (gd func46 rfl rfl e46) (gc (gd func47 rfl rfl e47) (gc (gd func48 rfl rfl e48) (gc (gd func49 rfl rfl e49) (gc (gd func50 rfl rfl e50) (gn))))))))))))
theorem g4x:∀ x∈[51,52,53,54,55,56,57,58,59,60,61,62],Good x:=gc (gd func51 rfl rfl e51) (gc (gd func52 rfl rfl e52) (gc (gd func53 rfl rfl e53) (gc (gd func54 rfl rfl e54) (gc (gd func55 rfl rfl e55) (gc (gd func56 rfl rfl e56) (gc (gd func57 rfl rfl e57) (gc (gd func58 rfl rfl e58) (gc (gd func59 rfl rfl e59) (gc (gd func60 rfl rfl e60) (gc (gd func61 rfl rfl e61) (gc (gd func62 rfl rfl e62) (gn))))))))))))
theorem g5x:∀ x∈[63,64,65,66,67,68,69,70,71,72,73,74],Good x:=gc (gd func63 rfl rfl e63) (gc (gd func64 rfl rfl e64) (gc (gd func65 rfl rfl e65) (gc (gd func66 rfl rfl e66) (gc (gd func67 rfl rfl e67) (gc (gd func68 rfl rfl e68) (gc (gd func69 rfl rfl e69) (gc (gd func70 rfl rfl e70) (gc (gd func71 rfl rfl e71) (gc (gd func72 rfl rfl e72) (gc (gd func73 rfl rfl e73) (gc (gd func74 rfl rfl e74) (gn))))))))))))
theorem g6x:∀ x∈[75,76,77,78,79,80,81,82,83,84,85,86],Good x:=gc (gd func75 rfl rfl e75) (gc (gd func76 rfl rfl e76) (gc (gd func77 rfl rfl e77) (gc (gd func78 rfl rfl e78) (gc (gd func79 rfl rfl e79) (gc (gd func80 rfl rfl e80) (gc (gd func81 rfl rfl e81) (gc (gd func82 rfl rfl e82) (gc (gd func83 rfl rfl e83) (gc (gd func84 rfl rfl e84) (gc (gd func85 rfl rfl e85) (gc (gd func86 rfl rfl e86) (gn))))))))))))
theorem g7x:∀ x∈[87,88,89,90,91,92,93,94,95,96,97,98],Good x:=gc (gd func87 rfl rfl e87) (gc (gd func88 rfl rfl e88) (gc (gd func89 rfl rfl e89) (gc (gd func90 rfl rfl e90) (gc (gd func91 rfl rfl e91) (gc (gd func92 rfl rfl e92) (gc (gd func93 rfl rfl e93) (gc (gd func94 rfl rfl e94) (gc (gd func95 rfl rfl e95) (gc (gd func96 rfl rfl e96) (gc (gd func97 rfl rfl e97) (gc (gd func98 rfl rfl e98) (gn))))))))))))
theorem g8x:∀ x∈[99,100,102,103,105,106,107,108,109,110,111,112],Good x:=gc (gd func99 rfl rfl e99) (gc (gd func100 rfl rfl e100) (gc (gd func102 rfl rfl e102) (gc (gd func103 rfl rfl e103) (gc (gd func105 rfl rfl e105) (gc (gd func106 rfl rfl e106) (gc (gd func107 rfl rfl e107) (gc (gd func108 rfl rfl e108) (gc (gd func109 rfl rfl e109) (gc (gd func110 rfl rfl e110) (gc (gd func111 rfl rfl e111) (gc (gd func112 rfl rfl e112) (gn))))))))))))
theorem g9x:∀ x∈[113,114,115,116,117,118,119,120,121,122,123,124],Good x:=gc (gd func113 rfl rfl e113) (gc (gd func114 rfl rfl e114) (gc (gd func115 rfl rfl e115) (gc (gd func116 rfl rfl e116) (gc (gd func117 rfl rfl e117) (gc (gd func118 rfl rfl e118) (gc (gd func119 rfl rfl e119) (gc (gd func120 rfl rfl e120) (gc (gd func121 rfl rfl e121) (gc (gd func122 rfl rfl e122) (gc (gd func123 rfl rfl e123) (gc (gd func124 rfl rfl e124) (gn))))))))))))
theorem g10x:∀ x∈[125,126,127,128,129,130,131,132,133,134,135,136],Good x:=gc (gd func125 rfl rfl e125) (gc (gd func126 rfl rfl e126) (gc (gd func127 rfl rfl e127) (gc (gd func128 rfl rfl e128) (gc (gd func129 rfl rfl e129) (gc (gd func130 rfl rfl e130) (gc (gd func131 rfl rfl e131) (gc (gd func132 rfl rfl e132) (gc (gd func133 rfl rfl e133) (gc (gd func134 rfl rfl e134) (gc (gd func135 rfl rfl e135) (gc (gd func136 rfl rfl e136) (gn))))))))))))
theorem g11x:∀ x∈[137,138,139,140,141,142,143,144,145,146,147,148],Good x:=gc (gd func137 rfl rfl e137) (gc (gd func138 rfl rfl e138) (gc (gd func139 rfl rfl e139) (gc (gd func140 rfl rfl e140) (gc (gd func141 rfl rfl e141) (gc (gd func142 rfl rfl e142) (gc (gd func143 rfl rfl e143) (gc (gd func144 rfl rfl e144) (gc (gd func145 rfl rfl e145) (gc (gd func146 rfl rfl e146) (gc (gd func147 rfl rfl e147) (gc (gd func148 rfl rfl e148) (gn))))))))))))
theorem g12x:∀ x∈[149,150,151,152,153,154,155,156,157,158,159,160],Good x:=gc (gd func149 rfl rfl e149) (gc (gd func150 rfl rfl e150) (gc (gd func151 rfl rfl e151) (gc (gd func152 rfl rfl e152) (gc (gd func153 rfl rfl e153) (gc (gd func154 rfl rfl e154) (gc (gd func155 rfl rfl e155) (gc (gd func156 rfl rfl e156) (gc (gd func157 rfl rfl e157) (gc (gd func158 rfl rfl e158) (gc (gd func159 rfl rfl e159) (gc (gd func160 rfl rfl e160) (gn))))))))))))
theorem g13x:∀ x∈[161,162,163,164,165,166,167,168,169,170,171,172],Good x:=gc (gd func161 rfl rfl e161) (gc (gd func162 rfl rfl e162) (gc (gd func163 rfl rfl e163) (gc (gd func164 rfl rfl e164) (gc (gd func165 rfl rfl e165) (gc (gd func166 rfl rfl e166) (gc (gd func167 rfl rfl e167) (gc (gd func168 rfl rfl e168) (gc (gd func169 rfl rfl e169) (gc (gd func170 rfl rfl e170) (gc (gd func171 rfl rfl e171) (gc (gd func172 rfl rfl e172) (gn))))))))))))
theorem g14x:∀ x∈[173,174,175,176,177,178,179,180,181,182,183,184],Good x:=gc (gd func173 rfl rfl e173) (gc (gd func174 rfl rfl e174) (gc (gd func175 rfl rfl e175) (gc (gd func176 rfl rfl e176) (gc (gd func177 rfl rfl e177) (gc (gd func178 rfl rfl e178) (gc (gd func179 rfl rfl e179) (gc (gd func180 rfl rfl e180) (gc (gd func181 rfl rfl e181) (gc (gd func182 rfl rfl e182) (gc (gd func183 rfl rfl e183) (gc (gd func184 rfl rfl e184) (gn))))))))))))
theorem g15x:∀ x∈[185,186,187,188,189,190,191,192,193,194,195,196],Good x:=gc (gd func185 rfl rfl e185) (gc (gd func186 rfl rfl e186) (gc (gd func187 rfl rfl e187) (gc (gd func188 rfl rfl e188) (gc (gd func189 rfl rfl e189) (gc (gd func190 rfl rfl e190) (gc (gd func191 rfl rfl e191) (gc (gd func192 rfl rfl e192) (gc (gd func193 rfl rfl e193) (gc (gd func194 rfl rfl e194) (gc (gd func195 rfl rfl e195) (gc (gd func196 rfl rfl e196) (gn))))))))))))
theorem g16x:∀ x∈[197,198,199,200,201,202,203,204,205,206],Good x:=gc (gd func197 rfl rfl e197) (gc (gd func198 rfl rfl e198) (gc (gd func199 rfl rfl e199) (gc (gd func200 rfl rfl e200) (gc (gd func201 rfl rfl e201) (gc (gd func202 rfl rfl e202) (gc (gd func203 rfl rfl e203) (gc (gd func204 rfl rfl e204) (gc (gd func205 rfl rfl e205) (gc (gd func206 rfl rfl e206) (gn))))))))))
theorem gl:gs=[3,4,5,6,7,8,9,10,11,12,13,14]++[15,16,17,18,19,20,21,22,23,24,25,26]++[27,28,29,30,31,32,33,34,35,36,37,38]++[39,40,41,42,43,44,45,46,47,48,49,50]++[51,52,53,54,55,56,57,58,59,60,61,62]++[63,64,65,66,67,68,69,70,71,72,73,74]++[75,76,77,78,79,80,81,82,83,84,85,86]++[87,88,89,90,91,92,93,94,95,96,97,98]++[99,100,102,103,105,106,107,108,109,110,111,112]++[113,114,115,116,117,118,119,120,121,122,123,124]++[125,126,127,128,129,130,131,132,133,134,135,136]++[137,138,139,140,141,142,143,144,145,146,147,148]++[149,150,151,152,153,154,155,156,157,158,159,160]++[161,162,163,164,165,166,167,168,169,170,171,172]++[173,174,175,176,177,178,179,180,181,182,183,184]++[185,186,187,188,189,190,191,192,193,194,195,196]++[197,198,199,200,201,202,203,204,205,206]:=rfl
theorem ga {a b:List Nat} (h:∀ x∈a,Good x) (t:∀ x∈b,Good x):∀ x∈a++b,Good x:=fun x hx=>(List.mem_append.1 hx).elim (h x) (t x)
theorem gsx:∀ x∈gs,Good x:=by
 rw[gl]
 exact ga (ga (ga (ga (ga (ga (ga (ga (ga (ga (ga (ga (ga (ga (ga (ga (g0x) g1x) g2x) g3x) g4x) g5x) g6x) g7x) g8x) g9x) g10x) g11x) g12x) g13x) g14x) g15x) g16x
theorem cov:(List.range tab.length).all (fun g=>noC g||gs.contains g)=true:=by kernel_rfl
theorem cal:(List.range tab.length).all (okC prog.funcs)=true:=by kernel_rfl
theorem invlt {g j:Nat} (h:inv g=some j):g<tab.length:=by
 rcases Nat.lt_or_ge g tab.length with h2|h2
 ·exact h2
 ·unfold inv at h
  rw[List.getElem?_eq_none h2]at h
  cases h
theorem has (g:Nat):Good g:=by
 intro j F h hc
 have h1:=List.all_eq_true.1 cov g (List.mem_range.2 (invlt h))
 simp only[Bool.or_eq_true]at h1
 rcases h1 with h1|h1
 ·unfold noC at h1
  rw[h]at h1
  simp only[hc]at h1
  cases h1
 ·exact gsx g (List.contains_iff_mem.1 h1) j F h hc
theorem calls:∀ (g j:Nat),inv g=some j->∃ fn,prog.funcs[g]?=some fn/\fn.body.isNone=false/\(fn.name == "runtime.NumGoroutine")=false:=by
 intro g j h
 have h1:=List.all_eq_true.1 cal g (List.mem_range.2 (invlt h))
 unfold okC at h1
 rw[h]at h1
 simp only at h1
 split at h1
 ·rename_i fn e
  simp only[Bool.and_eq_true,Bool.not_eq_true']at h1
  exact ⟨fn,e,h1.1,h1.2⟩
 ·cases h1
theorem all:HasAll prog inv:=⟨⟨by kernel_rfl,calls⟩,fun j F hc g hg=>has g j F hg hc⟩
end
end Go.Eng.Tryz
