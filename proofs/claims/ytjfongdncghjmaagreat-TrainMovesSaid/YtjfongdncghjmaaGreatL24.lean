/-
  Contracts of functions. Conditions: those that each theorem names.
-/
import Derived.Test.YtjfongdncghjmaaGreatL19
set_option linter.unusedSimpArgs false
set_option linter.unusedVariables false
set_option linter.unusedSectionVars false
namespace Go.Lev
open Go.Eng
set_option maxRecDepth 10000
set_option maxHeartbeats 8000000
variable {P:Program} {inv:Nat->Option Nat} {w0:World} {M:Nat->Prop}
theorem zpZ (hH:HasAll P inv) (hI:HasIds P inv) (p:Pln) (hp:Sm p) (s:State) (hs:SmS s) (l:List TrainD) (hl:l.length<=1000) (hls:∀ t∈l,t.secs.length<=1000) (hc:ckC p s l=0) (tr se ed:Int) (h5:zcB l tr<0\/(nth l (zcB l tr).toNat).secs.length=1) :
  PC P inv 210 [.agg p.c,.agg s.c,.agg (wld l),.agg [.i .u8 3,.n tr,.n se,.n ed]] (·=if zcB l tr<0 then zbJ 6 [] [] else zbJ 2 [] []):=by
 have c0:=zbj hH hI p hp s hs l hl hls;have c1:=zdf hH l (by omega) hls
 have c2:=zb0 hH l hl tr;rw[hc]at c0;unfold wld at *;rcases zb4 l tr with ⟨e,_⟩|⟨k,hk7,e,hid⟩<;>rw[e]at c2 h5 |-
 ·rw[if_pos (by omega)]
  unfold zbJ wld;refine wf hH cd210 fun w0 M Q hM hE hQ hR=>?_;refine wq ?_
  skip
  (repeat' first|refine zaa xD fun K hK=>?_|exact wt|refine wA ?_|(refine wB ?_ ?_<;>intro h<;>first|exact wN h|subst (h:(_:Bool)=_)|skip)|(refine wQ ?_;clear hQ hR)|refine wC c0 ?_|refine wO c1 ?_|(refine wI hH cd226 100 fun Q hQ hR=>?_;refine wq ?_;try refine wD ?_)|(refine wI hH cd232 200 fun Q hQ hR=>?_;refine wq ?_;try refine wD ?_)|(refine wI hH cd252 300 fun Q hQ hR=>?_;refine wq ?_;try refine wD ?_)|refine wS c2 ?_|fail)
  all_goals first|rfl|(exfalso;contradiction)
 ·rw[if_neg (by omega)]
  rw[Int.toNat_natCast]at h5;have h1:=h5.resolve_left (by omega)
  have y1:=tg1 hk7;unfold zbJ wld;refine wf hH cd210 fun w0 M Q hM hE hQ hR=>?_;refine wq ?_
  skip
  (have hX:=zA @y1 @h1;(repeat' first|refine zaa xD fun K hK=>?_|exact wt|refine wA ?_|(refine wB ?_ ?_<;>intro h<;>first|exact wN h|subst (h:(_:Bool)=_)|skip)|(refine wQ ?_;clear hQ hR)|refine wC c0 ?_|refine wO c1 ?_|(refine wI hH cd226 100 fun Q hQ hR=>?_;refine wq ?_;try refine wD ?_)|(refine wI hH cd232 200 fun Q hQ hR=>?_;refine wq ?_;try refine wD ?_)|(refine wI hH cd252 300 fun Q hQ hR=>?_;refine wq ?_;try refine wD ?_)|refine wS c2 ?_|fail);all_goals clear hX)
  all_goals first|rfl|(exfalso;contradiction)|(exfalso;omega)
end Go.Lev
