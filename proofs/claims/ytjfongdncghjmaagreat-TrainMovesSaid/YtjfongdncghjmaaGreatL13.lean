/-
  Contracts of functions. Conditions: those that each theorem names.
-/
import Derived.Test.YtjfongdncghjmaaGreatL9
set_option linter.unusedSimpArgs false
set_option linter.unusedVariables false
set_option linter.unusedSectionVars false
namespace Go.Lev
open Go.Eng
set_option maxRecDepth 10000
set_option maxHeartbeats 4000000
variable {P:Program} {inv:Nat->Option Nat} {w0:World} {M:Nat->Prop}
theorem zo6 (hH:HasAll P inv) (p:Pln) (hp:Sm p) (h:zbR p.sections=true):PC P inv 305 [.agg p.c] (·=.b (points p)):=by
 have hl1:=hp.sec;have hl2:=hp.pts;obtain ⟨X,hF⟩:∃ X,rpF p=X:=⟨_,rfl⟩;rw[<-rpF_eq h,hF];have cA:=fun i=>zfS hH p.sections (nth p.points i).sec (by omega)
 have hb:=fun i=>zg6 (nth p.points i).sec p.sections 0
 clear h;unfold rpF at hF;refine wf hH cd305 fun w0 M Q hM hE hQ hR=>?_;refine wq ?_
 skip
 (repeat' first|refine zaa kz fun K hK=>?_|exact wt|refine wA ?_|(refine wE ?_ ?_<;>intro h0 h<;>first|exact wN h|((try replace hF:=wX hF);clear h0;first|exact hF.elim|((try subst (h:(_:Bool)=_));try replace hF:=wX hF)))|(refine wQ ?_;clear hQ hR hE hM)|fail)
 refine zaI hF fun Bd Ed hBd hEd hF=>?_
 refine zaj (ι:=Nat×Int) [1,2,3,4] (fun z=>[(3,.n z.2),(4,.n z.1)]) (fun _=>[]) (fun z=>z.1) (p.sections.length) (fun z=>(zaZ Bd Ed (p.sections.length-z.1) z.1 z.2=X)/\(0<=z.2/\z.2<=z.1)) (0,0) ?_;rintro ⟨i,m⟩ ⟨hk,hF,hm⟩;(try dsimp only at hk hF hm |-);rcases Nat.lt_or_ge i p.sections.length with hlt|hge
 ·rw[zas hBd hlt]at hF;(try dsimp only at hF)
  (repeat' first|refine zaa kz fun K hK=>?_|exact wt|refine wA ?_|(refine wE ?_ ?_<;>intro h0 h<;>first|exact wN h|((try replace hF:=wX hF);clear h0;first|exact hF.elim|((try subst (h:(_:Bool)=_));try replace hF:=wX hF)))|(refine wQ ?_;clear hQ hR hE hM)|fail)
  all_goals first|(exact nY (i+1,m+1) ⟨by (try dsimp only);omega,hF,by (try dsimp only);omega⟩;done)|(exact nY (i+1,m) ⟨by (try dsimp only);omega,hF,by (try dsimp only);omega⟩;done)
 ·rw[zaH hge,hEd]at hF;(try dsimp only at hF)
  (repeat' first|refine zaa kz fun K hK=>?_|exact wt|refine wA ?_|(refine wE ?_ ?_<;>intro h0 h<;>first|exact wN h|((try replace hF:=wX hF);clear h0;first|exact hF.elim|((try subst (h:(_:Bool)=_));try replace hF:=wX hF)))|(refine wQ ?_;clear hQ hR hE hM)|fail)
  refine zaI hF fun Bd Ed hBd hEd hF=>?_;refine zaj (ι:=Nat) [1,2,3,5] (fun z=>[(5,.n z)]) (fun _=>[]) (fun z=>z) (p.points.length) (fun z=>(zaZ Bd Ed (p.points.length-z) z ()=X)) (0) ?_;rintro k ⟨hk,hF⟩;(try dsimp only at hk hF |-);rcases Nat.lt_or_ge k p.points.length with hlt|hge
  ·rw[zas hBd hlt]at hF;(try dsimp only at hF)
   have c1:=cA k;have hb1:=hb k;generalize zdd (nth p.points k).sec 0 p.sections=a at *;have hk1:((k:Int)-1).toNat=k-1:=by omega
   (have hX:=@hk1;(repeat' first|refine zaa kz fun K hK=>?_|exact wt|refine wA ?_|(refine wE ?_ ?_<;>intro h0 h<;>first|exact wN h|((try replace hF:=wX hF);clear h0;first|exact hF.elim|((try subst (h:(_:Bool)=_));try replace hF:=wX hF)))|(refine wQ ?_;clear hQ hR hE hM)|refine wC c1 ?_|fail);all_goals clear hX)
   all_goals first|exact hF|(exfalso;contradiction)|exact nX (k+1)
  ·rw[zaH hge,hEd]at hF;(try dsimp only at hF)
   (repeat' first|refine zaa kz fun K hK=>?_|exact wt|refine wA ?_|(refine wE ?_ ?_<;>intro h0 h<;>first|exact wN h|((try replace hF:=wX hF);clear h0;first|exact hF.elim|((try subst (h:(_:Bool)=_));try replace hF:=wX hF)))|(refine wQ ?_;clear hQ hR hE hM)|fail)
   all_goals first|exact hF|(exact congrArg AV.b hF)|(rw[<-hF];done)
theorem zmz (hH:HasAll P inv) (p:Pln) (hp:Sm p) (h:zbR p.sections=true):PC P inv 306 [.agg p.c] (·=.b (signals p (ends p.sections))):=by
 have hl1:=hp.sec;have hl2:=hp.sgn;have hE3:∀ a:Nat,(nth p.sections a).ends.length<=1000000:=fun a=>by
  rcases Nat.lt_or_ge a p.sections.length with h1|h1
  ·have:=(zaP h _ (zac h1)).2.2.2.2
   omega
  ·have:nth p.sections a=default:=by unfold nth;first|rw[getElem!_neg _ _ (by omega)]|simp[h1]|simp[List.getElem?_eq_none h1]
   rw[this]
   decide
 obtain ⟨X,hF⟩:∃ X,rsF p=X:=⟨_,rfl⟩;rw[<-rsF_eq h,hF];have cA:=fun i=>zfS hH p.sections (nth p.signals i).sec (by omega)
 have hb:=fun i=>zg6 (nth p.signals i).sec p.sections 0
 clear h;unfold rsF zoZ at hF;refine wf hH cd306 fun w0 M Q hM hE hQ hR=>?_;refine wq ?_
 skip
 (repeat' first|refine zaa yA fun K hK=>?_|exact wt|refine wA ?_|(refine wE ?_ ?_<;>intro h0 h<;>first|exact wN h|((try replace hF:=wX hF);clear h0;first|exact hF.elim|((try subst (h:(_:Bool)=_));try replace hF:=wX hF)))|(refine wQ ?_;clear hQ hR hE hM)|fail)
 refine zaI hF fun Bd Ed hBd hEd hF=>?_;refine zaj (ι:=Nat) [1,2,3] (fun z=>[(3,.n z)]) (fun _=>[]) (fun z=>z) (p.signals.length) (fun z=>(zaZ Bd Ed (p.signals.length-z) z ()=X)) (0) ?_;rintro i ⟨hk,hF⟩;(try dsimp only at hk hF |-);rcases Nat.lt_or_ge i p.signals.length with hlt|hge
 ·rw[zas hBd hlt]at hF;(try dsimp only at hF)
  have c1:=cA i;have hb1:=hb i;generalize zdd (nth p.signals i).sec 0 p.sections=a at *;have h3:=hE3 a.toNat
  (repeat' first|refine zaa yA fun K hK=>?_|exact wt|refine wA ?_|(refine wE ?_ ?_<;>intro h0 h<;>first|exact wN h|((try replace hF:=wX hF);clear h0;first|exact hF.elim|((try subst (h:(_:Bool)=_));try replace hF:=wX hF)))|(refine wQ ?_;clear hQ hR hE hM)|refine wC c1 ?_|fail)
  all_goals first|exact hF|(exfalso;contradiction)|skip
  refine zaI hF fun Bd Ed hBd hEd hF=>?_;refine zaj (ι:=Nat) [1,2,3,4,6] (fun z=>[(6,.n z)]) (fun _=>[]) (fun z=>z) (i) (fun z=>(zaZ Bd Ed (i-z) z ()=X)) (0) ?_;rintro m ⟨hk,hF⟩;(try dsimp only at hk hF |-);rcases Nat.lt_or_ge m i with hlt|hge
  ·rw[zas hBd hlt]at hF;(try dsimp only at hF)
   (repeat' first|refine zaa yA fun K hK=>?_|exact wt|refine wA ?_|(refine wE ?_ ?_<;>intro h0 h<;>first|exact wN h|((try replace hF:=wX hF);clear h0;first|exact hF.elim|((try subst (h:(_:Bool)=_));try replace hF:=wX hF)))|(refine wQ ?_;clear hQ hR hE hM)|fail)
   all_goals first|exact hF|(exfalso;contradiction)|exact nX (m+1)
  ·rw[zaH hge,hEd]at hF;(try dsimp only at hF)
   (repeat' first|refine zaa yA fun K hK=>?_|exact wt|refine wA ?_|(refine wE ?_ ?_<;>intro h0 h<;>first|exact wN h|((try replace hF:=wX hF);clear h0;first|exact hF.elim|((try subst (h:(_:Bool)=_));try replace hF:=wX hF)))|(refine wQ ?_;clear hQ hR hE hM)|fail)
   all_goals exact nX (i+1)
 ·rw[zaH hge,hEd]at hF;(try dsimp only at hF)
  (repeat' first|refine zaa yA fun K hK=>?_|exact wt|refine wA ?_|(refine wE ?_ ?_<;>intro h0 h<;>first|exact wN h|((try replace hF:=wX hF);clear h0;first|exact hF.elim|((try subst (h:(_:Bool)=_));try replace hF:=wX hF)))|(refine wQ ?_;clear hQ hR hE hM)|fail)
  all_goals first|exact hF|(exact congrArg AV.b hF)|(rw[<-hF];done)
def planC:Pln:=⟨1,0,[⟨1,0,[⟨0,0⟩,⟨2,0⟩]⟩,⟨2,5,[⟨1,1⟩,⟨3,0⟩,⟨4,0⟩]⟩,⟨3,0,[⟨2,1⟩,⟨0,0⟩]⟩,⟨4,0,[⟨2,2⟩,⟨0,0⟩]⟩],[⟨5,2⟩],[⟨1,1,1⟩],[⟨1,1,0,[2,3],[],[],3⟩,⟨2,1,0,[2,4],[],[],4⟩]⟩
theorem okC:zbk planC=true:=by decide +kernel
end Go.Lev
