/-
  Contracts of functions. Conditions: those that each theorem names.
-/
import Derived.Test.YtjfongdncghjmaaGreatL9
set_option linter.unusedSimpArgs false
set_option linter.unusedVariables false
set_option linter.unusedSectionVars false
namespace Go.Lev
open Go.Eng
set_option maxRecDepth 10000
set_option maxHeartbeats 4000000
variable {P:Program} {inv:Nat->Option Nat} {w0:World} {M:Nat->Prop}
theorem zqv (hH:HasAll P inv) (p:Pln) (hp:Sm p) (h:zbR p.sections=true) (hg:SgsP p) (r:Rte) (hr:r.path.length<=9223372036854775807/\r.over.length<=9223372036854775807/\r.flanks.length<=9223372036854775807):PC P inv 307 [.agg p.c,.agg r.c] (·=.b (zc0 p r (ends p.sections))):=by
 have hl1:=hp.sec;have hl2:=hp.sgn;have hl3:=hp.pts;have c1:=zf3 hH p.signals (by omega) r.entry
 have c2:=zf3 hH p.signals (by omega) r.exit
 have cA:=fun n=>zfS hH p.sections n (by omega)
 have cK:=fun n=>zly hH p.points (by omega) n
 obtain ⟨X,hF⟩:∃ X,rrF p r (za1 (fun x=>decide (Sgn.id x=r.entry)) 0 p.signals) (za1 (fun x=>decide (Sgn.id x=r.exit)) 0 p.signals) (r.path++r.over)=X:=⟨_,rfl⟩
 rw[<-rrF_eq h hg r,hF];have hb:za1 (fun x=>decide (Sgn.id x=r.entry)) 0 p.signals=-1\/(0<=za1 (fun x=>decide (Sgn.id x=r.entry)) 0 p.signals/\za1 (fun x=>decide (Sgn.id x=r.entry)) 0 p.signals<p.signals.length):=by
  rcases zcb Sgn.id r.entry p.signals with ⟨e,_⟩|⟨k,hk,e,_⟩
  ·exact .inl e
  ·exact .inr ⟨by omega,by omega⟩
 generalize za1 (fun x=>decide (Sgn.id x=r.entry)) 0 p.signals=k0 at *
 generalize za1 (fun x=>decide (Sgn.id x=r.exit)) 0 p.signals=kx at *
 clear h hg;by_cases hT2:rrT2 r=true
 ·unfold rrF at hF
  rw[hT2,cond_true]at hF;have hXX:X=false:=by rw[<-hF];cases rrT1 p r k0 kx<;>rfl
  subst hXX;clear hF;unfold rrT2 at hT2;simp only[Bool.or_eq_true,decide_eq_true_eq]at hT2;refine wf hH cd307 fun w0 M Q hM hE hQ hR=>?_;refine wq ?_
  (repeat' first|refine zaa kT fun K hK=>?_|exact wt|refine wA ?_|(refine wB ?_ ?_<;>intro h<;>first|exact wN h|subst (h:(_:Bool)=_)|skip)|(refine wQ ?_;clear hQ hR hE hM)|refine wC c1 ?_|refine wC c2 ?_|fail)
  all_goals first|rfl|(exfalso;contradiction)|(exfalso;omega)
 have hT2':=hT2;unfold rrT2 at hT2';simp only[Bool.or_eq_true,decide_eq_true_eq,not_or]at hT2';have c3:=zkb hH r (by omega) (by omega)
 have hall:(r.path++r.over).length<=2000:=by rw[List.length_append];omega
 generalize r.path++r.over=all at *;clear hT2 hT2';unfold rrF rrT1 rrT2 rrS rrK at hF;refine wf hH cd307 fun w0 M Q hM hE hQ hR=>?_;refine wq ?_
 skip
 (repeat' first|refine zaa kT fun K hK=>?_|exact wt|refine wA ?_|(refine wE ?_ ?_<;>intro h0 h<;>first|exact wN h|((try replace hF:=wX hF);clear h0;first|exact hF.elim|((try subst (h:(_:Bool)=_));try replace hF:=wX hF)))|(refine wQ ?_;clear hQ hR hE hM)|refine wC c1 ?_|refine wC c2 ?_|refine wC c3 ?_|fail)
 all_goals first|exact hF|(exfalso;contradiction)|skip
 all_goals
  refine zaI hF fun Bd Ed hBd hEd hF=>?_;refine zaj (ι:=Nat) [2,3,4,5,6,7] (fun z=>[(7,.n z)]) (fun _=>[]) (fun z=>z) (all.length) (fun z=>(zaZ Bd Ed (all.length-z) z ()=X)) (0) ?_;rintro i ⟨hk,hF⟩;(try dsimp only at hk hF |-);rcases Nat.lt_or_ge i all.length with hlt|hge
  ·rw[zas hBd hlt]at hF;(try dsimp only at hF)
   have c4:=cA (nth all i);generalize zdd (nth all i) 0 p.sections=a at *
   (repeat' first|refine zaa kT fun K hK=>?_|exact wt|refine wA ?_|(refine wE ?_ ?_<;>intro h0 h<;>first|exact wN h|((try replace hF:=wX hF);clear h0;first|exact hF.elim|((try subst (h:(_:Bool)=_));try replace hF:=wX hF)))|(refine wQ ?_;clear hQ hR hE hM)|refine wC c4 ?_|fail)
   all_goals first|exact hF|(exfalso;contradiction)|skip
   refine zaI hF fun Bd Ed hBd hEd hF=>?_;refine zaj (ι:=Nat) [2,3,4,5,6,7,8] (fun z=>[(8,.n z)]) (fun _=>[]) (fun z=>z) (i) (fun z=>(zaZ Bd Ed (i-z) z ()=X)) (0) ?_;rintro m ⟨hk,hF⟩;(try dsimp only at hk hF |-);rcases Nat.lt_or_ge m i with hlt|hge
   ·rw[zas hBd hlt]at hF;(try dsimp only at hF)
    (repeat' first|refine zaa kT fun K hK=>?_|exact wt|refine wA ?_|(refine wE ?_ ?_<;>intro h0 h<;>first|exact wN h|((try replace hF:=wX hF);clear h0;first|exact hF.elim|((try subst (h:(_:Bool)=_));try replace hF:=wX hF)))|(refine wQ ?_;clear hQ hR hE hM)|fail)
    all_goals first|exact hF|(exfalso;contradiction)|exact nX (m+1)
   ·rw[zaH hge,hEd]at hF;(try dsimp only at hF)
    (repeat' first|refine zaa kT fun K hK=>?_|exact wt|refine wA ?_|(refine wE ?_ ?_<;>intro h0 h<;>first|exact wN h|((try replace hF:=wX hF);clear h0;first|exact hF.elim|((try subst (h:(_:Bool)=_));try replace hF:=wX hF)))|(refine wQ ?_;clear hQ hR hE hM)|fail)
    all_goals exact nX (i+1)
  ·rw[zaH hge,hEd]at hF;(try dsimp only at hF)
   (repeat' first|refine zaa kT fun K hK=>?_|exact wt|refine wA ?_|(refine wE ?_ ?_<;>intro h0 h<;>first|exact wN h|((try replace hF:=wX hF);clear h0;first|exact hF.elim|((try subst (h:(_:Bool)=_));try replace hF:=wX hF)))|(refine wQ ?_;clear hQ hR hE hM)|fail)
   refine zaI hF fun Bd Ed hBd hEd hF=>?_;refine zaj (ι:=Nat) [2,3,4,9] (fun z=>[(9,.n z)]) (fun _=>[]) (fun z=>z) (r.flanks.length) (fun z=>(zaZ Bd Ed (r.flanks.length-z) z ()=X)) (0) ?_;rintro i ⟨hk,hF⟩;(try dsimp only at hk hF |-);rcases Nat.lt_or_ge i r.flanks.length with hlt|hge
   ·rw[zas hBd hlt]at hF;(try dsimp only at hF)
    have c5:=cK (nth r.flanks i).pnt;generalize za1 (fun x=>decide (Pnt.id x=(nth r.flanks i).pnt)) 0 p.points=a at *
    have hi1:((i:Int)-1).toNat=i-1:=by omega
    (have hX:=@hi1;(repeat' first|refine zaa kT fun K hK=>?_|exact wt|refine wA ?_|(refine wE ?_ ?_<;>intro h0 h<;>first|exact wN h|((try replace hF:=wX hF);clear h0;first|exact hF.elim|((try subst (h:(_:Bool)=_));try replace hF:=wX hF)))|(refine wQ ?_;clear hQ hR hE hM)|refine wC c5 ?_|fail);all_goals clear hX)
    all_goals first|exact hF|(exfalso;contradiction)|exact nX (i+1)
   ·rw[zaH hge,hEd]at hF;(try dsimp only at hF)
    (repeat' first|refine zaa kT fun K hK=>?_|exact wt|refine wA ?_|(refine wE ?_ ?_<;>intro h0 h<;>first|exact wN h|((try replace hF:=wX hF);clear h0;first|exact hF.elim|((try subst (h:(_:Bool)=_));try replace hF:=wX hF)))|(refine wQ ?_;clear hQ hR hE hM)|fail)
    all_goals first|exact hF|exact congrArg AV.b hF|(rw[<-hF];done)
end Go.Lev
