/-
  Contracts of functions. Conditions: those that each theorem names.
-/
import Derived.Test.YtjfongdncghjmaaGreatL14
set_option linter.unusedSimpArgs false
set_option linter.unusedVariables false
set_option linter.unusedSectionVars false
namespace Go.Lev
open Go.Eng
set_option maxRecDepth 10000
set_option maxHeartbeats 8000000
variable {P:Program} {inv:Nat->Option Nat} {w0:World} {M:Nat->Prop}
theorem zpi (hH:HasAll P inv) (p:Pln) (hp:Sm p) (s:State) (hs:SmS s) (hst:zav p s=0) (t:TrainD):PC P inv 403 [.agg p.c,.agg s.c,.agg t.c] (·=.b (decide (1<=t.id)&&(decide (t.id<=99)&&trF p s t))):=by
 have ho:=zar hst;have hpa:=(zam hst).2.1;have hpl9:=zku hst;have hen:∀ x∈p.sections,x.ends.length<=3:=fun x hx=>(zaP ho.sec x hx).2.2.2.2
 have cat:=fun n=>zfS hH p.sections n (Nat.le_trans hp.sec (by omega))
 by_cases hid:1<=t.id/\t.id<=99
 ·rw[decide_eq_true hid.1,decide_eq_true hid.2,Bool.true_and,Bool.true_and]
  have c4:=zoE hH p (Nat.le_trans hp.sgn (by omega)) (nth t.secs 0) t.ed
  have c5:=zeG hH p.routes (Nat.le_trans hp.rte (by omega)) t.rt
  have c6:=zeG hH p.routes (Nat.le_trans hp.rte (by omega)) t.nx
  obtain ⟨X,hF⟩:∃ X,trF p s t=X:=⟨_,rfl⟩;rw[hF];unfold trF at hF;refine wf hH cd403 fun w0 M Q hM hE hQ hR=>?_;refine wq ?_
  skip
  (repeat' first|refine zaa kG fun K hK=>?_|exact wt|refine wA ?_|(refine wE ?_ ?_<;>intro h0 h<;>first|exact wN h|((try replace hF:=wX hF);clear h0;first|exact hF.elim|((try subst (h:(_:Bool)=_));try replace hF:=wX hF)))|(refine wQ ?_;clear hQ hR hE hM)|fail)
  all_goals first|(exfalso;contradiction)|(exfalso;omega)|exact hF|exact congrArg AV.b hF|skip
  refine zaI hF fun Bd Ed hBd hEd hF=>?_;refine zaj (ι:=Nat) [3,4,5,6,7] (fun z=>[(7,.n z)]) (fun _=>[]) (fun z=>z) (t.secs.length) (fun z=>(zaZ Bd Ed (t.secs.length-z) z ()=X)/\(∀ j,j<z->(zaz p.sections (nth t.secs j)).2=0)) (0) ?_;rintro i ⟨hk,hF,hpv⟩;(try dsimp only at hk hF hpv |-);rcases Nat.lt_or_ge i t.secs.length with hlt|hge
  ·rw[zas hBd hlt]at hF;(try dsimp only at hF)
   have hi9:i<t.secs.length:=by assumption
   have x0:=zcq hi9;have x1:=zcq (show i-1<t.secs.length by omega)
   have x2:((i:Int)-1).toNat=i-1:=by omega
   have d1:=cat (nth t.secs i);by_cases hf:(zaz p.sections (nth t.secs i)).2=0
   ·obtain ⟨q,hq,e1,-,e3⟩:=zh0 ho.sec hf
    obtain ⟨hq2,e4⟩:=zrk ho hpa hq e3;rw[decide_eq_true hf,e4]at hF;rw[e1]at d1;by_cases h0:0<i
    ·obtain ⟨r,hr,f1,f2,f3⟩:=zh0 ho.sec (hpv (i-1) (by omega))
     have d2:=zpm hH p hp (nth t.secs (i-1)) (nth t.secs i) hr f1 (hen _ (zac hr));have hlb:zdk p (nth t.secs (i-1)) (nth t.secs i)=(nth p.sections r).ends.any fun j=>decide (j.to=nth t.secs i):=by
      unfold zdk;rw[decide_eq_true (hpv (i-1) (by omega)),Bool.true_and,f2]
     rw[hlb]at hF;generalize ((nth p.sections r).ends.any fun j=>decide (j.to=nth t.secs i))=J at *
     (have hX:=zA @x0 (zA @x1 @x2);(repeat' first|refine zaa kG fun K hK=>?_|exact wt|refine wA ?_|(refine wE ?_ ?_<;>intro h0 h<;>first|exact wN h|((try replace hF:=wX hF);clear h0;first|exact hF.elim|((try subst (h:(_:Bool)=_));try replace hF:=wX hF)))|(refine wQ ?_;clear hQ hR hE hM)|refine wC d1 ?_|refine wC d2 ?_|fail);all_goals clear hX)
     all_goals first|(exfalso;contradiction)|(exfalso;omega)|exact hF|exact congrArg AV.b hF|(refine ⟨i+1,by omega,⟨by omega,hF,fun j hj=>(Nat.lt_or_ge j i).elim (hpv j) fun h=>by obtain rfl:j=i:=(by omega);exact hf⟩,by omega⟩)
    ·have hz:i=0:=by omega
     subst hz;(have hX:=zA @x0 (zA @x1 @x2);(repeat' first|refine zaa kG fun K hK=>?_|exact wt|refine wA ?_|(refine wE ?_ ?_<;>intro h0 h<;>first|exact wN h|((try replace hF:=wX hF);clear h0;first|exact hF.elim|((try subst (h:(_:Bool)=_));try replace hF:=wX hF)))|(refine wQ ?_;clear hQ hR hE hM)|refine wC d1 ?_|fail);all_goals clear hX)
     all_goals first|(exfalso;contradiction)|(exfalso;omega)|exact hF|exact congrArg AV.b hF|(refine ⟨0+1,by omega,⟨by omega,hF,fun j hj=>by obtain rfl:j=0:=(by omega);exact hf⟩,by omega⟩)
   ·have e1:=(sec_no ho.sec hf).1
    rw[decide_eq_false hf]at hF;(have hX:=@x0;(repeat' first|refine zaa kG fun K hK=>?_|exact wt|refine wA ?_|(refine wE ?_ ?_<;>intro h0 h<;>first|exact wN h|((try replace hF:=wX hF);clear h0;first|exact hF.elim|((try subst (h:(_:Bool)=_));try replace hF:=wX hF)))|(refine wQ ?_;clear hQ hR hE hM)|refine wC d1 ?_|fail);all_goals clear hX)
    all_goals first|(exfalso;contradiction)|(exfalso;omega)|exact hF|exact congrArg AV.b hF
  ·rw[zaH hge,hEd]at hF;(try dsimp only at hF)
   have hl0:0<t.secs.length:=by omega
   have x0:=zcq hl0;have d1:=cat (nth t.secs 0);have hf:=hpv 0 (by omega)
   obtain ⟨q,hq,e1,e2,e3⟩:=zh0 ho.sec hf;rw[e1]at d1;have hS:=((zeJ _).1 ho.sec).one _ (zac hq);have c3:=zh9 hH (nth p.sections q) t.fr t.ed;have hli:=lie_iff hS.2.2 t.fr t.ed;rw[e2]at hF;by_cases hth:(zb5 (nth p.sections q) t.fr t.ed).2=0
   ·have hlo:¬zeK (nth p.sections q) t.fr t.ed<0:=fun h=>hli.1 h hth
    have hsg:=sg_eq ho hpl9 (zkC hf (by rw[e2];exact zdw hth))
    rw[hsg]at c4;rw[decide_eq_true hth]at hF;clear hli hsg;unfold Section.c at c3;rw[e3]at c3;unfold trG trE at hF;generalize zeK (nth p.sections q) t.fr t.ed=li at *;generalize zhQ p (nth t.secs 0) t.ed=sg at *;by_cases hrt:t.rt=0
    ·have hw:¬(ofW p t.rt).2=0:=by rw[hrt];exact ofW0 hpl9
     simp only[decide_eq_false hw,decide_eq_true hrt,cond_false,Bool.not_true]at hF;rcases zjr hpl9 t.nx with ⟨g1,g2,-⟩|⟨m,hm,g1,-,g2,-⟩<;>rw[g1]at c6
     ·simp only[decide_eq_false g2,cond_false]at hF
      (have hX:=zA @x0 @e3;(repeat' first|refine zaa kG fun K hK=>?_|exact wt|refine wA ?_|(refine wE ?_ ?_<;>intro h0 h<;>first|exact wN h|((try replace hF:=wX hF);clear h0;first|exact hF.elim|((try subst (h:(_:Bool)=_));try replace hF:=wX hF)))|(refine wQ ?_;clear hQ hR hE hM)|refine wU d1 ?_|refine wC c3 ?_|refine wC c4 ?_|refine wC c5 ?_|refine wC c6 ?_|fail);all_goals clear hX)
      all_goals first|(exfalso;contradiction)|(exfalso;omega)|exact hF|exact congrArg AV.b hF
     ·rw[g2]at hF
      simp only[decide_true,cond_true]at hF;(have hX:=zA @x0 @e3;(repeat' first|refine zaa kG fun K hK=>?_|exact wt|refine wA ?_|(refine wE ?_ ?_<;>intro h0 h<;>first|exact wN h|((try replace hF:=wX hF);clear h0;first|exact hF.elim|((try subst (h:(_:Bool)=_));try replace hF:=wX hF)))|(refine wQ ?_;clear hQ hR hE hM)|refine wU d1 ?_|refine wC c3 ?_|refine wC c4 ?_|refine wC c5 ?_|refine wC c6 ?_|fail);all_goals clear hX)
      all_goals first|(exfalso;contradiction)|(exfalso;omega)|exact hF|exact congrArg AV.b hF
    ·rcases zjr hpl9 t.rt with ⟨k1,-,k2⟩|⟨i2,hi2,k1,k3,-,-⟩<;>rw[k1]at c5
     ·simp only[decide_eq_false k2,decide_eq_false hrt,cond_false,cond_true,Bool.not_false]at hF
      (have hX:=zA @x0 @e3;(repeat' first|refine zaa kG fun K hK=>?_|exact wt|refine wA ?_|(refine wE ?_ ?_<;>intro h0 h<;>first|exact wN h|((try replace hF:=wX hF);clear h0;first|exact hF.elim|((try subst (h:(_:Bool)=_));try replace hF:=wX hF)))|(refine wQ ?_;clear hQ hR hE hM)|refine wU d1 ?_|refine wC c3 ?_|refine wC c4 ?_|refine wC c5 ?_|refine wC c6 ?_|fail);all_goals clear hX)
      all_goals first|(exfalso;contradiction)|(exfalso;omega)|exact hF|exact congrArg AV.b hF
     ·obtain ⟨k4,k5⟩:=zpT hst hi2 k3
      rw[k4]at hF;simp only[k5,decide_true,decide_eq_false hrt,cond_false,cond_true,Bool.not_false]at hF;by_cases hpl:0<=t.pl/\t.pl<((nth p.routes i2).path.length:Int)
      ·have x1:=zcq (show t.pl.toNat<(nth p.routes i2).path.length by omega)
       simp only[decide_eq_true hpl.1,decide_eq_true hpl.2,cond_true]at hF;rcases zjr hpl9 t.nx with ⟨g1,g2,-⟩|⟨m,hm,g1,-,g2,-⟩<;>rw[g1]at c6
       ·simp only[decide_eq_false g2,cond_false]at hF
        (have hX:=zA @x0 (zA @e3 @x1);(repeat' first|refine zaa kG fun K hK=>?_|exact wt|refine wA ?_|(refine wE ?_ ?_<;>intro h0 h<;>first|exact wN h|((try replace hF:=wX hF);clear h0;first|exact hF.elim|((try subst (h:(_:Bool)=_));try replace hF:=wX hF)))|(refine wQ ?_;clear hQ hR hE hM)|refine wU d1 ?_|refine wC c3 ?_|refine wC c4 ?_|refine wC c5 ?_|refine wC c6 ?_|fail);all_goals clear hX)
        all_goals first|(exfalso;contradiction)|(exfalso;omega)|exact hF|exact congrArg AV.b hF
       ·rw[g2]at hF
        simp only[decide_true,cond_true]at hF;(have hX:=zA @x0 (zA @e3 @x1);(repeat' first|refine zaa kG fun K hK=>?_|exact wt|refine wA ?_|(refine wE ?_ ?_<;>intro h0 h<;>first|exact wN h|((try replace hF:=wX hF);clear h0;first|exact hF.elim|((try subst (h:(_:Bool)=_));try replace hF:=wX hF)))|(refine wQ ?_;clear hQ hR hE hM)|refine wU d1 ?_|refine wC c3 ?_|refine wC c4 ?_|refine wC c5 ?_|refine wC c6 ?_|fail);all_goals clear hX)
        all_goals first|(exfalso;contradiction)|(exfalso;omega)|exact hF|exact congrArg AV.b hF
      ·have hno:X=false:=by
        rw[<-hF];by_cases h1:0<=t.pl
        ·rw[decide_eq_true h1,decide_eq_false (p:=t.pl<((nth p.routes i2).path.length:Int)) (by omega)];rfl
        ·rw[decide_eq_false h1];rfl
       clear hF;have hF:=hno.symm;(have hX:=zA @x0 @e3;(repeat' first|refine zaa kG fun K hK=>?_|exact wt|refine wA ?_|(refine wE ?_ ?_<;>intro h0 h<;>first|exact wN h|((try replace hF:=wX hF);clear h0;first|exact hF.elim|((try subst (h:(_:Bool)=_));try replace hF:=wX hF)))|(refine wQ ?_;clear hQ hR hE hM)|refine wU d1 ?_|refine wC c3 ?_|refine wC c4 ?_|refine wC c5 ?_|refine wC c6 ?_|fail);all_goals clear hX)
       all_goals first|(exfalso;contradiction)|(exfalso;omega)|exact hF|exact congrArg AV.b hF
   ·have hlo:zeK (nth p.sections q) t.fr t.ed<0:=hli.2 hth
    rw[decide_eq_false hth]at hF;clear hli;generalize zeK (nth p.sections q) t.fr t.ed=li at *;(have hX:=@x0;(repeat' first|refine zaa kG fun K hK=>?_|exact wt|refine wA ?_|(refine wE ?_ ?_<;>intro h0 h<;>first|exact wN h|((try replace hF:=wX hF);clear h0;first|exact hF.elim|((try subst (h:(_:Bool)=_));try replace hF:=wX hF)))|(refine wQ ?_;clear hQ hR hE hM)|refine wU d1 ?_|refine wC c3 ?_|fail);all_goals clear hX)
    all_goals first|(exfalso;contradiction)|(exfalso;omega)|exact hF|exact congrArg AV.b hF
 ·refine wf hH cd403 fun w0 M Q hM hE hQ hR=>?_;refine wq ?_
  (repeat' first|refine zaa kG fun K hK=>?_|exact wt|refine wA ?_|(refine wB ?_ ?_<;>intro h<;>first|exact wN h|subst (h:(_:Bool)=_)|skip)|(refine wQ ?_;clear hQ hR hE hM)|fail)
  all_goals first|(exfalso;contradiction)|(exfalso;omega)|(rw[decide_eq_false (p:=1<=t.id) (by omega)];rfl)|(rw[decide_eq_false (p:=t.id<=99) (by omega),Bool.false_and,Bool.and_false])
end Go.Lev
