/-
  Contracts of functions. Conditions: those that each theorem names.
-/
import Derived.Test.YtjfongdncghjmaaGreatL10
import Derived.Test.YtjfongdncghjmaaGreatL11
import Derived.Test.YtjfongdncghjmaaGreatL12
import Derived.Test.YtjfongdncghjmaaGreatL13
set_option linter.unusedSimpArgs false
set_option linter.unusedVariables false
set_option linter.unusedSectionVars false
namespace Go.Lev
open Go.Eng
set_option maxRecDepth 10000
set_option maxHeartbeats 4000000
variable {P:Program} {inv:Nat->Option Nat} {w0:World} {M:Nat->Prop}
theorem rmay_pc2 (hH:HasAll P inv) (l:List Section) (hl:l.length<=1000000000) (he:∀ s∈l,s.ends.length<=9223372036854775807):PC P inv 48 [.sl 3 (l.map Section.c)] (·=.b (zbR l)):=by
 refine wf hH cd48 fun w0 M Q hM hE hQ hR=>?_;refine wq ?_
 (repeat' first|refine zaa kC fun K hK=>?_|exact wt|refine wA ?_|(refine wB ?_ ?_<;>intro h<;>first|exact wN h|subst (h:(_:Bool)=_)|skip)|(refine wQ ?_;clear hQ hR hE hM)|fail)
 ·simp[zbR,h]
 refine zcC (fun k=>[(0,.sl 3 (l.map Section.c)),(3,.n k)]) (fun k=>[]) (l.length) (fun k=>zfq (l.take k) (l.drop k)=zfq [] l) ?_;rintro k ⟨hk,hg⟩;rcases Nat.lt_or_ge k l.length with hlt|hge
 ·rw[zae hlt]at hg
  rw[zfq,zjZ hlt]at hg;have hs:=he _ (zac hlt)
  (repeat' first|refine zaa kC fun K hK=>?_|exact wt|refine wA ?_|(refine wB ?_ ?_<;>intro h<;>first|exact wN h|subst (h:(_:Bool)=_)|skip)|(refine wQ ?_;clear hQ hR hE hM)|(refine zak hM (zgO hH _) ?_;try (refine wD ?_;try exact wt))|fail)
  iterate 3 (grind[zbR,rOk])
  have h1:¬(nth l k).id<1:=by assumption
  have h2:¬99<(nth l k).id:=by assumption
  have h3:zbh (nth l k)=true:=by assumption
  refine zbu (fun j:Nat=>[(0,.sl 3 (l.map Section.c)),(3,.n k),(4,.ptr 0 3 0),(5,.n j)]) (fun _=>[(0,.cells (nth l k).c true)]) (fun j=>j<=k/\((l.take k).drop j).all (fun x=>!zfw (nth l k) x)=(l.take k).all fun x=>!zfw (nth l k) x) (fun j=>k-j) 0 ⟨Nat.zero_le _,rfl⟩ (by (try dsimp only);(refine wD ?_;try exact wt)<;>omega) (by (try dsimp only);(refine wD ?_;try exact wt)<;>omega) ?_
  rintro j ⟨hj,hi⟩;have hkl:(l.take k).length=k:=by simp;omega
  rcases Nat.lt_or_ge j k with hjk|hjk
  ·rw[zae (by omega),List.all_cons,ze1 hjk]at hi
   have hs:=he _ (zac (Nat.lt_trans hjk hlt))
   (repeat' first|refine zaa kC fun K hK=>?_|exact wt|refine wA ?_|(refine wB ?_ ?_<;>intro h<;>first|exact wN h|subst (h:(_:Bool)=_)|skip)|(refine wQ ?_;clear hQ hR hE hM)|fail)
   all_goals (first|(refine ⟨j+1,by omega,⟨by omega,by grind[zbR,rOk,zfw]⟩,(by (try dsimp only);(first|omega|(simp;done)|(simp;omega)))⟩)|(grind[zbR,rOk,zfw]))
  ·rw[List.drop_eq_nil_of_le (by omega),List.all_nil]at hi
   (repeat' first|refine zaa kC fun K hK=>?_|exact wt|refine wA ?_|(refine wB ?_ ?_<;>intro h<;>first|exact wN h|subst (h:(_:Bool)=_)|skip)|(refine wQ ?_;clear hQ hR hE hM)|fail)
   all_goals (first|(refine ⟨k+1,by omega,⟨by omega,by grind[zbR,rOk]⟩,(by (try dsimp only);(first|omega|(simp;done)|(simp;omega)))⟩)|(grind[zbR,rOk]))
 ·rw[List.drop_eq_nil_of_le hge,zfq]at hg
  (repeat' first|refine zaa kC fun K hK=>?_|exact wt|refine wA ?_|(refine wB ?_ ?_<;>intro h<;>first|exact wN h|subst (h:(_:Bool)=_)|skip)|(refine wQ ?_;clear hQ hR hE hM)|fail)
  refine zcC (fun k=>[(0,.sl 3 (l.map Section.c)),(6,.n k)]) (fun k=>[]) (l.length) (fun k=>(l.drop k).all (fun s=>zbQ (zcm l s) 0 s.ends.length)=zmP l) ?_;rintro k ⟨hk,hg⟩;rcases Nat.lt_or_ge k l.length with hlt|hge
  ·rw[zae hlt]at hg
   rw[List.all_cons]at hg;have hs:=he _ (zac hlt)
   (repeat' first|refine zaa kC fun K hK=>?_|exact wt|refine wA ?_|(refine wB ?_ ?_<;>intro h<;>first|exact wN h|subst (h:(_:Bool)=_)|skip)|(refine wQ ?_;clear hQ hR hE hM)|fail)
   refine zbu (fun j:Nat=>[(0,.sl 3 (l.map Section.c)),(6,.n k),(7,.n j)]) (fun _=>[]) (fun j=>j<=(nth l k).ends.length/\zbQ (zcm l (nth l k)) j ((nth l k).ends.length-j)=zbQ (zcm l (nth l k)) 0 (nth l k).ends.length) (fun j=>(nth l k).ends.length-j) 0 ⟨Nat.zero_le _,rfl⟩ (by (try dsimp only);(refine wD ?_;try exact wt)<;>omega) (by (try dsimp only);(refine wD ?_;try exact wt)<;>omega) ?_
   rintro j ⟨hj,hi⟩;rcases Nat.lt_or_ge j (nth l k).ends.length with hjk|hjk
   ·rw[zeY hjk]at hi
    (repeat' first|refine zaa kC fun K hK=>?_|exact wt|refine wA ?_|(refine wB ?_ ?_<;>intro h<;>first|exact wN h|subst (h:(_:Bool)=_)|skip)|(refine wQ ?_;clear hQ hR hE hM)|refine wC (zjt hH l (nth l k) j hjk hl) ?_|fail)
    all_goals (first|(refine ⟨j+1,by omega,⟨by omega,by grind[zbR]⟩,(by (try dsimp only);(first|omega|(simp;done)|(simp;omega)))⟩)|(grind[zbR]))
   ·rw[zfU hjk]at hi
    (repeat' first|refine zaa kC fun K hK=>?_|exact wt|refine wA ?_|(refine wB ?_ ?_<;>intro h<;>first|exact wN h|subst (h:(_:Bool)=_)|skip)|(refine wQ ?_;clear hQ hR hE hM)|fail)
    all_goals (first|(refine ⟨k+1,by omega,⟨by omega,by grind[zbR]⟩,(by (try dsimp only);(first|omega|(simp;done)|(simp;omega)))⟩)|(grind[zbR]))
  ·rw[List.drop_eq_nil_of_le hge,List.all_nil]at hg
   (repeat' first|refine zaa kC fun K hK=>?_|exact wt|refine wA ?_|(refine wB ?_ ?_<;>intro h<;>first|exact wN h|subst (h:(_:Bool)=_)|skip)|(refine wQ ?_;clear hQ hR hE hM)|fail)
   all_goals (first|rfl|(grind[zbR])|(simp[zbR, *];done)|(simp_all [zbR];done)|(simp_all [zbR]<;>first|omega|((repeat' split)<;>first|rfl|(exfalso;omega))))
theorem may_ref (hH:HasAll P inv) (p:Pln) (hp:Sm p):PC P inv 300 [.agg p.c] (·=.b (zbx p)):=by
 have hl1:=hp.sec;have hl2:=hp.rte;have c1:=rmay_pc2 hH p.sections (by omega) hp.ends
 obtain ⟨X,hF⟩:∃ X,rmF p (zbR p.sections) (points p) (signals p (ends p.sections)) (fun r=>zc0 p r (ends p.sections))=X:=⟨_,rfl⟩
 rw[<-rmF_eq p,hF];by_cases hm:zbR p.sections=true
 ·have c2:=zo6 hH p hp hm
  have c3:=zmz hH p hp hm;rw[hm]at c1 hF;by_cases hs:signals p (ends p.sections)=true
  ·have c4:∀ i,i<p.routes.length->PC P inv 307 [.agg p.c,.agg (nth p.routes i).c] (·=.b (zc0 p (nth p.routes i) (ends p.sections))):=fun i hi=>zqv hH p hp hm ((zdT hm).1 hs) (nth p.routes i) (hp.rtes _ (zac hi))
   rw[hs]at c3 hF;generalize points p=pts at *;clear hm hs;unfold rmF rmT rmR at hF;generalize hrt:(fun r=>zc0 p r (ends p.sections))=rt at hF
   replace c4:∀ i,i<p.routes.length->PC P inv 307 [.agg p.c,.agg (nth p.routes i).c] (·=.b (rt (nth p.routes i))):=by subst hrt;exact c4
   clear hrt;refine wf hH cd300 fun w0 M Q hM hE hQ hR=>?_;refine wq ?_
   skip
   (repeat' first|refine zaa yB fun K hK=>?_|exact wt|refine wA ?_|(refine wE ?_ ?_<;>intro h0 h<;>first|exact wN h|((try replace hF:=wX hF);clear h0;first|exact hF.elim|((try subst (h:(_:Bool)=_));try replace hF:=wX hF)))|(refine wQ ?_;clear hQ hR hE hM)|refine wC c1 ?_|refine wC c2 ?_|refine wC c3 ?_|fail)
   all_goals first|exact hF|(exfalso;contradiction)|skip
   refine zaI hF fun Bd Ed hBd hEd hF=>?_;refine zaj (ι:=Nat) [1,2,3] (fun z=>[(3,.n z)]) (fun _=>[]) (fun z=>z) (p.routes.length) (fun z=>(zaZ Bd Ed (p.routes.length-z) z ()=X)) (0) ?_;rintro i ⟨hk,hF⟩;(try dsimp only at hk hF |-);rcases Nat.lt_or_ge i p.routes.length with hlt|hge
   ·rw[zas hBd hlt]at hF;(try dsimp only at hF)
    have c5:=c4 i (by assumption)
    have hi1:((i:Int)-1).toNat=i-1:=by omega
    generalize rt (nth p.routes i)=b at *;(have hX:=@hi1;(repeat' first|refine zaa yB fun K hK=>?_|exact wt|refine wA ?_|(refine wE ?_ ?_<;>intro h0 h<;>first|exact wN h|((try replace hF:=wX hF);clear h0;first|exact hF.elim|((try subst (h:(_:Bool)=_));try replace hF:=wX hF)))|(refine wQ ?_;clear hQ hR hE hM)|refine wC c5 ?_|fail);all_goals clear hX)
    all_goals first|exact hF|(exfalso;contradiction)|exact nX (i+1)
   ·rw[zaH hge,hEd]at hF;(try dsimp only at hF)
    (repeat' first|refine zaa yB fun K hK=>?_|exact wt|refine wA ?_|(refine wE ?_ ?_<;>intro h0 h<;>first|exact wN h|((try replace hF:=wX hF);clear h0;first|exact hF.elim|((try subst (h:(_:Bool)=_));try replace hF:=wX hF)))|(refine wQ ?_;clear hQ hR hE hM)|fail)
    all_goals first|exact hF|exact congrArg AV.b hF|(rw[<-hF];done)
  ·have hs:signals p (ends p.sections)=false:=by simpa using hs
   rw[hs]at c3 hF;generalize points p=pts at *;unfold rmF rmT at hF;refine wf hH cd300 fun w0 M Q hM hE hQ hR=>?_;refine wq ?_
   skip
   (repeat' first|refine zaa yB fun K hK=>?_|exact wt|refine wA ?_|(refine wE ?_ ?_<;>intro h0 h<;>first|exact wN h|((try replace hF:=wX hF);clear h0;first|exact hF.elim|((try subst (h:(_:Bool)=_));try replace hF:=wX hF)))|(refine wQ ?_;clear hQ hR hE hM)|refine wC c1 ?_|refine wC c2 ?_|refine wC c3 ?_|fail)
   all_goals first|exact hF|(exfalso;contradiction)|(rw[<-hF];simp;done)
 ·have hm:zbR p.sections=false:=by simpa using hm
  rw[hm]at c1 hF;unfold rmF rmT at hF;refine wf hH cd300 fun w0 M Q hM hE hQ hR=>?_;refine wq ?_
  skip
  (repeat' first|refine zaa yB fun K hK=>?_|exact wt|refine wA ?_|(refine wE ?_ ?_<;>intro h0 h<;>first|exact wN h|((try replace hF:=wX hF);clear h0;first|exact hF.elim|((try subst (h:(_:Bool)=_));try replace hF:=wX hF)))|(refine wQ ?_;clear hQ hR hE hM)|refine wC c1 ?_|fail)
  all_goals first|exact hF|(exfalso;contradiction)|(rw[<-hF];simp;done)
structure AllP (p:Pln):Prop where
 ok:OkP p
 sec:zbR p.sections=true
 sgn:SgsP p
 pts:PtsP p
 rte:∀ r∈p.routes,RteP p r
theorem zsp {p:Pln} (h:zbx p=true):AllP p:=by
 have ho:=zfx h;have hg:=(zdT ho.sec).1 ho.sgn;exact ⟨ho,ho.sec,hg,(zn0 ho.sec).1 ho.pts,fun r hr=>(zke ho.sec hg r).1 (ho.rte r hr)⟩
theorem zpp {p:Pln} (ho:OkP p) {m:Nat} (hm:m<p.routes.length):za1 (fun x=>decide (Rte.id x=(nth p.routes m).id)) 0 p.routes=(m:Int):=by
 rcases zcb Rte.id (nth p.routes m).id p.routes with ⟨_,h4⟩|⟨k,hk,h4,h5⟩
 ·exact absurd rfl (h4 _ (zac hm))
 ·rw[h4,zkz Rte.id (zf9 ho) hk hm h5]
def sndB (p:Pln) (r:Rte):Bool:=decide ((zao p r).2.2=0)&&zbW p r
theorem zqa (hH:HasAll P inv) (p:Pln) (hp:Sm p) (h:AllP p) {m:Nat} (hm:m<p.routes.length):PC P inv 301 [.agg p.c,.agg (nth p.routes m).c] (·=.b (sndB p (nth p.routes m))):=by
 have hr:=h.rte _ (zac hm);have c1:=zou hH p hp h.sec h.sgn (nth p.routes m) hr;have hw:=zhF h.sec h.sgn h.pts hr;unfold sndB;cases hV:zjf p (nth p.routes m) with
 |none =>
  rw[hV]at c1 hw;unfold zr2 at c1;dsimp only at c1 hw;rw[hw,show (decide ((90:Int)=0)&&zbW p (nth p.routes m))=false from rfl]
  refine wf hH cd301 fun w0 M Q hM hE hQ hR=>?_;refine wq ?_
  (repeat' first|refine zaa kU fun K hK=>?_|exact wt|refine wA ?_|(refine wB ?_ ?_<;>intro h<;>first|exact wN h|subst (h:(_:Bool)=_)|skip)|(refine wQ ?_;clear hQ hR hE hM)|refine wC c1 ?_|fail)
  all_goals first|rfl|(exfalso;contradiction)
 |some v =>
  obtain ⟨I,O⟩:=v;have c3:=zn5 hH p hp h.sec h.sgn h.pts hm hr hV;rw[hV]at c1 hw;unfold zr2 at c1;dsimp only at c1 hw;have hlen:=hr.lens;have hO:O.length=(nth p.routes m).path.length+(nth p.routes m).over.length:=by rw[hw.2.1,List.length_append]
  have h0:(zao p (nth p.routes m)).2.2=0:=by rw[hw.2.2]
  rw[h0,show (decide ((0:Int)=0)&&zbW p (nth p.routes m))=zbW p (nth p.routes m) from rfl]
  have c2:=zeG hH p.routes (by have:=hp.rte;omega) (nth p.routes m).id
  rw[zpp h.ok hm]at c2;have hal:=(zcn h.ok (zac hm)).1;obtain ⟨X,hF⟩:∃ X,sndF p (nth p.routes m) (zao p (nth p.routes m)).1.asks O=X:=⟨_,rfl⟩;rw[<-snd_eq h.ok h.sec h.sgn h.pts (zac hm) hr hV,hF];have cA:=fun (a b:Int)=>zoE hH p (by have:=hp.sgn;omega) a b
  unfold sndF sndT at hF;generalize (zao p (nth p.routes m)).1=w at *;clear h hr hw h0;refine wf hH cd301 fun w0 M Q hM hE hQ hR=>?_;refine wq ?_
  skip
  (repeat' first|refine zaa kU fun K hK=>?_|exact wt|refine wA ?_|(refine wE ?_ ?_<;>intro h0 h<;>first|exact wN h|((try replace hF:=wX hF);clear h0;first|exact hF.elim|((try subst (h:(_:Bool)=_));try replace hF:=wX hF)))|(refine wQ ?_;clear hQ hR hE hM)|refine wC c1 ?_|refine wU c2 ?_|refine wU c3 ?_|fail)
  all_goals first|(exfalso;contradiction)|skip
  refine zaI hF fun Bd Ed hBd hEd hF=>?_;refine zaj (ι:=Nat) [2,3,4,6,8,9] (fun z=>[(9,.n z)]) (fun _=>[]) (fun z=>z) (w.asks.length) (fun z=>(zaZ Bd Ed (w.asks.length-z) z ()=X)) (0) ?_;rintro i ⟨hk,hF⟩;(try dsimp only at hk hF |-);rcases Nat.lt_or_ge i w.asks.length with hlt|hge
  ·rw[zas hBd hlt]at hF;(try dsimp only at hF)
   (repeat' first|refine zaa kU fun K hK=>?_|exact wt|refine wA ?_|(refine wE ?_ ?_<;>intro h0 h<;>first|exact wN h|((try replace hF:=wX hF);clear h0;first|exact hF.elim|((try subst (h:(_:Bool)=_));try replace hF:=wX hF)))|(refine wQ ?_;clear hQ hR hE hM)|fail)
   refine zaI hF fun Bd Ed hBd hEd hF=>?_;refine zaj (ι:=Nat) [2,3,4,6,8,9,10] (fun z=>[(10,.n z)]) (fun _=>[]) (fun z=>z) (i) (fun z=>(zaZ Bd Ed (i-z) z ()=X)) (0) ?_;rintro k ⟨hk,hF⟩;(try dsimp only at hk hF |-);rcases Nat.lt_or_ge k i with hlt|hge
   ·rw[zas hBd hlt]at hF;(try dsimp only at hF)
    (repeat' first|refine zaa kU fun K hK=>?_|exact wt|refine wA ?_|(refine wE ?_ ?_<;>intro h0 h<;>first|exact wN h|((try replace hF:=wX hF);clear h0;first|exact hF.elim|((try subst (h:(_:Bool)=_));try replace hF:=wX hF)))|(refine wQ ?_;clear hQ hR hE hM)|fail)
    all_goals first|exact hF|(exfalso;contradiction)|exact congrArg AV.b hF|exact nX (k+1)
   ·rw[zaH hge,hEd]at hF;(try dsimp only at hF)
    (repeat' first|refine zaa kU fun K hK=>?_|exact wt|refine wA ?_|(refine wE ?_ ?_<;>intro h0 h<;>first|exact wN h|((try replace hF:=wX hF);clear h0;first|exact hF.elim|((try subst (h:(_:Bool)=_));try replace hF:=wX hF)))|(refine wQ ?_;clear hQ hR hE hM)|fail)
    all_goals exact nX (i+1)
  ·rw[zaH hge,hEd]at hF;(try dsimp only at hF)
   (repeat' first|refine zaa kU fun K hK=>?_|exact wt|refine wA ?_|(refine wE ?_ ?_<;>intro h0 h<;>first|exact wN h|((try replace hF:=wX hF);clear h0;first|exact hF.elim|((try subst (h:(_:Bool)=_));try replace hF:=wX hF)))|(refine wQ ?_;clear hQ hR hE hM)|fail)
   refine zaI hF fun Bd Ed hBd hEd hF=>?_;refine zaj (ι:=Nat) [2,3,4,6,11] (fun z=>[(11,.n z)]) (fun _=>[]) (fun z=>z) ((nth p.routes m).path.length) (fun z=>(zaZ Bd Ed ((nth p.routes m).path.length-z) z ()=X)) (0) ?_;rintro i ⟨hk,hF⟩;(try dsimp only at hk hF |-);rcases Nat.lt_or_ge i (nth p.routes m).path.length with hlt|hge
   ·rw[zas hBd hlt]at hF;(try dsimp only at hF)
    have c4:=cA (nth (nth p.routes m).path i) (nth O i);generalize znS p (nth (nth p.routes m).path i) (nth O i)=g at *
    (repeat' first|refine zaa kU fun K hK=>?_|exact wt|refine wA ?_|(refine wE ?_ ?_<;>intro h0 h<;>first|exact wN h|((try replace hF:=wX hF);clear h0;first|exact hF.elim|((try subst (h:(_:Bool)=_));try replace hF:=wX hF)))|(refine wQ ?_;clear hQ hR hE hM)|refine wC c4 ?_|fail)
    all_goals first|exact hF|(exfalso;contradiction)|exact congrArg AV.b hF|exact nX (i+1)
   ·rw[zaH hge,hEd]at hF;(try dsimp only at hF)
    (repeat' first|refine zaa kU fun K hK=>?_|exact wt|refine wA ?_|(refine wE ?_ ?_<;>intro h0 h<;>first|exact wN h|((try replace hF:=wX hF);clear h0;first|exact hF.elim|((try subst (h:(_:Bool)=_));try replace hF:=wX hF)))|(refine wQ ?_;clear hQ hR hE hM)|fail)
    all_goals first|exact hF|exact congrArg AV.b hF
theorem zpa (p:Pln):zbk p=(zbx p&&p.routes.all (sndB p)):=by
 unfold zbk zsq sndB
 congr 1
 induction p.routes with
 |nil=>rfl
 |cons r l ih =>
  simp only[List.all_cons];rw[<-ih];cases decide ((zao p r).2.2=0)<;>cases zbW p r<;>simp
theorem zlL (hH:HasAll P inv) (p:Pln) (hp:Sm p):PC P inv 295 [.agg p.c] (·=.b (zbk p)):=by
 have c1:=may_ref hH p hp;have hl:=hp.rte;rw[zpa];by_cases hok:zbx p=true
 ·have h:=zsp hok
  have cS:=fun (m:Nat) (hm:m<p.routes.length)=>zqa hH p hp h hm
  rw[hok]at c1;rw[hok,Bool.true_and];clear h hok;refine wf hH cd295 fun w0 M Q hM hE hQ hR=>?_;refine wq ?_
  (repeat' first|refine zaa yC fun K hK=>?_|exact wt|refine wA ?_|(refine wB ?_ ?_<;>intro h<;>first|exact wN h|subst (h:(_:Bool)=_)|skip)|(refine wQ ?_;clear hQ hR hE hM)|refine wC c1 ?_|fail)
  all_goals first|(exfalso;contradiction)|skip
  refine zaj (ι:=Nat) [1,2,3] (fun z=>[(3,.n z)]) (fun _=>[]) (fun z=>z) (p.routes.length) (fun z=>((p.routes.drop z).all (sndB p)=p.routes.all (sndB p))) (0) ?_;rintro k ⟨hk,hg⟩;(try dsimp only at hk hg |-);rcases Nat.lt_or_ge k p.routes.length with hlt|hge
  ·rw[zae hlt,List.all_cons]at hg
   have c2:=cS k hlt;cases hb:sndB p (nth p.routes k) with
   |true =>
    rw[hb]at c2 hg;rw[Bool.true_and]at hg
    (repeat' first|refine zaa yC fun K hK=>?_|exact wt|refine wA ?_|(refine wB ?_ ?_<;>intro h<;>first|exact wN h|subst (h:(_:Bool)=_)|skip)|(refine wQ ?_;clear hQ hR hE hM)|refine wC c2 ?_|fail)
    all_goals first|(exfalso;contradiction)|exact ⟨k+1,by omega,⟨by omega,hg⟩,by omega⟩
   |false =>
    rw[hb]at c2 hg;rw[Bool.false_and]at hg
    (repeat' first|refine zaa yC fun K hK=>?_|exact wt|refine wA ?_|(refine wB ?_ ?_<;>intro h<;>first|exact wN h|subst (h:(_:Bool)=_)|skip)|(refine wQ ?_;clear hQ hR hE hM)|refine wC c2 ?_|fail)
    all_goals first|(exfalso;contradiction)|exact congrArg AV.b hg|exact hg
  ·rw[List.drop_eq_nil_of_le hge,List.all_nil]at hg
   (repeat' first|refine zaa yC fun K hK=>?_|exact wt|refine wA ?_|(refine wB ?_ ?_<;>intro h<;>first|exact wN h|subst (h:(_:Bool)=_)|skip)|(refine wQ ?_;clear hQ hR hE hM)|fail)
   all_goals first|exact congrArg AV.b hg|exact hg
 ·have hok:zbx p=false:=by simpa using hok
  rw[hok]at c1;rw[hok,Bool.false_and];refine wf hH cd295 fun w0 M Q hM hE hQ hR=>?_;refine wq ?_
  (repeat' first|refine zaa yC fun K hK=>?_|exact wt|refine wA ?_|(refine wB ?_ ?_<;>intro h<;>first|exact wN h|subst (h:(_:Bool)=_)|skip)|(refine wQ ?_;clear hQ hR hE hM)|refine wC c1 ?_|fail)
  all_goals first|rfl|(exfalso;contradiction)
theorem zqL {p:Pln} (h:zbk p=true):zbx p=true:=by unfold zbk at h;rw[Bool.and_eq_true]at h;exact h.1
theorem zhL (hH:HasAll P inv) (p:Pln) (hp:Sm p) (h:zbk p=true) {m:Nat} (hm:m<p.routes.length):PC P inv 312 [.agg p.c,.n m] (·=.agg (zao p (nth p.routes m)).1.c):=by
 have hA:=zsp (zqL h);have hr:=hA.rte _ (zac hm);have hw:=zhF hA.sec hA.sgn hA.pts hr;cases hV:zjf p (nth p.routes m) with
 |none =>
  rw[hV]at hw;have h0:=(zbc h).2.1 _ (zac hm);rw[h0]at hw;cases hw
 |some v =>
  have c1:=zn5 hH p hp hA.sec hA.sgn hA.pts hm hr hV;clear hA hr hw hV;generalize (zao p (nth p.routes m)).1=w at *;refine wf hH cd312 fun w0 M Q hM hE hQ hR=>?_;refine wq ?_
  (repeat' first|refine zaa [0,1,2,4] fun K hK=>?_|exact wt|refine wA ?_|(refine wB ?_ ?_<;>intro h<;>first|exact wN h|subst (h:(_:Bool)=_)|skip)|(refine wQ ?_;clear hQ hR hE hM)|refine wC c1 ?_|fail)
  all_goals first|rfl
theorem zoi (hH:HasAll P inv) (p:Pln) (hp:Sm p) (h:zbk p=true) {m:Nat} (hm:m<p.routes.length) (l:Lock):PC P inv 302 [.agg p.c,.agg l.c,.n m] (·=.sl 1 ((zb7 (zao p (nth p.routes m)).1 l).map zaJ)):=by
 have c1:=zhL hH p hp h hm;have hwl:=zcn (zbc h).1 (zac hm);generalize (zao p (nth p.routes m)).1=w at *;clear h;unfold zb7;by_cases h0:l.phase=0
 ·rw[if_pos h0]
  refine wf hH cd302 fun w0 M Q hM hE hQ hR=>?_;refine wq ?_
  (repeat' first|refine zaa yN fun K hK=>?_|exact wt|refine wA ?_|(refine wB ?_ ?_<;>intro h<;>first|exact wN h|subst (h:(_:Bool)=_)|skip)|(refine wQ ?_;clear hQ hR hE hM)|fail)
  all_goals first|rfl|(exfalso;contradiction)
 ·rw[if_neg h0]
  have hmx:(if l.gone<0 then (0:Int) else l.gone)=((l.gone.toNat:Nat):Int):=by split<;>omega
  generalize l.gone.toNat=g at *;refine wf hH cd302 fun w0 M Q hM hE hQ hR=>?_;refine wq ?_
  (have hX:=@hmx;(repeat' first|refine zaa yN fun K hK=>?_|exact wt|refine wA ?_|(refine wB ?_ ?_<;>intro h<;>first|exact wN h|subst (h:(_:Bool)=_)|skip)|(refine wQ ?_;clear hQ hR hE hM)|refine wC c1 ?_|fail);all_goals clear hX)
  all_goals first|(exfalso;contradiction)|skip
  refine AWp.empty 8 3 1 rfl (Nat.zero_le _) (by (refine wD ?_;try exact wt)) (by (refine wD ?_;try exact wt)) ?_
  (refine wD ?_;try exact wt)
  refine zaj (ι:=Nat×(List Int)) [6,7,8,9] (fun z=>[(8,.sm 3 z.2.length 0 z.2.length 1),(9,.n ((g+z.1:Nat):Int))]) (fun z=>[(3,.cells (z.2.map zaJ).flatten (decide (0<z.2.length)))]) (fun z=>z.1) ((w.path.length-g)) (fun z=>(z.2.length=z.1)/\(z.2++w.path.drop (g+z.1)=w.path.drop g)) (0,([]:List Int)) ?_;rintro ⟨k,A⟩ ⟨hk,hA,hgo⟩;(try dsimp only at hk hA hgo |-);rcases Nat.lt_or_ge k (w.path.length-g) with hlt|hge
  ·have hlt2:g+k<w.path.length:=by omega
   rw[zae hlt2]at hgo;(have hX:=@Int.toNat_natCast;(repeat' first|refine zaa yN fun K hK=>?_|exact wt|refine wA ?_|(refine wB ?_ ?_<;>intro h<;>first|exact wN h|subst (h:(_:Bool)=_)|skip)|(refine wQ ?_;clear hQ hR hE hM)|fail);all_goals clear hX)
   all_goals first|(exfalso;omega)|(exact nY (k+1,A++[nth w.path (g+k)]) ⟨by (try dsimp only);omega,by (try dsimp only);simp[hA],by (try dsimp only);rw[<-hgo];simp[Nat.add_assoc]⟩;done)
  ·rw[List.drop_eq_nil_of_le (show w.path.length<=g+k by omega),List.append_nil]at hgo
   have hgo2:w.path.drop g++w.over=A++w.over:=by rw[hgo]
   have f0:(A.map zaJ).flatten++(w.over.map zaJ).flatten=((A++w.over).map zaJ).flatten:=by simp
   have f1:A.length+w.over.length=(A++w.over).length:=by simp
   generalize A++w.over=all at *;(have hX:=zA @f0 @f1;(repeat' first|refine zaa yN fun K hK=>?_|exact wt|refine wA ?_|(refine wB ?_ ?_<;>intro h<;>first|exact wN h|subst (h:(_:Bool)=_)|skip)|(refine wQ ?_;clear hQ hR hE hM)|fail);all_goals clear hX)
   all_goals first|(exfalso;omega)|(rw[hgo2];done)|(rw[hgo2];rfl)
theorem asks_ref (hH:HasAll P inv) (p:Pln) (hp:Sm p) (h:zbk p=true) {m:Nat} (hm:m<p.routes.length) (l:Lock):PC P inv 303 [.agg p.c,.agg l.c,.n m] (·=.sl 3 (((zcK (zao p (nth p.routes m)).1 l).filter (zdv l)).map AskR.c)):=by
 have c1:=zhL hH p hp h hm;have hwl:=zcn (zbc h).1 (zac hm);generalize (zao p (nth p.routes m)).1=w at *;clear h;unfold zcK;by_cases h0:l.phase=0
 ·rw[if_pos h0]
  refine wf hH cd303 fun w0 M Q hM hE hQ hR=>?_;refine wq ?_
  (repeat' first|refine zaa ko fun K hK=>?_|exact wt|refine wA ?_|(refine wB ?_ ?_<;>intro h<;>first|exact wN h|subst (h:(_:Bool)=_)|skip)|(refine wQ ?_;clear hQ hR hE hM)|fail)
  all_goals first|rfl|(exfalso;contradiction)
 ·rw[if_neg h0]
  refine wf hH cd303 fun w0 M Q hM hE hQ hR=>?_;refine wq ?_
  (repeat' first|refine zaa ko fun K hK=>?_|exact wt|refine wA ?_|(refine wB ?_ ?_<;>intro h<;>first|exact wN h|subst (h:(_:Bool)=_)|skip)|(refine wQ ?_;clear hQ hR hE hM)|refine wC c1 ?_|fail)
  all_goals first|(exfalso;contradiction)|skip
  refine AWp.empty 8 3 3 rfl (Nat.zero_le _) (by (refine wD ?_;try exact wt)) (by (refine wD ?_;try exact wt)) ?_
  (refine wD ?_;try exact wt)
  refine zaj (ι:=Nat×(List AskR)) [4,6,7,8,9] (fun z=>[(8,.sm 3 (z.2.length*3) 0 z.2.length 3),(9,.n z.1)]) (fun z=>[(3,.cells (z.2.map AskR.c).flatten (decide (0<z.2.length)))]) (fun z=>z.1) (w.asks.length) (fun z=>(z.2.length<=z.1)/\(z.2++(w.asks.drop z.1).filter (zdv l)=w.asks.filter (zdv l))) (0,([]:List AskR)) ?_;rintro ⟨k,A⟩ ⟨hk,hA,hgo⟩;(try dsimp only at hk hA hgo |-);rcases Nat.lt_or_ge k w.asks.length with hlt|hge
  ·rw[zae hlt,List.filter_cons]at hgo
   by_cases hn:(nth w.asks k).pos<0
   ·rw[if_pos (by unfold zdv;simp[hn])]at hgo
    (repeat' first|refine zaa ko fun K hK=>?_|exact wt|refine wA ?_|(refine wB ?_ ?_<;>intro h<;>first|exact wN h|subst (h:(_:Bool)=_)|skip)|(refine wQ ?_;clear hQ hR hE hM)|fail)
    all_goals first|(exfalso;omega)|(exact nY (k+1,A++[nth w.asks k]) ⟨by (try dsimp only);omega,by (try dsimp only);simp;omega,by (try dsimp only);rw[<-hgo];simp⟩;done)
   ·by_cases hg:l.gone<=(nth w.asks k).pos
    ·rw[if_pos (by unfold zdv;simp[hg])]at hgo
     (repeat' first|refine zaa ko fun K hK=>?_|exact wt|refine wA ?_|(refine wB ?_ ?_<;>intro h<;>first|exact wN h|subst (h:(_:Bool)=_)|skip)|(refine wQ ?_;clear hQ hR hE hM)|fail)
     all_goals first|(exfalso;omega)|(exact nY (k+1,A++[nth w.asks k]) ⟨by (try dsimp only);omega,by (try dsimp only);simp;omega,by (try dsimp only);rw[<-hgo];simp⟩;done)
    ·rw[if_neg (by unfold zdv;simp[hn,hg])]at hgo
     (repeat' first|refine zaa ko fun K hK=>?_|exact wt|refine wA ?_|(refine wB ?_ ?_<;>intro h<;>first|exact wN h|subst (h:(_:Bool)=_)|skip)|(refine wQ ?_;clear hQ hR hE hM)|fail)
     all_goals first|(exfalso;omega)|(exact nY (k+1,A) ⟨by (try dsimp only);omega,by (try dsimp only);omega,hgo⟩;done)
  ·rw[List.drop_eq_nil_of_le hge,List.filter_nil,List.append_nil]at hgo
   (repeat' first|refine zaa ko fun K hK=>?_|exact wt|refine wA ?_|(refine wB ?_ ?_<;>intro h<;>first|exact wN h|subst (h:(_:Bool)=_)|skip)|(refine wQ ?_;clear hQ hR hE hM)|fail)
   all_goals first|(subst hgo;rfl)|(rw[<-hgo];done)
end Go.Lev
