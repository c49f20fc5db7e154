/-
  Contracts of functions. Conditions: those that each theorem names.
-/
import Derived.Test.YtjfongdncghjmaaGreatL17
import Derived.Test.YtjfongdncghjmaaGreatL22
set_option linter.unusedSimpArgs false
set_option linter.unusedVariables false
set_option linter.unusedSectionVars false
namespace Go.Lev
open Go.Eng
set_option maxRecDepth 10000
set_option maxHeartbeats 4000000
variable {P:Program} {inv:Nat->Option Nat} {w0:World} {M:Nat->Prop}
theorem zn6 {p:Pln} {s:State} (h:zav p s=0) {q:Nat} (hq:q<s.switches.length):zeu s (nth s.switches q).id=(nth s.switches q).lie:=by
 have hno:(s.switches.map Switch.id).Nodup:=by rw[zfB (zam h).2.1];exact zeM (zar h)
 unfold zeu;rw[zhE Switch.id hno hq rfl]
theorem lieT_of {p:Pln} {s:State} (h:zav p s=0) {a:AskR} (ha:zri p a.pnt=true):zpM s a=decide (zeu s a.pnt=a.lie):=by
 obtain ⟨m,hm,em⟩:=zoa ha;have hpa:=(zam h).2.1;have hms:m<s.switches.length:=by have:=zaC hpa;omega
 have es:(nth s.switches m).id=a.pnt:=by rw[zj0 hpa hms,em]
 rw[Bool.eq_iff_iff,decide_eq_true_eq,zm1 h ha,<-es,zn6 h hms];constructor
 ·intro g;exact g m hms rfl
 ·intro g k hk ek
  have hno:(s.switches.map Switch.id).Nodup:=by rw[zfB hpa];exact zeM (zar h)
  rw[zkz Switch.id hno hk hms ek];exact g
theorem zo5 (hH:HasAll P inv) (p:Pln) (hp:Sm p) (s:State) (hs:SmS s) (hst:zav p s=0) {k:Nat} (hk:k<p.routes.length):PC P inv 352 [.agg p.c,.agg s.c,.n k] (·=.b (zdh p s (nth p.routes k))):=by
 have ho:=zar hst;have hpa:=(zam hst).2.1;have hpl:=zaC hpa;have hks:k<s.locks.length:=by omega
 have hl3:=hs.2.2;have hl2:=hs.2.1;by_cases hph:(nth s.locks k).phase=1
 ·have c3:=zhL hH p hp (zam hst).1 hk
  have hwl:=zcn ho (zac hk);have hwp:=zcz ((zbc (zam hst).1).2.1 _ (zac hk));have cS:∀ x∈znU p k,PC P inv 335 [.agg p.c,.agg s.c,.n x] (·=.i .u8 (zd2 s x)):=fun x hx=>by
   unfold znU at hx;rw[hwp.1,hwp.2.1]at hx;obtain ⟨q,hq,e⟩:=(zed ho (zac hk)).1 x hx;exact is17_ref hH p hp s hs hst (List.any_eq_true.2 ⟨q,hq,by simpa using e⟩)
  have cA:∀ a∈zeX p k,∃ q:Nat,q<s.switches.length/\PC P inv 294 [.agg p.c,.n a.pnt] (·=.n q)/\zeu s a.pnt=(nth s.switches q).lie:=fun a ha=>by
   obtain ⟨q,_,h2,h3,_,h5⟩:=ask_ix hH hp hst hk ha;exact ⟨q,h2,h3,by rw[<-h5];exact zn6 hst h2⟩
  obtain ⟨X,hF⟩:∃ X,rpvF s (zao p (nth p.routes k)).1.path (zao p (nth p.routes k)).1.over (zeX p k) (fun a=>zeu s a.pnt)=X:=⟨_,rfl⟩
  rw[<-rpvF_eq hst hk hph (L:=fun a=>zeu s a.pnt) fun a ha=>lieT_of hst (ziA ho (zac hk) ha),hF]
  have hasl:(zeX p k).length<=1000:=hwl.1;have hask:(zao p (nth p.routes k)).1.asks=zeX p k:=rfl;have cP:∀ x∈(zao p (nth p.routes k)).1.path,PC P inv 335 [.agg p.c,.agg s.c,.n x] (·=.i .u8 (zd2 s x)):=fun x hx=>cS x (List.mem_append.2 (.inl hx))
  have cO:∀ x∈(zao p (nth p.routes k)).1.over,PC P inv 335 [.agg p.c,.agg s.c,.n x] (·=.i .u8 (zd2 s x)):=fun x hx=>cS x (List.mem_append.2 (.inr hx))
  clear cS hwp ho hpa hpl hst;unfold rpvF at hF;generalize zeX p k=asl9 at *;generalize (zao p (nth p.routes k)).1=w at *;obtain ⟨wp,wo,wa,wn⟩:=w;dsimp only at c3 hwl hask cP cO hF;subst hask;refine wf hH cd352 fun w0 M Q hM hE hQ hR=>?_;refine wq ?_
  skip
  (repeat' first|refine zaa kV fun K hK=>?_|exact wt|refine wA ?_|(refine wE ?_ ?_<;>intro h0 h<;>first|exact wN h|((try replace hF:=wX hF);clear h0;first|exact hF.elim|((try subst (h:(_:Bool)=_));try replace hF:=wX hF)))|(refine wQ ?_;clear hQ hR hE hM)|refine wC c3 ?_|fail)
  all_goals first|(exfalso;contradiction)|skip
  refine zaI hF fun Bd Ed hBd hEd hF=>?_;refine zaj (ι:=Nat) [3,4,6,7,8] (fun z=>[(8,.n z)]) (fun _=>[]) (fun z=>z) (wp.length) (fun z=>(zaZ Bd Ed (wp.length-z) z ()=X)) (0) ?_;rintro i ⟨hk,hF⟩;(try dsimp only at hk hF |-);rcases Nat.lt_or_ge i wp.length with hlt|hge
  ·rw[zas hBd hlt]at hF;(try dsimp only at hF)
   have d1:=cP _ (zac (show i<wp.length by assumption))
   have d0:=zod (show i<wp.length by assumption)
   generalize zd2 s (nth wp i)=iv at *;(have hX:=@d0;(repeat' first|refine zaa kV fun K hK=>?_|exact wt|refine wA ?_|(refine wE ?_ ?_<;>intro h0 h<;>first|exact wN h|((try replace hF:=wX hF);clear h0;first|exact hF.elim|((try subst (h:(_:Bool)=_));try replace hF:=wX hF)))|(refine wQ ?_;clear hQ hR hE hM)|refine wC d1 ?_|fail);all_goals clear hX)
   all_goals first|exact hF|(exfalso;contradiction)|exact congrArg AV.b hF|exact nX (i+1)
  ·rw[zaH hge,hEd]at hF;(try dsimp only at hF)
   (repeat' first|refine zaa kV fun K hK=>?_|exact wt|refine wA ?_|(refine wE ?_ ?_<;>intro h0 h<;>first|exact wN h|((try replace hF:=wX hF);clear h0;first|exact hF.elim|((try subst (h:(_:Bool)=_));try replace hF:=wX hF)))|(refine wQ ?_;clear hQ hR hE hM)|fail)
   refine zaI hF fun Bd Ed hBd hEd hF=>?_;refine zaj (ι:=Nat) [3,4,6,7,9] (fun z=>[(9,.n z)]) (fun _=>[]) (fun z=>z) (wo.length) (fun z=>(zaZ Bd Ed (wo.length-z) z ()=X)) (0) ?_;rintro j ⟨hk,hF⟩;(try dsimp only at hk hF |-);rcases Nat.lt_or_ge j wo.length with hlt|hge
   ·rw[zas hBd hlt]at hF;(try dsimp only at hF)
    have d1:=cO _ (zac (show j<wo.length by assumption))
    have d0:=zod (show j<wo.length by assumption)
    generalize zd2 s (nth wo j)=iv at *;(have hX:=@d0;(repeat' first|refine zaa kV fun K hK=>?_|exact wt|refine wA ?_|(refine wE ?_ ?_<;>intro h0 h<;>first|exact wN h|((try replace hF:=wX hF);clear h0;first|exact hF.elim|((try subst (h:(_:Bool)=_));try replace hF:=wX hF)))|(refine wQ ?_;clear hQ hR hE hM)|refine wC d1 ?_|fail);all_goals clear hX)
    all_goals first|exact hF|(exfalso;contradiction)|exact congrArg AV.b hF|exact nX (j+1)
   ·rw[zaH hge,hEd]at hF;(try dsimp only at hF)
    (repeat' first|refine zaa kV fun K hK=>?_|exact wt|refine wA ?_|(refine wE ?_ ?_<;>intro h0 h<;>first|exact wN h|((try replace hF:=wX hF);clear h0;first|exact hF.elim|((try subst (h:(_:Bool)=_));try replace hF:=wX hF)))|(refine wQ ?_;clear hQ hR hE hM)|fail)
    refine zaI hF fun Bd Ed hBd hEd hF=>?_;refine zaj (ι:=Nat) [3,4,6,7,10] (fun z=>[(10,.n z)]) (fun _=>[]) (fun z=>z) (wa.length) (fun z=>(zaZ Bd Ed (wa.length-z) z ()=X)) (0) ?_;rintro m ⟨hk,hF⟩;(try dsimp only at hk hF |-);rcases Nat.lt_or_ge m wa.length with hlt|hge
    ·rw[zas hBd hlt]at hF;(try dsimp only at hF)
     obtain ⟨q,hq2,d3,e3⟩:=cA _ (zac (show m<wa.length by assumption))
     simp only[e3]at hF;(have hX:=@Int.toNat_natCast;(repeat' first|refine zaa kV fun K hK=>?_|exact wt|refine wA ?_|(refine wE ?_ ?_<;>intro h0 h<;>first|exact wN h|((try replace hF:=wX hF);clear h0;first|exact hF.elim|((try subst (h:(_:Bool)=_));try replace hF:=wX hF)))|(refine wQ ?_;clear hQ hR hE hM)|refine wC d3 ?_|refine wU d3 ?_|fail);all_goals clear hX)
     all_goals first|exact hF|(exfalso;contradiction)|exact congrArg AV.b hF|exact nX (m+1)
    ·rw[zaH hge,hEd]at hF;(try dsimp only at hF)
     (repeat' first|refine zaa kV fun K hK=>?_|exact wt|refine wA ?_|(refine wE ?_ ?_<;>intro h0 h<;>first|exact wN h|((try replace hF:=wX hF);clear h0;first|exact hF.elim|((try subst (h:(_:Bool)=_));try replace hF:=wX hF)))|(refine wQ ?_;clear hQ hR hE hM)|fail)
     all_goals first|exact hF|exact congrArg AV.b hF
 ·rw[prv_ph hst hk hph]
  clear hst ho hpa hpl;refine wf hH cd352 fun w0 M Q hM hE hQ hR=>?_;refine wq ?_
  (repeat' first|refine zaa kV fun K hK=>?_|exact wt|refine wA ?_|(refine wB ?_ ?_<;>intro h<;>first|exact wN h|subst (h:(_:Bool)=_)|skip)|(refine wQ ?_;clear hQ hR hE hM)|fail)
  all_goals first|rfl|(exfalso;contradiction)
theorem zpt (hH:HasAll P inv) (p:Pln) (hp:Sm p) (s:State) (hs:SmS s) (hst:zav p s=0) (n:Int):PC P inv 353 [.agg p.c,.agg s.c,.n n] (·=.n (goX p (zdh p s) n)):=by
 have hc:=fun k (hk:k<p.routes.length)=>zo5 hH p hp s hs hst hk
 have hrl:=hp.rte;unfold goX;generalize zdh p s=f at *;clear hst;refine wf hH cd353 fun w0 M Q hM hE hQ hR=>?_;refine wq ?_
 (repeat' first|refine zaa yO fun K hK=>?_|exact wt|refine wA ?_|(refine wB ?_ ?_<;>intro h<;>first|exact wN h|subst (h:(_:Bool)=_)|skip)|(refine wQ ?_;clear hQ hR hE hM)|fail)
 refine zaj (ι:=Nat) [2,3,4,6,7] (fun z=>[(7,.n z)]) (fun _=>[]) (fun z=>z) (p.routes.length) (fun z=>(za1 (fun r=>decide (Rte.entry r=n)&&f r) z (p.routes.drop z)=za1 (fun r=>decide (Rte.entry r=n)&&f r) 0 p.routes)) (0) ?_;rintro k ⟨hk,hg⟩;(try dsimp only at hk hg |-);rcases Nat.lt_or_ge k p.routes.length with hlt|hge
 ·have c1:=hc k hlt
  rw[zae hlt,za1]at hg;generalize f (nth p.routes k)=fk at *;by_cases h1:(nth p.routes k).entry=n
  ·rw[decide_eq_true h1]at hg
   have h2:decide ((nth p.routes k).entry=n)=true:=decide_eq_true h1;(have hX:=@h2;(repeat' first|refine zaa yO fun K hK=>?_|exact wt|refine wA ?_|(refine wB ?_ ?_<;>intro h<;>first|exact wN h|subst (h:(_:Bool)=_)|skip)|(refine wQ ?_;clear hQ hR hE hM)|refine wC c1 ?_|fail);all_goals clear hX)
   all_goals first|(exfalso;contradiction)|(simpa using hg)|exact ⟨k+1,by omega,⟨by omega,by simpa using hg⟩,by omega⟩
  ·rw[decide_eq_false h1]at hg
   have h2:decide ((nth p.routes k).entry=n)=false:=decide_eq_false h1;(have hX:=@h2;(repeat' first|refine zaa yO fun K hK=>?_|exact wt|refine wA ?_|(refine wB ?_ ?_<;>intro h<;>first|exact wN h|subst (h:(_:Bool)=_)|skip)|(refine wQ ?_;clear hQ hR hE hM)|refine wC c1 ?_|fail);all_goals clear hX)
   all_goals first|(exfalso;contradiction)|exact ⟨k+1,by omega,⟨by omega,by simpa using hg⟩,by omega⟩
 ·rw[List.drop_eq_nil_of_le hge,za1]at hg
  (repeat' first|refine zaa yO fun K hK=>?_|exact wt|refine wA ?_|(refine wB ?_ ?_<;>intro h<;>first|exact wN h|subst (h:(_:Bool)=_)|skip)|(refine wQ ?_;clear hQ hR hE hM)|fail)
  all_goals first|(rw[<-hg];done)|(rw[<-hg];rfl)
set_option maxHeartbeats 8000000
theorem goT_if (p:Pln) (s:State) (t:TrainD):goT p s t=(if (ofW p t.rt).2=0/\t.pl<((ofW p t.rt).1.path.length:Int)-1 then (t.rt,t.pl+1,true) else if zhQ p (nth t.secs 0) t.ed=0 then (0,0,false) else if 0<prId p s (zhQ p (nth t.secs 0) t.ed) then (prId p s (zhQ p (nth t.secs 0) t.ed),0,true) else (t.nx,0,decide (0<t.may))):=rfl
theorem zqU (hH:HasAll P inv) (p:Pln) (hp:Sm p) (s:State) (hs:SmS s) (hst:zav p s=0) (t:TrainD) (ht:TrOk p s t) (hw:¬((ofW p t.rt).2=0/\t.pl<((ofW p t.rt).1.path.length:Int)-1)):PC P inv 402 [.agg p.c,.agg s.c,.agg t.c] (·=.tup [.n (goT p s t).1,.n (goT p s t).2.1,.b (goT p s t).2.2]):=by
 have ho:=zar hst;have hpl9:=zku hst;have hl0:0<t.secs.length:=ht.one;have x0:=zcq hl0;have hf:=(ht.sec 0 hl0).1;have c4:=zoE hH p (Nat.le_trans hp.sgn (by omega)) (nth t.secs 0) t.ed
 rw[sg_eq ho hpl9 (zkC hf (zdw ht.thru))]at c4;have c7:=zpt hH p hp s hs hst (zhQ p (nth t.secs 0) t.ed);have c5:=zeG hH p.routes (Nat.le_trans hp.rte (by omega)) t.rt
 rw[goT_if,if_neg hw];have hrt:t.rt=0\/∃ i:Nat,i<p.routes.length/\za1 (fun x=>decide (Rte.id x=t.rt)) 0 p.routes=(i:Int)/\¬t.pl<((nth p.routes i).path.length:Int)-1/\(nth p.routes i).path.length<=6:=by
  rcases ht.rt with h|h
  ·rcases zjr hpl9 t.rt with ⟨_,_,h3⟩|⟨i,hi,h3,h4,_,_⟩
   ·exact absurd h.1 h3
   ·refine .inr ⟨i,hi,h3,fun h5=>hw ?_,((zke ho.sec ((zdT ho.sec).1 ho.sgn) _).1 (ho.rte _ (zac hi))).lens.2.1⟩
    obtain ⟨h6,h7⟩:=zpT hst hi h4;rw[h6];exact ⟨rfl,by rw[h7];exact h5⟩
  ·exact .inl h.1
 have hgx:=zrP p (zdh p s) (zhQ p (nth t.secs 0) t.ed);have hid:∀ i,i<p.routes.length->1<=(nth p.routes i).id:=fun i hi=>(zf8 ho (zac hi)).1
 unfold prId;generalize goX p (zdh p s) (zhQ p (nth t.secs 0) t.ed)=gx at *;generalize zhQ p (nth t.secs 0) t.ed=sg at *;clear ht hst ho hw hf;have key:gx=-1\/∃ j:Nat,j<p.routes.length/\gx=(j:Int):=by
  rcases hgx with h|⟨j,h1,h2,_⟩
  ·exact .inl h.1
  ·exact .inr ⟨j,h1,h2⟩
 clear hgx;have e1:gx=-1->(if 0<(if gx<0 then (0:Int) else (nth p.routes gx.toNat).id) then ((if gx<0 then (0:Int) else (nth p.routes gx.toNat).id),(0:Int),true) else (t.nx,0,decide (0<t.may)))=(t.nx,0,decide (0<t.may)):=fun h=>by rw[if_pos (show gx<0 by omega),if_neg (by omega)]
 have e2:∀ j:Nat,j<p.routes.length->gx=(j:Int)->(if 0<(if gx<0 then (0:Int) else (nth p.routes gx.toNat).id) then ((if gx<0 then (0:Int) else (nth p.routes gx.toNat).id),(0:Int),true) else (t.nx,0,decide (0<t.may)))=((nth p.routes j).id,0,true):=fun j hj h=>by
  have:=hid j hj;subst h;rw[if_neg (show ¬(j:Int)<0 by omega),Int.toNat_natCast,if_pos (by omega)]
 by_cases hsg:sg=0
 ·rw[if_pos hsg]
  clear e1 e2 key c7;rcases hrt with h|⟨i,hi,h1,h2,h2'⟩
  ·refine wf hH cd402 fun w0 M Q hM hE hQ hR=>?_;refine wq ?_
   (have hX:=@x0;(repeat' first|refine zaa kb fun K hK=>?_|exact wt|refine wA ?_|(refine wB ?_ ?_<;>intro h<;>first|exact wN h|subst (h:(_:Bool)=_)|skip)|(refine wQ ?_;clear hQ hR hE hM)|refine wC c4 ?_|fail);all_goals clear hX)
   all_goals first|rfl|(exfalso;contradiction)|(exfalso;omega)
  ·rw[h1]at c5
   refine wf hH cd402 fun w0 M Q hM hE hQ hR=>?_;refine wq ?_
   (have hX:=@x0;(repeat' first|refine zaa kb fun K hK=>?_|exact wt|refine wA ?_|(refine wB ?_ ?_<;>intro h<;>first|exact wN h|subst (h:(_:Bool)=_)|skip)|(refine wQ ?_;clear hQ hR hE hM)|refine wC c4 ?_|refine wC c5 ?_|fail);all_goals clear hX)
   all_goals first|rfl|(exfalso;contradiction)|(exfalso;omega)
 ·rw[if_neg hsg]
  rcases key with h9|⟨j,hj,h9⟩
  ·rw[e1 h9]
   rw[h9]at c7;clear e1 e2;rcases hrt with h|⟨i,hi,h1,h2,h2'⟩
   ·refine wf hH cd402 fun w0 M Q hM hE hQ hR=>?_;refine wq ?_
    (have hX:=@x0;(repeat' first|refine zaa kb fun K hK=>?_|exact wt|refine wA ?_|(refine wB ?_ ?_<;>intro h<;>first|exact wN h|subst (h:(_:Bool)=_)|skip)|(refine wQ ?_;clear hQ hR hE hM)|refine wC c4 ?_|refine wC c7 ?_|fail);all_goals clear hX)
    all_goals first|rfl|(exfalso;contradiction)|(exfalso;omega)
   ·rw[h1]at c5
    refine wf hH cd402 fun w0 M Q hM hE hQ hR=>?_;refine wq ?_
    (have hX:=@x0;(repeat' first|refine zaa kb fun K hK=>?_|exact wt|refine wA ?_|(refine wB ?_ ?_<;>intro h<;>first|exact wN h|subst (h:(_:Bool)=_)|skip)|(refine wQ ?_;clear hQ hR hE hM)|refine wC c4 ?_|refine wC c5 ?_|refine wC c7 ?_|fail);all_goals clear hX)
    all_goals first|rfl|(exfalso;contradiction)|(exfalso;omega)
  ·rw[e2 j hj h9]
   rw[h9]at c7;clear e1 e2;rcases hrt with h|⟨i,hi,h1,h2,h2'⟩
   ·refine wf hH cd402 fun w0 M Q hM hE hQ hR=>?_;refine wq ?_
    (have hX:=@x0;(repeat' first|refine zaa kb fun K hK=>?_|exact wt|refine wA ?_|(refine wB ?_ ?_<;>intro h<;>first|exact wN h|subst (h:(_:Bool)=_)|skip)|(refine wQ ?_;clear hQ hR hE hM)|refine wC c4 ?_|refine wC c7 ?_|fail);all_goals clear hX)
    all_goals first|rfl|(exfalso;contradiction)|(exfalso;omega)
   ·rw[h1]at c5
    refine wf hH cd402 fun w0 M Q hM hE hQ hR=>?_;refine wq ?_
    (have hX:=@x0;(repeat' first|refine zaa kb fun K hK=>?_|exact wt|refine wA ?_|(refine wB ?_ ?_<;>intro h<;>first|exact wN h|subst (h:(_:Bool)=_)|skip)|(refine wQ ?_;clear hQ hR hE hM)|refine wC c4 ?_|refine wC c5 ?_|refine wC c7 ?_|fail);all_goals clear hX)
    all_goals first|rfl|(exfalso;contradiction)|(exfalso;omega)
theorem on31_ref (hH:HasAll P inv) (p:Pln) (hp:Sm p) (s:State) (hs:SmS s) (hst:zav p s=0) (t:TrainD) (ht:TrOk p s t):PC P inv 402 [.agg p.c,.agg s.c,.agg t.c] (·=.tup [.n (goT p s t).1,.n (goT p s t).2.1,.b (goT p s t).2.2]):=by
 by_cases hw:(ofW p t.rt).2=0/\t.pl<((ofW p t.rt).1.path.length:Int)-1
 ·have hpl9:=zku hst
  rcases zjr hpl9 t.rt with ⟨_,_,h3⟩|⟨i,hi,h3,h4,_,_⟩
  ·exact absurd hw.1 h3
  ·obtain ⟨h6,h7⟩:=zpT hst hi h4
   have c5:=zeG hH p.routes (Nat.le_trans hp.rte (by omega)) t.rt
   have hid:1<=t.rt:=by rw[<-h4];exact (zf8 (zar hst) (zac hi)).1
   rw[h3]at c5;have h8:t.pl<((nth p.routes i).path.length:Int)-1:=by rw[<-h7];have:=hw.2;rw[h6]at this;exact this
   rw[goT_if,if_pos hw];have ho:=zar hst;have h2':=((zke ho.sec ((zdT ho.sec).1 ho.sgn) _).1 (ho.rte _ (zac hi))).lens.2.1;have hp0:0<=t.pl:=by
    rcases ht.rt with h|h
    ·exact h.2.1
    ·omega
   clear hst hw ht h6 ho;refine wf hH cd402 fun w0 M Q hM hE hQ hR=>?_;refine wq ?_
   (repeat' first|refine zaa kb fun K hK=>?_|exact wt|refine wA ?_|(refine wB ?_ ?_<;>intro h<;>first|exact wN h|subst (h:(_:Bool)=_)|skip)|(refine wQ ?_;clear hQ hR hE hM)|refine wC c5 ?_|fail)
   all_goals first|rfl|(exfalso;contradiction)|(exfalso;omega)
 ·exact zqU hH p hp s hs hst t ht hw
end Go.Lev
