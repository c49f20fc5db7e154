/-
  Contracts of functions. Conditions: those that each theorem names.
-/
import Derived.Test.YtjfongdncghjmaaGreatL14
import Derived.Test.YtjfongdncghjmaaGreatL15
import Derived.Test.YtjfongdncghjmaaGreatL17
set_option linter.unusedSimpArgs false
set_option linter.unusedVariables false
set_option linter.unusedSectionVars false
namespace Go.Lev
open Go.Eng
set_option maxRecDepth 10000
set_option maxHeartbeats 4000000
variable {P:Program} {inv:Nat->Option Nat} {w0:World} {M:Nat->Prop}
def zmy (p:Pln) (s:State):Bool:=decide (zav p s=0)
theorem znJ {p:Pln} {s:State} (h:¬(zbk p=true/\zan p s=true)):zmy p s=false:=by
 unfold zmy;rw[decide_eq_false_iff_not];intro e;have:=zam e;exact h ⟨this.1,this.2.1⟩
theorem pth_len {p:Pln} (h:zbk p=true) (i:Nat) (hi:i<p.routes.length):(nth p.routes i).path.length<=1000000:=by
 have:=(zeP (zbc h).1 (zac hi)).2.1;omega
theorem zq7 (hH:HasAll P inv) (p:Pln) (hp:Sm p) (s:State) (hs:SmS s):PC P inv 299 [.agg p.c,.agg s.c] (·=.b (zmy p s)):=by
 have c1:=zlL hH p hp;by_cases ho:zbk p=true
 ·have c2:=zqO hH p hp s hs (pth_len ho)
  by_cases hpa:zan p s=true
  ·have hok:=(zbc ho).1
   have hpl:=zaC hpa;have hl3:=hs.2.2;have hl2:=hs.2.1;have hl1:=hp.pts;obtain ⟨X,hF⟩:∃ X,mayF s (zd3 p s) (zgD p s)=X:=⟨_,rfl⟩;unfold zmy;rw[<-mayF_eq ho hpa,hF];have cH:∀ i,i<s.locks.length->PC P inv 302 [.agg p.c,.agg (nth s.locks i).c,.n i] (·=.sl 1 ((zd3 p s i).map zaJ))/\(zd3 p s i).length<=1000000/\∀ m∈zd3 p s i,0<=m/\m<=99:=fun i hi=>by
    have hm:i<p.routes.length:=by omega
    have hwl:=zcn hok (zac hm);refine ⟨zoi hH p hp ho hm (nth s.locks i), ?_,fun m hm2=>?_⟩
    ·unfold zd3 zb7
     split
     ·simp
     ·rw[List.length_append,List.length_drop];omega
    ·have hwp:=zcz ((zbc ho).2.1 _ (zac hm))
     have h1:m∈(nth p.routes i).path++(nth p.routes i).over:=by
      unfold zd3 zb7 at hm2;split at hm2
      ·cases hm2
      ·rw[hwp.1,hwp.2.1]at hm2
       rcases List.mem_append.1 hm2 with h|h
       ·exact List.mem_append.2 (.inl (List.mem_of_mem_drop h))
       ·exact List.mem_append.2 (.inr h)
     obtain ⟨q,hq,e⟩:=(zed hok (zac hm)).1 m h1;have:=zeE hok hq;omega
   have cA:∀ i,i<s.locks.length->PC P inv 303 [.agg p.c,.agg (nth s.locks i).c,.n i] (·=.sl 3 ((zgD p s i).map AskR.c))/\(zgD p s i).length<=1000000/\∀ a∈zgD p s i,(1<=a.pnt/\a.pnt<=99)/\∃ q:Nat,q<p.points.length/\q<s.switches.length/\PC P inv 294 [.agg p.c,.n a.pnt] (·=.n q)/\(nth s.switches q).call=zdq s a.pnt:=fun i hi=>by
    have hm:i<p.routes.length:=by omega
    have hwl:=zcn hok (zac hm);have hsub:∀ a∈zgD p s i,a∈(zao p (nth p.routes i)).1.asks:=fun a ha=>by
     unfold zgD at ha;have:=(List.mem_filter.1 ha).1;unfold zcK at this;split at this
     ·cases this
     ·exact this
    refine ⟨asks_ref hH p hp ho hm (nth s.locks i), ?_,fun a ha=>?_⟩
    ·unfold zgD zcK
     split
     ·simp
     ·have:=List.length_filter_le (zdv (nth s.locks i)) (zao p (nth p.routes i)).1.asks
      omega
    ·obtain ⟨⟨x,hx,ex⟩,h2,_⟩:=zdF hok (zac hm) (hsub a ha)
     refine ⟨h2, ?_⟩;have c3:=zn1 hH p (by omega) a.pnt
     rcases zcb Pnt.id a.pnt p.points with ⟨_,h4⟩|⟨q,hq,h4,h5⟩
     ·exact absurd ex (h4 x hx)
     ·rw[h4]at c3
      refine ⟨q,hq,by omega,c3, ?_⟩
      have hsw:=zj0 hpa (show q<s.switches.length by omega)
      rw[<-h5,<-hsw];exact (zmd hok hpa (zac (by omega))).symm
   rw[ho]at c1;rw[hpa]at c2;unfold mayF at hF;obtain ⟨HH,hHH⟩:∃ HH,List.replicate 100 false=HH:=⟨_,rfl⟩;obtain ⟨AA,hAA⟩:∃ AA,List.replicate 100 (0:Int)=AA:=⟨_,rfl⟩;rw[hHH,hAA]at hF;have r0:List.replicate 100 (AV.b false)=HH.map AV.b:=by rw[<-hHH,List.map_replicate]
   have r1:List.replicate 100 (AV.i .i64 0)=AA.map AV.n:=by rw[<-hAA,List.map_replicate]
   have lHH:HH.length=100:=by rw[<-hHH,List.length_replicate]
   have lAA:AA.length=100:=by rw[<-hAA,List.length_replicate]
   clear hHH hAA;generalize zd3 p s=hd at *;generalize zgD p s=as at *;clear hpl hok hpa ho;refine wf hH cd299 fun w0 M Q hM hE hQ hR=>?_;refine wq ?_
   skip
   (have hX:=zA @r0 (zA @r1 (zA @lHH @lAA));(repeat' first|refine zaa kK fun K hK=>?_|exact wt|refine wA ?_|(refine wE ?_ ?_<;>intro h0 h<;>first|exact wN h|((try replace hF:=wX hF);clear h0;first|exact hF.elim|((try subst (h:(_:Bool)=_));try replace hF:=wX hF)))|(refine wQ ?_;clear hQ hR hE hM)|refine wC c1 ?_|refine wC c2 ?_|fail);all_goals clear hX)
   all_goals first|(exfalso;contradiction)|skip
   refine zaI hF fun Bd Ed hBd hEd hF=>?_
   refine zaj (ι:=Nat×(List Bool)×(List Int)) [2,3,4,5,6,7] (fun z=>[(7,.n z.1)]) (fun z=>[(2,.cells (z.2.1.map AV.b) true),(3,.cells (z.2.2.map AV.n) true)]) (fun z=>z.1) (s.locks.length) (fun z=>(zaZ Bd Ed (s.locks.length-z.1) z.1 (z.2.1,z.2.2)=X)/\(z.2.1.length=100)/\(z.2.2.length=100)) (0,HH,AA) ?_;rintro ⟨i,H,A⟩ ⟨hk,hF,hHl,hAl⟩;(try dsimp only at hk hF hHl hAl |-);rcases Nat.lt_or_ge i s.locks.length with hlt|hge
   ·rw[zas hBd hlt]at hF;(try dsimp only at hF)
    obtain ⟨d1,dl1,dr1⟩:=cH i hlt;obtain ⟨d2,dl2,dr2⟩:=cA i hlt;generalize hd i=hls at *;generalize as i=als at *;(have hX:=zA @hHl @hAl;(repeat' first|refine zaa kK fun K hK=>?_|exact wt|refine wA ?_|(refine wE ?_ ?_<;>intro h0 h<;>first|exact wN h|((try replace hF:=wX hF);clear h0;first|exact hF.elim|((try subst (h:(_:Bool)=_));try replace hF:=wX hF)))|(refine wQ ?_;clear hQ hR hE hM)|refine wC d1 ?_|fail);all_goals clear hX)
    refine zaI hF fun Bd Ed hBd hEd hF=>?_
    refine zaj (ι:=Nat×(List Bool)) [2,3,4,5,6,7,8,9] (fun z=>[(9,.n z.1)]) (fun z=>[(2,.cells (z.2.map AV.b) true)]) (fun z=>z.1) (hls.length) (fun z=>(zaZ Bd Ed (hls.length-z.1) z.1 z.2=X)/\(z.2.length=100)) (0,H) ?_;rintro ⟨k,H⟩ ⟨hk,hF,hHl⟩;(try dsimp only at hk hF hHl |-);rcases Nat.lt_or_ge k hls.length with hlt|hge
    ·rw[zas hBd hlt]at hF;(try dsimp only at hF)
     have hb:=dr1 _ (zac (show k<hls.length by assumption))
     have hset:(H.map AV.b).set (nth hls k).toNat (.b true)=(H.set (nth hls k).toNat true).map AV.b:=by rw[List.map_set]
     cases hbk:nth H (nth hls k).toNat with
     |true =>
      rw[hbk,cond_true]at hF;(have hX:=zA @hHl (zA @hAl @hbk);(repeat' first|refine zaa kK fun K hK=>?_|exact wt|refine wA ?_|(refine wE ?_ ?_<;>intro h0 h<;>first|exact wN h|((try replace hF:=wX hF);clear h0;first|exact hF.elim|((try subst (h:(_:Bool)=_));try replace hF:=wX hF)))|(refine wQ ?_;clear hQ hR hE hM)|fail);all_goals clear hX)
      all_goals first|exact hF|(exfalso;contradiction)|exact congrArg AV.b hF
     |false =>
      rw[hbk,cond_false]at hF;(have hX:=zA @hHl (zA @hAl (zA @hbk @hset));(repeat' first|refine zaa kK fun K hK=>?_|exact wt|refine wA ?_|(refine wE ?_ ?_<;>intro h0 h<;>first|exact wN h|((try replace hF:=wX hF);clear h0;first|exact hF.elim|((try subst (h:(_:Bool)=_));try replace hF:=wX hF)))|(refine wQ ?_;clear hQ hR hE hM)|fail);all_goals clear hX)
      all_goals first|(exfalso;contradiction)|(exact nY (k+1,H.set (nth hls k).toNat true) ⟨by (try dsimp only);omega,hF,by (try dsimp only);rw[List.length_set];exact hHl⟩;done)
    ·rw[zaH hge,hEd]at hF;(try dsimp only at hF)
     (have hX:=zA @hHl @hAl;(repeat' first|refine zaa kK fun K hK=>?_|exact wt|refine wA ?_|(refine wE ?_ ?_<;>intro h0 h<;>first|exact wN h|((try replace hF:=wX hF);clear h0;first|exact hF.elim|((try subst (h:(_:Bool)=_));try replace hF:=wX hF)))|(refine wQ ?_;clear hQ hR hE hM)|refine wC d2 ?_|fail);all_goals clear hX)
     refine zaI hF fun Bd Ed hBd hEd hF=>?_
     refine zaj (ι:=Nat×(List Int)) [2,3,4,5,6,7,10,11] (fun z=>[(11,.n z.1)]) (fun z=>[(3,.cells (z.2.map AV.n) true)]) (fun z=>z.1) (als.length) (fun z=>(zaZ Bd Ed (als.length-z.1) z.1 z.2=X)/\(z.2.length=100)) (0,A) ?_;rintro ⟨q,A⟩ ⟨hk,hF,hAl⟩;(try dsimp only at hk hF hAl |-);rcases Nat.lt_or_ge q als.length with hlt|hge
     ·rw[zas hBd hlt]at hF;(try dsimp only at hF)
      obtain ⟨hb,pl,hpl1,hpl2,d3,e3⟩:=dr2 _ (zac (show q<als.length by assumption))
      rw[<-e3]at hF;have hset:(A.map AV.n).set (nth als q).pnt.toNat (.n (nth als q).lie)=(A.set (nth als q).pnt.toNat (nth als q).lie).map AV.n:=by rw[List.map_set]
      clear e3;(have hX:=zA @hHl (zA @hAl (zA @hset @Int.toNat_natCast));(repeat' first|refine zaa kK fun K hK=>?_|exact wt|refine wA ?_|(refine wE ?_ ?_<;>intro h0 h<;>first|exact wN h|((try replace hF:=wX hF);clear h0;first|exact hF.elim|((try subst (h:(_:Bool)=_));try replace hF:=wX hF)))|(refine wQ ?_;clear hQ hR hE hM)|refine wC d3 ?_|refine wU d3 ?_|fail);all_goals clear hX)
      all_goals first|exact hF|(exfalso;contradiction)|exact congrArg AV.b hF|(exact nY (q+1,A.set (nth als q).pnt.toNat (nth als q).lie) ⟨by (try dsimp only);omega,hF,by (try dsimp only);rw[List.length_set];exact hAl⟩;done)
     ·rw[zaH hge,hEd]at hF;(try dsimp only at hF)
      (have hX:=zA @hHl @hAl;(repeat' first|refine zaa kK fun K hK=>?_|exact wt|refine wA ?_|(refine wE ?_ ?_<;>intro h0 h<;>first|exact wN h|((try replace hF:=wX hF);clear h0;first|exact hF.elim|((try subst (h:(_:Bool)=_));try replace hF:=wX hF)))|(refine wQ ?_;clear hQ hR hE hM)|fail);all_goals clear hX)
      all_goals first|(exact nY (i+1,H,A) ⟨by (try dsimp only);omega,hF,hHl,hAl⟩;done)
   ·rw[zaH hge,hEd]at hF;(try dsimp only at hF)
    (repeat' first|refine zaa kK fun K hK=>?_|exact wt|refine wA ?_|(refine wE ?_ ?_<;>intro h0 h<;>first|exact wN h|((try replace hF:=wX hF);clear h0;first|exact hF.elim|((try subst (h:(_:Bool)=_));try replace hF:=wX hF)))|(refine wQ ?_;clear hQ hR hE hM)|fail)
    all_goals first|exact hF|exact congrArg AV.b hF
  ·have hpa2:zan p s=false:=by simpa using hpa
   rw[ho]at c1;rw[hpa2]at c2;rw[znJ fun h=>hpa h.2]
   refine wf hH cd299 fun w0 M Q hM hE hQ hR=>?_;refine wq ?_
   (repeat' first|refine zaa kK fun K hK=>?_|exact wt|refine wA ?_|(refine wB ?_ ?_<;>intro h<;>first|exact wN h|subst (h:(_:Bool)=_)|skip)|(refine wQ ?_;clear hQ hR hE hM)|refine wC c1 ?_|refine wC c2 ?_|fail)
   all_goals first|rfl|(exfalso;contradiction)
 ·have ho2:zbk p=false:=by simpa using ho
  rw[ho2]at c1;rw[znJ fun h=>ho h.1]
  refine wf hH cd299 fun w0 M Q hM hE hQ hR=>?_;refine wq ?_
  (repeat' first|refine zaa kK fun K hK=>?_|exact wt|refine wA ?_|(refine wB ?_ ?_<;>intro h<;>first|exact wN h|subst (h:(_:Bool)=_)|skip)|(refine wQ ?_;clear hQ hR hE hM)|refine wC c1 ?_|fail)
  all_goals first|rfl|(exfalso;contradiction)
theorem znm (hH:HasAll P inv) (p:Pln) (hp:Sm p) (s:State) (hs:SmS s):PC P inv 292 [.agg p.c,.agg s.c] (·=.n (zav p s)):=by
 have c1:=zlL hH p hp;have c2:=zq7 hH p hp s hs;have key:zav p s=if zbk p=true then (if zmy p s=true then 0 else 8) else 100:=by
  unfold zmy zav;split
  ·split
   ·rfl
   ·rfl
  ·rfl
 rw[key];generalize zbk p=a at *;generalize zmy p s=b at *;clear key;cases a with
 |true =>
  cases b with
  |true =>
   refine wf hH cd292 fun w0 M Q hM hE hQ hR=>?_;refine wq ?_
   (repeat' first|refine zaa ye fun K hK=>?_|exact wt|refine wA ?_|(refine wB ?_ ?_<;>intro h<;>first|exact wN h|subst (h:(_:Bool)=_)|skip)|(refine wQ ?_;clear hQ hR hE hM)|refine wC c1 ?_|refine wC c2 ?_|fail)
   all_goals first|rfl|(exfalso;contradiction)
  |false =>
   refine wf hH cd292 fun w0 M Q hM hE hQ hR=>?_;refine wq ?_
   (repeat' first|refine zaa ye fun K hK=>?_|exact wt|refine wA ?_|(refine wB ?_ ?_<;>intro h<;>first|exact wN h|subst (h:(_:Bool)=_)|skip)|(refine wQ ?_;clear hQ hR hE hM)|refine wC c1 ?_|refine wC c2 ?_|fail)
   all_goals first|rfl|(exfalso;contradiction)
 |false =>
  refine wf hH cd292 fun w0 M Q hM hE hQ hR=>?_;refine wq ?_
  (repeat' first|refine zaa ye fun K hK=>?_|exact wt|refine wA ?_|(refine wB ?_ ?_<;>intro h<;>first|exact wN h|subst (h:(_:Bool)=_)|skip)|(refine wQ ?_;clear hQ hR hE hM)|refine wC c1 ?_|fail)
  all_goals first|rfl|(exfalso;contradiction)
theorem hd_ref (hH:HasAll P inv) {p:Pln} (hp:Sm p) {s:State} (hst:zav p s=0):∀ i,i<s.locks.length->PC P inv 302 [.agg p.c,.agg (nth s.locks i).c,.n i] (·=.sl 1 ((zd3 p s i).map zaJ))/\(zd3 p s i).length<=1000000:=fun i hi=>by
 have ho:=(zam hst).1;have hpl:=zaC (zam hst).2.1;have hm:i<p.routes.length:=by omega
 have hwl:=zcn (zbc ho).1 (zac hm);refine ⟨zoi hH p hp ho hm (nth s.locks i), ?_⟩;unfold zd3 zb7;split
 ·simp
 ·rw[List.length_append,List.length_drop];omega
def ofF (s:State) (hd:Nat->List Int) (n:Int):Int :=
 zaZ (fun i _ za0=>zaZ (fun k _ next2=>cond (decide (nth (hd i) k=n)) (nth s.locks i).id (next2 ())) (fun _=>za0 ()) (hd i).length 0 ()) (fun _=>0) s.locks.length 0 ()
theorem ofF_eq {p:Pln} {s:State} (hst:zav p s=0) {n:Int} (hn:0<=n):ofF s (zd3 p s) n=nth (zbz p s).1 n.toNat:=by
 unfold ofF;refine zaE (·=nth (zbz p s).1 n.toNat) (fun i _=>∀ j,j<i->n∉zd3 p s j) (fun j hj=>by omega) ?_ ?_
 ·intro i _ za0 hi hI hnx
  refine zaE (·=nth (zbz p s).1 n.toNat) (fun k _=>∀ q,q<k->¬nth (zd3 p s i) q=n) (fun q hq=>by omega) ?_ ?_
  ·intro k _ next2 hk hK hn2
   by_cases e:nth (zd3 p s i) k=n
   ·rw[decide_eq_true e,cond_true]
    exact ((hold_iff hst hi hn).2 (by rw[<-e];exact zac hk)).symm
   ·rw[decide_eq_false e,cond_false]
    refine hn2 () fun q hq=>?_
    rcases Nat.lt_or_ge q k with h|h
    ·exact hK q h
    ·obtain rfl:q=k:=by omega
     exact e
  ·intro _ hK
   refine hnx () fun j hj hm=>?_
   rcases Nat.lt_or_ge j i with h|h
   ·exact hI j h hm
   ·obtain rfl:j=i:=by omega
    obtain ⟨q,hq,e⟩:=zbN hm;exact hK q hq e
 ·intro _ hI
  rcases zjz hst hn with ⟨z,hz,hm,_⟩|⟨_,e⟩
  ·obtain ⟨j,hj,rfl⟩:=zk8 hst hz
   exact absurd hm (hI j hj)
  ·exact e.symm
theorem of15_ref (hH:HasAll P inv) (p:Pln) (hp:Sm p) (s:State) (hs:SmS s) (hst:zav p s=0) (n:Int) (hn:0<=n):PC P inv 296 [.agg p.c,.agg s.c,.n n] (·=.n (nth (zbz p s).1 n.toNat)):=by
 have cH:=hd_ref hH hp hst;have hl3:=hs.2.2;obtain ⟨X,hF⟩:∃ X,ofF s (zd3 p s) n=X:=⟨_,rfl⟩;rw[<-ofF_eq hst hn,hF];unfold ofF at hF;generalize zd3 p s=hd at *;clear hst;refine wf hH cd296 fun w0 M Q hM hE hQ hR=>?_;refine wq ?_
 skip
 (repeat' first|refine zaa yD fun K hK=>?_|exact wt|refine wA ?_|(refine wE ?_ ?_<;>intro h0 h<;>first|exact wN h|((try replace hF:=wX hF);clear h0;first|exact hF.elim|((try subst (h:(_:Bool)=_));try replace hF:=wX hF)))|(refine wQ ?_;clear hQ hR hE hM)|fail)
 refine zaI hF fun Bd Ed hBd hEd hF=>?_;refine zaj (ι:=Nat) [2,3,4,6,7] (fun z=>[(7,.n z)]) (fun _=>[]) (fun z=>z) (s.locks.length) (fun z=>(zaZ Bd Ed (s.locks.length-z) z ()=X)) (0) ?_;rintro i ⟨hk,hF⟩;(try dsimp only at hk hF |-);rcases Nat.lt_or_ge i s.locks.length with hlt|hge
 ·rw[zas hBd hlt]at hF;(try dsimp only at hF)
  obtain ⟨d1,dl1⟩:=cH i hlt;generalize hd i=hls at *
  (repeat' first|refine zaa yD fun K hK=>?_|exact wt|refine wA ?_|(refine wE ?_ ?_<;>intro h0 h<;>first|exact wN h|((try replace hF:=wX hF);clear h0;first|exact hF.elim|((try subst (h:(_:Bool)=_));try replace hF:=wX hF)))|(refine wQ ?_;clear hQ hR hE hM)|refine wC d1 ?_|fail)
  refine zaI hF fun Bd Ed hBd hEd hF=>?_;refine zaj (ι:=Nat) [2,3,4,6,7,8,9] (fun z=>[(9,.n z)]) (fun _=>[]) (fun z=>z) (hls.length) (fun z=>(zaZ Bd Ed (hls.length-z) z ()=X)) (0) ?_;rintro k ⟨hk,hF⟩;(try dsimp only at hk hF |-);rcases Nat.lt_or_ge k hls.length with hlt|hge
  ·rw[zas hBd hlt]at hF;(try dsimp only at hF)
   (repeat' first|refine zaa yD fun K hK=>?_|exact wt|refine wA ?_|(refine wE ?_ ?_<;>intro h0 h<;>first|exact wN h|((try replace hF:=wX hF);clear h0;first|exact hF.elim|((try subst (h:(_:Bool)=_));try replace hF:=wX hF)))|(refine wQ ?_;clear hQ hR hE hM)|fail)
   all_goals first|exact hF|(exfalso;contradiction)|exact congrArg AV.n hF|exact nX (k+1)
  ·rw[zaH hge,hEd]at hF;(try dsimp only at hF)
   (repeat' first|refine zaa yD fun K hK=>?_|exact wt|refine wA ?_|(refine wE ?_ ?_<;>intro h0 h<;>first|exact wN h|((try replace hF:=wX hF);clear h0;first|exact hF.elim|((try subst (h:(_:Bool)=_));try replace hF:=wX hF)))|(refine wQ ?_;clear hQ hR hE hM)|fail)
   all_goals exact nX (i+1)
 ·rw[zaH hge,hEd]at hF;(try dsimp only at hF)
  (repeat' first|refine zaa yD fun K hK=>?_|exact wt|refine wA ?_|(refine wE ?_ ?_<;>intro h0 h<;>first|exact wN h|((try replace hF:=wX hF);clear h0;first|exact hF.elim|((try subst (h:(_:Bool)=_));try replace hF:=wX hF)))|(refine wQ ?_;clear hQ hR hE hM)|fail)
  all_goals first|exact hF|exact congrArg AV.n hF
end Go.Lev
