/-
  A part of the engine that walks the functions' codes, and of the functions' contracts. Conditions: those that each theorem names.
-/
import Derived.Test.YthjfjbajmhkbbaaGreatL7
import Derived.IntWalk
set_option linter.unusedSimpArgs false
set_option linter.unusedVariables false
set_option linter.unusedSectionVars false
namespace Go.Lev
open Go.Eng
set_option maxRecDepth 10000
set_option maxHeartbeats 4000000
variable {P:Program} {inv:Nat→Option Nat} {w0:World} {M:Nat→Prop}
def zlx (p:Pln) (s:State):Bool:=decide (zag p s=0)
theorem zmq {p:Pln} {s:State} (h:¬(za5 p=true∧zak p s=true)):zlx p s=false:=by
 unfold zlx
 rw[decide_eq_false_iff_not]
 intro e
 have:=zad e
 exact h ⟨this.1,this.2.1⟩
theorem pth_len {p:Pln} (h:za5 p=true) (i:Nat) (hi:i<p.routes.length):(nth p.routes i).path.length≤1000000:=by
 have:=(ze2 (zaS h).1 (zab hi)).2.1
 omega
theorem zpu (hH:HasAll P inv) (p:Pln) (hp:Sm p) (s:State) (hs:SmS s):PC P inv 299 [.agg p.c,.agg s.c] (·=.b (zlx p s)):=by
 have c1:=zhO hH p hp
 by_cases ho:za5 p=true
 ·have c2:=zpb hH p hp s hs (pth_len ho)
  by_cases hpa:zak p s=true
  ·have hok:=(zaS ho).1
   have hpl:=zap hpa
   have hl3:=hs.2.2
   have hl2:=hs.2.1
   have hl1:=hp.pts
   obtain ⟨X,hF⟩:∃ X,mayF s (zc3 p s) (zc9 p s)=X:=⟨_,rfl⟩
   unfold zlx
   rw[←mayF_eq ho hpa,hF]
   have cH:∀ i,i<s.locks.length→PC P inv 302 [.agg p.c,.agg (nth s.locks i).c,.n i] (·=.sl 1 ((zc3 p s i).map zcQ))∧(zc3 p s i).length≤1000000∧∀ m∈zc3 p s i,0≤m∧m≤99:=fun i hi=>by
    have hm:i<p.routes.length:=by omega
    have hwl:=zbC hok (zab hm)
    refine ⟨zm0 hH p hp ho hm (nth s.locks i), ?_,fun m hm2=>?_⟩
    ·unfold zc3 zbK
     split
     ·simp
     ·rw[List.length_append,List.length_drop];omega
    ·have hwp:=zbT ((zaS ho).2.1 _ (zab hm))
     have h1:m∈(nth p.routes i).path++(nth p.routes i).over:=by
      unfold zc3 zbK at hm2
      split at hm2
      ·cases hm2
      ·rw[hwp.1,hwp.2.1]at hm2
       rcases List.mem_append.1 hm2 with h|h
       ·exact List.mem_append.2 (.inl (List.mem_of_mem_drop h))
       ·exact List.mem_append.2 (.inr h)
     obtain ⟨q,hq,e⟩:=(zcW hok (zab hm)).1 m h1
     have:=zcc hok hq
     omega
   have cA:∀ i,i<s.locks.length→PC P inv 303 [.agg p.c,.agg (nth s.locks i).c,.n i] (·=.sl 3 ((zc9 p s i).map AskR.c))∧(zc9 p s i).length≤1000000∧∀ a∈zc9 p s i,(1≤a.pnt∧a.pnt≤99)∧∃ q:Nat,q<p.points.length∧q<s.switches.length∧PC P inv 294 [.agg p.c,.n a.pnt] (·=.n q)∧(nth s.switches q).call=zbh s a.pnt:=fun i hi=>by
    have hm:i<p.routes.length:=by omega
    have hwl:=zbC hok (zab hm)
    have hsub:∀ a∈zc9 p s i,a∈(zai p (nth p.routes i)).1.asks:=fun a ha=>by
     unfold zc9 at ha
     have:=(List.mem_filter.1 ha).1
     unfold zbZ at this
     split at this
     ·cases this
     ·exact this
    refine ⟨znh hH p hp ho hm (nth s.locks i), ?_,fun a ha=>?_⟩
    ·unfold zc9 zbZ
     split
     ·simp
     ·have:=List.length_filter_le (zcV (nth s.locks i)) (zai p (nth p.routes i)).1.asks
      omega
    ·obtain ⟨⟨x,hx,ex⟩,h2,_⟩:=zbI hok (zab hm) (hsub a ha)
     refine ⟨h2, ?_⟩
     have c3:=zdO hH p (by omega) a.pnt
     rcases zav Pnt.id a.pnt p.points with ⟨_,h4⟩|⟨q,hq,h4,h5⟩
     ·exact absurd ex (h4 x hx)
     ·rw[h4]at c3
      refine ⟨q,hq,by omega,c3, ?_⟩
      have hsw:=zjk hpa (show q<s.switches.length by omega)
      rw[←h5,←hsw]
      exact (zii hok hpa (zab (by omega))).symm
   rw[ho]at c1
   rw[hpa]at c2
   unfold mayF at hF
   obtain ⟨HH,hHH⟩:∃ HH,List.replicate 100 false=HH:=⟨_,rfl⟩
   obtain ⟨AA,hAA⟩:∃ AA,List.replicate 100 (0:Int)=AA:=⟨_,rfl⟩
   rw[hHH,hAA]at hF
   have r0:List.replicate 100 (AV.b false)=HH.map AV.b:=by rw[←hHH,List.map_replicate]
   have r1:List.replicate 100 (AV.i .i64 0)=AA.map AV.n:=by rw[←hAA,List.map_replicate]
   have lHH:HH.length=100:=by rw[←hHH,List.length_replicate]
   have lAA:AA.length=100:=by rw[←hAA,List.length_replicate]
   clear hHH hAA
   generalize zc3 p s=hd at *
   generalize zc9 p s=as at *
   clear hpl hok hpa ho
   refine PC.fn hH cd299 fun w0 M Q hM hE hQ hR=>?_;dsimp only[cd299,qm,ql,qf,qi,qb,qc,qp,qv,qN,qT,qF,qt]at hQ ⊢
   skip
   (have hX:=zA @r0 (zA @r1 (zA @lHH @lAA));(repeat' first|refine zaa [0,1,2,3,4,5,6,7,8,9,10,11,12,21,26,36,40,48,61,65,99] fun K hK=>?_|(refine hK.go ?_;clear hK K)|with_reducible exact wT|refine wA ?_|(refine wE (fun h0 h=>?_) (fun h0 h=>?_)<;>first|exact wN h|((try replace hF:=wX hF);clear h0;first|exact hF.elim|((try subst (h:(_:Bool)=_));try replace hF:=wX hF)))|(refine wQ ?_;clear hQ hR hE hM)|refine wC c1 ?_|refine wC c2 ?_|fail);all_goals clear hX)
   all_goals first|(exfalso;contradiction)|skip
   refine zaP hF fun Bd Ed hBd hEd hF=>?_
   refine zae (ι:=Nat×(List Bool)×(List Int)) [2,3,4,5,6,7] (fun z=>[(7,.n z.1)]) (fun z=>[(2,.cells (z.2.1.map AV.b) true),(3,.cells (z.2.2.map AV.n) true)]) (fun z=>z.1) (s.locks.length) (fun z=>(zaT Bd Ed (s.locks.length-z.1) z.1 (z.2.1,z.2.2)=X)∧(z.2.1.length=100)∧(z.2.2.length=100)) (0,HH,AA) ?_;rintro ⟨i,H,A⟩ ⟨hk,hF,hHl,hAl⟩;(try dsimp only at hk hF hHl hAl ⊢);rcases Nat.lt_or_ge i s.locks.length with hlt|hge
   ·rw[zat hBd hlt]at hF;(try dsimp only at hF)
    obtain ⟨d1,dl1,dr1⟩:=cH i hlt
    obtain ⟨d2,dl2,dr2⟩:=cA i hlt
    generalize hd i=hls at *
    generalize as i=als at *
    (have hX:=zA @hHl @hAl;(repeat' first|refine zaa [0,1,2,3,4,5,6,7,8,9,10,11,12,21,26,36,40,48,61,65,99] fun K hK=>?_|(refine hK.go ?_;clear hK K)|with_reducible exact wT|refine wA ?_|(refine wE (fun h0 h=>?_) (fun h0 h=>?_)<;>first|exact wN h|((try replace hF:=wX hF);clear h0;first|exact hF.elim|((try subst (h:(_:Bool)=_));try replace hF:=wX hF)))|(refine wQ ?_;clear hQ hR hE hM)|refine wC d1 ?_|fail);all_goals clear hX)
    refine zaP hF fun Bd Ed hBd hEd hF=>?_
    refine zae (ι:=Nat×(List Bool)) [2,3,4,5,6,7,8,9] (fun z=>[(9,.n z.1)]) (fun z=>[(2,.cells (z.2.map AV.b) true)]) (fun z=>z.1) (hls.length) (fun z=>(zaT Bd Ed (hls.length-z.1) z.1 z.2=X)∧(z.2.length=100)) (0,H) ?_;rintro ⟨k,H⟩ ⟨hk,hF,hHl⟩;(try dsimp only at hk hF hHl ⊢);rcases Nat.lt_or_ge k hls.length with hlt|hge
    ·rw[zat hBd hlt]at hF;(try dsimp only at hF)
     have hb:=dr1 _ (zab (show k<hls.length by assumption))
     have hset:(H.map AV.b).set (nth hls k).toNat (.b true)=(H.set (nth hls k).toNat true).map AV.b:=by rw[List.map_set]
     cases hbk:nth H (nth hls k).toNat with
     |true =>
      rw[hbk,cond_true]at hF
      (have hX:=zA @hHl (zA @hAl @hbk);(repeat' first|refine zaa [0,1,2,3,4,5,6,7,8,9,10,11,12,21,26,36,40,48,61,65,99] fun K hK=>?_|(refine hK.go ?_;clear hK K)|with_reducible exact wT|refine wA ?_|(refine wE (fun h0 h=>?_) (fun h0 h=>?_)<;>first|exact wN h|((try replace hF:=wX hF);clear h0;first|exact hF.elim|((try subst (h:(_:Bool)=_));try replace hF:=wX hF)))|(refine wQ ?_;clear hQ hR hE hM)|fail);all_goals clear hX)
      all_goals first|exact hF|(exfalso;contradiction)|exact congrArg AV.b hF|trace_state
     |false =>
      rw[hbk,cond_false]at hF
      (have hX:=zA @hHl (zA @hAl (zA @hbk @hset));(repeat' first|refine zaa [0,1,2,3,4,5,6,7,8,9,10,11,12,21,26,36,40,48,61,65,99] fun K hK=>?_|(refine hK.go ?_;clear hK K)|with_reducible exact wT|refine wA ?_|(refine wE (fun h0 h=>?_) (fun h0 h=>?_)<;>first|exact wN h|((try replace hF:=wX hF);clear h0;first|exact hF.elim|((try subst (h:(_:Bool)=_));try replace hF:=wX hF)))|(refine wQ ?_;clear hQ hR hE hM)|fail);all_goals clear hX)
      all_goals first|(exfalso;contradiction)|(exact nY (k+1,H.set (nth hls k).toNat true) ⟨by (try dsimp only);omega,hF,by (try dsimp only);rw[List.length_set];exact hHl⟩;done)|trace_state
    ·rw[zaO hge,hEd]at hF;(try dsimp only at hF)
     (have hX:=zA @hHl @hAl;(repeat' first|refine zaa [0,1,2,3,4,5,6,7,8,9,10,11,12,21,26,36,40,48,61,65,99] fun K hK=>?_|(refine hK.go ?_;clear hK K)|with_reducible exact wT|refine wA ?_|(refine wE (fun h0 h=>?_) (fun h0 h=>?_)<;>first|exact wN h|((try replace hF:=wX hF);clear h0;first|exact hF.elim|((try subst (h:(_:Bool)=_));try replace hF:=wX hF)))|(refine wQ ?_;clear hQ hR hE hM)|refine wC d2 ?_|fail);all_goals clear hX)
     refine zaP hF fun Bd Ed hBd hEd hF=>?_
     refine zae (ι:=Nat×(List Int)) [2,3,4,5,6,7,10,11] (fun z=>[(11,.n z.1)]) (fun z=>[(3,.cells (z.2.map AV.n) true)]) (fun z=>z.1) (als.length) (fun z=>(zaT Bd Ed (als.length-z.1) z.1 z.2=X)∧(z.2.length=100)) (0,A) ?_;rintro ⟨q,A⟩ ⟨hk,hF,hAl⟩;(try dsimp only at hk hF hAl ⊢);rcases Nat.lt_or_ge q als.length with hlt|hge
     ·rw[zat hBd hlt]at hF;(try dsimp only at hF)
      obtain ⟨hb,pl,hpl1,hpl2,d3,e3⟩:=dr2 _ (zab (show q<als.length by assumption))
      rw[←e3]at hF
      have hset:(A.map AV.n).set (nth als q).pnt.toNat (.n (nth als q).lie)=(A.set (nth als q).pnt.toNat (nth als q).lie).map AV.n:=by rw[List.map_set]
      clear e3
      (have hX:=zA @hHl (zA @hAl (zA @hset @Int.toNat_natCast));(repeat' first|refine zaa [0,1,2,3,4,5,6,7,8,9,10,11,12,21,26,36,40,48,61,65,99] fun K hK=>?_|(refine hK.go ?_;clear hK K)|with_reducible exact wT|refine wA ?_|(refine wE (fun h0 h=>?_) (fun h0 h=>?_)<;>first|exact wN h|((try replace hF:=wX hF);clear h0;first|exact hF.elim|((try subst (h:(_:Bool)=_));try replace hF:=wX hF)))|(refine wQ ?_;clear hQ hR hE hM)|refine wC d3 ?_|refine wU d3 ?_|fail);all_goals clear hX)
      all_goals first|exact hF|(exfalso;contradiction)|exact congrArg AV.b hF|(exact nY (q+1,A.set (nth als q).pnt.toNat (nth als q).lie) ⟨by (try dsimp only);omega,hF,by (try dsimp only);rw[List.length_set];exact hAl⟩;done)|trace_state
     ·rw[zaO hge,hEd]at hF;(try dsimp only at hF)
      (have hX:=zA @hHl @hAl;(repeat' first|refine zaa [0,1,2,3,4,5,6,7,8,9,10,11,12,21,26,36,40,48,61,65,99] fun K hK=>?_|(refine hK.go ?_;clear hK K)|with_reducible exact wT|refine wA ?_|(refine wE (fun h0 h=>?_) (fun h0 h=>?_)<;>first|exact wN h|((try replace hF:=wX hF);clear h0;first|exact hF.elim|((try subst (h:(_:Bool)=_));try replace hF:=wX hF)))|(refine wQ ?_;clear hQ hR hE hM)|fail);all_goals clear hX)
      all_goals first|(exact nY (i+1,H,A) ⟨by (try dsimp only);omega,hF,hHl,hAl⟩;done)|trace_state
   ·rw[zaO hge,hEd]at hF;(try dsimp only at hF)
    (repeat' first|refine zaa [0,1,2,3,4,5,6,7,8,9,10,11,12,21,26,36,40,48,61,65,99] fun K hK=>?_|(refine hK.go ?_;clear hK K)|with_reducible exact wT|refine wA ?_|(refine wE (fun h0 h=>?_) (fun h0 h=>?_)<;>first|exact wN h|((try replace hF:=wX hF);clear h0;first|exact hF.elim|((try subst (h:(_:Bool)=_));try replace hF:=wX hF)))|(refine wQ ?_;clear hQ hR hE hM)|fail)
    all_goals first|exact hF|exact congrArg AV.b hF|trace_state
  ·have hpa2:zak p s=false:=by simpa using hpa
   rw[ho]at c1
   rw[hpa2]at c2
   rw[zmq fun h=>hpa h.2]
   refine PC.fn hH cd299 fun w0 M Q hM hE hQ hR=>?_;dsimp only[cd299,qm,ql,qf,qi,qb,qc,qp,qv,qN,qT,qF,qt]at hQ ⊢
   (repeat' first|refine zaa [0,1,2,3,4,5,6,7,8,9,10,11,12,21,26,36,40,48,61,65,99] fun K hK=>?_|(refine hK.go ?_;clear hK K)|with_reducible exact wT|refine wA ?_|(refine wB (fun h=>?_) (fun h=>?_)<;>first|exact wN h|subst (h:(_:Bool)=_)|skip)|(refine wQ ?_;clear hQ hR hE hM)|refine wC c1 ?_|refine wC c2 ?_|fail)
   all_goals first|rfl|(exfalso;contradiction)|trace_state
 ·have ho2:za5 p=false:=by simpa using ho
  rw[ho2]at c1
  rw[zmq fun h=>ho h.1]
  refine PC.fn hH cd299 fun w0 M Q hM hE hQ hR=>?_;dsimp only[cd299,qm,ql,qf,qi,qb,qc,qp,qv,qN,qT,qF,qt]at hQ ⊢
  (repeat' first|refine zaa [0,1,2,3,4,5,6,7,8,9,10,11,12,21,26,36,40,48,61,65,99] fun K hK=>?_|(refine hK.go ?_;clear hK K)|with_reducible exact wT|refine wA ?_|(refine wB (fun h=>?_) (fun h=>?_)<;>first|exact wN h|subst (h:(_:Bool)=_)|skip)|(refine wQ ?_;clear hQ hR hE hM)|refine wC c1 ?_|fail)
  all_goals first|rfl|(exfalso;contradiction)|trace_state
end Go.Lev
namespace Go.Lev
open Go.Eng
set_option maxRecDepth 10000
set_option maxHeartbeats 4000000
variable {P:Program} {inv:Nat→Option Nat} {w0:World} {M:Nat→Prop}
theorem zbw (hH:HasAll P inv) (p:Pln) (hp:Sm p) (s:State) (hs:SmS s):PC P inv 292 [.agg p.c,.agg s.c] (·=.n (zag p s)):=by
 have c1:=zhO hH p hp
 have c2:=zpu hH p hp s hs
 have key:zag p s=if za5 p=true then (if zlx p s=true then 0 else 8) else 100:=by
  unfold zlx zag
  split
  ·split
   ·rfl
   ·rfl
  ·rfl
 rw[key]
 generalize za5 p=a at *
 generalize zlx p s=b at *
 clear key
 cases a with
 |true =>
  cases b with
  |true =>
   refine PC.fn hH cd292 fun w0 M Q hM hE hQ hR=>?_;dsimp only[cd292,qm,ql,qf,qi,qb,qc,qp,qv,qN,qT,qF,qt]at hQ ⊢
   (repeat' first|refine zaa [0,1,2,3,4,7,11] fun K hK=>?_|(refine hK.go ?_;clear hK K)|with_reducible exact wT|refine wA ?_|(refine wB (fun h=>?_) (fun h=>?_)<;>first|exact wN h|subst (h:(_:Bool)=_)|skip)|(refine wQ ?_;clear hQ hR hE hM)|refine wC c1 ?_|refine wC c2 ?_|fail)
   all_goals first|rfl|(exfalso;contradiction)|trace_state
  |false =>
   refine PC.fn hH cd292 fun w0 M Q hM hE hQ hR=>?_;dsimp only[cd292,qm,ql,qf,qi,qb,qc,qp,qv,qN,qT,qF,qt]at hQ ⊢
   (repeat' first|refine zaa [0,1,2,3,4,7,11] fun K hK=>?_|(refine hK.go ?_;clear hK K)|with_reducible exact wT|refine wA ?_|(refine wB (fun h=>?_) (fun h=>?_)<;>first|exact wN h|subst (h:(_:Bool)=_)|skip)|(refine wQ ?_;clear hQ hR hE hM)|refine wC c1 ?_|refine wC c2 ?_|fail)
   all_goals first|rfl|(exfalso;contradiction)|trace_state
 |false =>
  refine PC.fn hH cd292 fun w0 M Q hM hE hQ hR=>?_;dsimp only[cd292,qm,ql,qf,qi,qb,qc,qp,qv,qN,qT,qF,qt]at hQ ⊢
  (repeat' first|refine zaa [0,1,2,3,4,7,11] fun K hK=>?_|(refine hK.go ?_;clear hK K)|with_reducible exact wT|refine wA ?_|(refine wB (fun h=>?_) (fun h=>?_)<;>first|exact wN h|subst (h:(_:Bool)=_)|skip)|(refine wQ ?_;clear hQ hR hE hM)|refine wC c1 ?_|fail)
  all_goals first|rfl|(exfalso;contradiction)|trace_state
theorem hd_ref (hH:HasAll P inv) {p:Pln} (hp:Sm p) {s:State} (hst:zag p s=0):∀ i,i<s.locks.length→PC P inv 302 [.agg p.c,.agg (nth s.locks i).c,.n i] (·=.sl 1 ((zc3 p s i).map zcQ))∧(zc3 p s i).length≤1000000:=fun i hi=>by
 have ho:=(zad hst).1
 have hpl:=zap (zad hst).2.1
 have hm:i<p.routes.length:=by omega
 have hwl:=zbC (zaS ho).1 (zab hm)
 refine ⟨zm0 hH p hp ho hm (nth s.locks i), ?_⟩
 unfold zc3 zbK
 split
 ·simp
 ·rw[List.length_append,List.length_drop];omega
theorem as_ref (hH:HasAll P inv) {p:Pln} (hp:Sm p) {s:State} (hst:zag p s=0):∀ i,i<s.locks.length→PC P inv 303 [.agg p.c,.agg (nth s.locks i).c,.n i] (·=.sl 3 ((zc9 p s i).map AskR.c))∧(zc9 p s i).length≤1000000:=fun i hi=>by
 have ho:=(zad hst).1
 have hpl:=zap (zad hst).2.1
 have hm:i<p.routes.length:=by omega
 have hwl:=zbC (zaS ho).1 (zab hm)
 refine ⟨znh hH p hp ho hm (nth s.locks i), ?_⟩
 unfold zc9 zbZ
 split
 ·simp
 ·have:=List.length_filter_le (zcV (nth s.locks i)) (zai p (nth p.routes i)).1.asks
  omega
def ofF (s:State) (hd:Nat→List Int) (n:Int):Int :=
 zaT (fun i _ zbi=>zaT (fun k _ next2=>cond (decide (nth (hd i) k=n)) (nth s.locks i).id (next2 ())) (fun _=>zbi ()) (hd i).length 0 ()) (fun _=>0) s.locks.length 0 ()
theorem ofF_eq {p:Pln} {s:State} (hst:zag p s=0) {n:Int} (hn:0≤n):ofF s (zc3 p s) n=nth (zau p s).1 n.toNat:=by
 unfold ofF
 refine zaK (·=nth (zau p s).1 n.toNat) (fun i _=>∀ j,j<i→n∉zc3 p s j) (fun j hj=>by omega) ?_ ?_
 ·intro i _ zbi hi hI hnx
  refine zaK (·=nth (zau p s).1 n.toNat) (fun k _=>∀ q,q<k→¬nth (zc3 p s i) q=n) (fun q hq=>by omega) ?_ ?_
  ·intro k _ next2 hk hK hn2
   by_cases e:nth (zc3 p s i) k=n
   ·rw[decide_eq_true e,cond_true]
    exact ((zmZ hst hi hn).2 (by rw[←e];exact zab hk)).symm
   ·rw[decide_eq_false e,cond_false]
    refine hn2 () fun q hq=>?_
    rcases Nat.lt_or_ge q k with h|h
    ·exact hK q h
    ·obtain rfl:q=k:=by omega
     exact e
  ·intro _ hK
   refine hnx () fun j hj hm=>?_
   rcases Nat.lt_or_ge j i with h|h
   ·exact hI j h hm
   ·obtain rfl:j=i:=by omega
    obtain ⟨q,hq,e⟩:=zbG hm
    exact hK q hq e
 ·intro _ hI
  rcases ziY hst hn with ⟨z,hz,hm,_⟩|⟨_,e⟩
  ·obtain ⟨j,hj,rfl⟩:=ze6 hst hz
   exact absurd hm (hI j hj)
  ·exact e.symm
def lieF (s:State) (as:Nat→List AskR) (n:Int):Int :=
 zaT (fun i _ zbi=>zaT (fun k _ next2=>cond (decide ((nth (as i) k).pnt=n)) (nth (as i) k).lie (next2 ())) (fun _=>zbi ()) (as i).length 0 ()) (fun _=>0) s.locks.length 0 ()
theorem lieF_eq {p:Pln} {s:State} (hst:zag p s=0) {n:Int} (hn:0≤n):lieF s (zc9 p s) n=nth (zau p s).2.1 n.toNat:=by
 unfold lieF
 refine zaK (·=nth (zau p s).2.1 n.toNat) (fun i _=>∀ j,j<i→∀ a∈zc9 p s j,a.pnt≠n) (fun j hj=>by omega) ?_ ?_
 ·intro i _ zbi hi hI hnx
  refine zaK (·=nth (zau p s).2.1 n.toNat) (fun k _=>∀ q,q<k→¬(nth (zc9 p s i) q).pnt=n) (fun q hq=>by omega) ?_ ?_
  ·intro k _ next2 hk hK hn2
   by_cases e:(nth (zc9 p s i) k).pnt=n
   ·rw[decide_eq_true e,cond_true]
    have:=zqA hst hi (zab hk)
    rw[e]at this
    exact this.symm
   ·rw[decide_eq_false e,cond_false]
    refine hn2 () fun q hq=>?_
    rcases Nat.lt_or_ge q k with h|h
    ·exact hK q h
    ·obtain rfl:q=k:=by omega
     exact e
  ·intro _ hK
   refine hnx () fun j hj a ha=>?_
   rcases Nat.lt_or_ge j i with h|h
   ·exact hI j h a ha
   ·obtain rfl:j=i:=by omega
    obtain ⟨q,hq,rfl⟩:=zbG ha
    exact hK q hq
 ·intro _ hI
  rcases ask_who hst hn with ⟨i,hi,a,ha,e,_⟩|⟨_,e⟩
  ·exact absurd e (hI i hi a ha)
  ·exact e.symm
theorem zmP (hH:HasAll P inv) (p:Pln) (hp:Sm p) (s:State) (hs:SmS s) (hst:zag p s=0) (n:Int) (hn:0≤n):PC P inv 296 [.agg p.c,.agg s.c,.n n] (·=.n (nth (zau p s).1 n.toNat)):=by
 have cH:=hd_ref hH hp hst
 have hl3:=hs.2.2
 obtain ⟨X,hF⟩:∃ X,ofF s (zc3 p s) n=X:=⟨_,rfl⟩
 rw[←ofF_eq hst hn,hF]
 unfold ofF at hF
 generalize zc3 p s=hd at *
 clear hst
 refine PC.fn hH cd296 fun w0 M Q hM hE hQ hR=>?_;dsimp only[cd296,qm,ql,qf,qi,qb,qc,qp,qv,qN,qT,qF,qt]at hQ ⊢
 skip
 (repeat' first|refine zaa [0,1,2,3,4,6,7,8,9,14,24,28,36] fun K hK=>?_|(refine hK.go ?_;clear hK K)|with_reducible exact wT|refine wA ?_|(refine wE (fun h0 h=>?_) (fun h0 h=>?_)<;>first|exact wN h|((try replace hF:=wX hF);clear h0;first|exact hF.elim|((try subst (h:(_:Bool)=_));try replace hF:=wX hF)))|(refine wQ ?_;clear hQ hR hE hM)|fail)
 refine zaP hF fun Bd Ed hBd hEd hF=>?_;refine zae (ι:=Nat) [2,3,4,6,7] (fun z=>[(7,.n z)]) (fun _=>[]) (fun z=>z) (s.locks.length) (fun z=>(zaT Bd Ed (s.locks.length-z) z ()=X)) (0) ?_;rintro i ⟨hk,hF⟩;(try dsimp only at hk hF ⊢);rcases Nat.lt_or_ge i s.locks.length with hlt|hge
 ·rw[zat hBd hlt]at hF;(try dsimp only at hF)
  obtain ⟨d1,dl1⟩:=cH i hlt
  generalize hd i=hls at *
  (repeat' first|refine zaa [0,1,2,3,4,6,7,8,9,14,24,28,36] fun K hK=>?_|(refine hK.go ?_;clear hK K)|with_reducible exact wT|refine wA ?_|(refine wE (fun h0 h=>?_) (fun h0 h=>?_)<;>first|exact wN h|((try replace hF:=wX hF);clear h0;first|exact hF.elim|((try subst (h:(_:Bool)=_));try replace hF:=wX hF)))|(refine wQ ?_;clear hQ hR hE hM)|refine wC d1 ?_|fail)
  refine zaP hF fun Bd Ed hBd hEd hF=>?_;refine zae (ι:=Nat) [2,3,4,6,7,8,9] (fun z=>[(9,.n z)]) (fun _=>[]) (fun z=>z) (hls.length) (fun z=>(zaT Bd Ed (hls.length-z) z ()=X)) (0) ?_;rintro k ⟨hk,hF⟩;(try dsimp only at hk hF ⊢);rcases Nat.lt_or_ge k hls.length with hlt|hge
  ·rw[zat hBd hlt]at hF;(try dsimp only at hF)
   (repeat' first|refine zaa [0,1,2,3,4,6,7,8,9,14,24,28,36] fun K hK=>?_|(refine hK.go ?_;clear hK K)|with_reducible exact wT|refine wA ?_|(refine wE (fun h0 h=>?_) (fun h0 h=>?_)<;>first|exact wN h|((try replace hF:=wX hF);clear h0;first|exact hF.elim|((try subst (h:(_:Bool)=_));try replace hF:=wX hF)))|(refine wQ ?_;clear hQ hR hE hM)|fail)
   all_goals first|exact hF|(exfalso;contradiction)|exact congrArg AV.n hF|exact nX (k+1)
  ·rw[zaO hge,hEd]at hF;(try dsimp only at hF)
   (repeat' first|refine zaa [0,1,2,3,4,6,7,8,9,14,24,28,36] fun K hK=>?_|(refine hK.go ?_;clear hK K)|with_reducible exact wT|refine wA ?_|(refine wE (fun h0 h=>?_) (fun h0 h=>?_)<;>first|exact wN h|((try replace hF:=wX hF);clear h0;first|exact hF.elim|((try subst (h:(_:Bool)=_));try replace hF:=wX hF)))|(refine wQ ?_;clear hQ hR hE hM)|fail)
   all_goals exact nX (i+1)
 ·rw[zaO hge,hEd]at hF;(try dsimp only at hF)
  (repeat' first|refine zaa [0,1,2,3,4,6,7,8,9,14,24,28,36] fun K hK=>?_|(refine hK.go ?_;clear hK K)|with_reducible exact wT|refine wA ?_|(refine wE (fun h0 h=>?_) (fun h0 h=>?_)<;>first|exact wN h|((try replace hF:=wX hF);clear h0;first|exact hF.elim|((try subst (h:(_:Bool)=_));try replace hF:=wX hF)))|(refine wQ ?_;clear hQ hR hE hM)|fail)
  all_goals first|exact hF|exact congrArg AV.n hF|trace_state
theorem zkO (hH:HasAll P inv) (p:Pln) (hp:Sm p) (s:State) (hs:SmS s) (hst:zag p s=0) (n:Int) (hn:0≤n):PC P inv 297 [.agg p.c,.agg s.c,.n n] (·=.n (nth (zau p s).2.1 n.toNat)):=by
 have cA:=as_ref hH hp hst
 have hl3:=hs.2.2
 obtain ⟨X,hF⟩:∃ X,lieF s (zc9 p s) n=X:=⟨_,rfl⟩
 rw[←lieF_eq hst hn,hF]
 unfold lieF at hF
 generalize zc9 p s=as at *
 clear hst
 refine PC.fn hH cd297 fun w0 M Q hM hE hQ hR=>?_;dsimp only[cd297,qm,ql,qf,qi,qb,qc,qp,qv,qN,qT,qF,qt]at hQ ⊢
 skip
 (repeat' first|refine zaa [0,1,2,3,4,6,7,8,9,14,24,28,37] fun K hK=>?_|(refine hK.go ?_;clear hK K)|with_reducible exact wT|refine wA ?_|(refine wE (fun h0 h=>?_) (fun h0 h=>?_)<;>first|exact wN h|((try replace hF:=wX hF);clear h0;first|exact hF.elim|((try subst (h:(_:Bool)=_));try replace hF:=wX hF)))|(refine wQ ?_;clear hQ hR hE hM)|fail)
 refine zaP hF fun Bd Ed hBd hEd hF=>?_;refine zae (ι:=Nat) [2,3,4,6,7] (fun z=>[(7,.n z)]) (fun _=>[]) (fun z=>z) (s.locks.length) (fun z=>(zaT Bd Ed (s.locks.length-z) z ()=X)) (0) ?_;rintro i ⟨hk,hF⟩;(try dsimp only at hk hF ⊢);rcases Nat.lt_or_ge i s.locks.length with hlt|hge
 ·rw[zat hBd hlt]at hF;(try dsimp only at hF)
  obtain ⟨d1,dl1⟩:=cA i hlt
  generalize as i=hls at *
  (repeat' first|refine zaa [0,1,2,3,4,6,7,8,9,14,24,28,37] fun K hK=>?_|(refine hK.go ?_;clear hK K)|with_reducible exact wT|refine wA ?_|(refine wE (fun h0 h=>?_) (fun h0 h=>?_)<;>first|exact wN h|((try replace hF:=wX hF);clear h0;first|exact hF.elim|((try subst (h:(_:Bool)=_));try replace hF:=wX hF)))|(refine wQ ?_;clear hQ hR hE hM)|refine wC d1 ?_|fail)
  refine zaP hF fun Bd Ed hBd hEd hF=>?_;refine zae (ι:=Nat) [2,3,4,6,7,8,9] (fun z=>[(9,.n z)]) (fun _=>[]) (fun z=>z) (hls.length) (fun z=>(zaT Bd Ed (hls.length-z) z ()=X)) (0) ?_;rintro k ⟨hk,hF⟩;(try dsimp only at hk hF ⊢);rcases Nat.lt_or_ge k hls.length with hlt|hge
  ·rw[zat hBd hlt]at hF;(try dsimp only at hF)
   (repeat' first|refine zaa [0,1,2,3,4,6,7,8,9,14,24,28,37] fun K hK=>?_|(refine hK.go ?_;clear hK K)|with_reducible exact wT|refine wA ?_|(refine wE (fun h0 h=>?_) (fun h0 h=>?_)<;>first|exact wN h|((try replace hF:=wX hF);clear h0;first|exact hF.elim|((try subst (h:(_:Bool)=_));try replace hF:=wX hF)))|(refine wQ ?_;clear hQ hR hE hM)|fail)
   all_goals first|exact hF|(exfalso;contradiction)|exact congrArg AV.n hF|exact nX (k+1)
  ·rw[zaO hge,hEd]at hF;(try dsimp only at hF)
   (repeat' first|refine zaa [0,1,2,3,4,6,7,8,9,14,24,28,37] fun K hK=>?_|(refine hK.go ?_;clear hK K)|with_reducible exact wT|refine wA ?_|(refine wE (fun h0 h=>?_) (fun h0 h=>?_)<;>first|exact wN h|((try replace hF:=wX hF);clear h0;first|exact hF.elim|((try subst (h:(_:Bool)=_));try replace hF:=wX hF)))|(refine wQ ?_;clear hQ hR hE hM)|fail)
   all_goals exact nX (i+1)
 ·rw[zaO hge,hEd]at hF;(try dsimp only at hF)
  (repeat' first|refine zaa [0,1,2,3,4,6,7,8,9,14,24,28,37] fun K hK=>?_|(refine hK.go ?_;clear hK K)|with_reducible exact wT|refine wA ?_|(refine wE (fun h0 h=>?_) (fun h0 h=>?_)<;>first|exact wN h|((try replace hF:=wX hF);clear h0;first|exact hF.elim|((try subst (h:(_:Bool)=_));try replace hF:=wX hF)))|(refine wQ ?_;clear hQ hR hE hM)|fail)
  all_goals first|exact hF|exact congrArg AV.n hF|trace_state
end Go.Lev
namespace Go.Lev
open Go.Eng
set_option maxRecDepth 10000
set_option maxHeartbeats 4000000
variable {P:Program} {inv:Nat→Option Nat} {w0:World} {M:Nat→Prop}
theorem zmV (hH:HasAll P inv) (p:Pln) (hp:Sm p) (s:State) (hs:SmS s) (hst:zag p s=0) {n:Int} (hn:zhQ p n=true):PC P inv 335 [.agg p.c,.agg s.c,.n n] (·=.i .u8 (zgH s n)):=by
 have ho:=zar hst
 have hpa:=(zad hst).2.1
 have hpl:=zap hpa
 have c1:=zjr hH p (by have:=hp.sec;omega) n
 obtain ⟨x,hx,ex⟩:=List.any_eq_true.1 hn
 have ex:x.id=n:=by simpa using ex
 rcases zav Section.id n p.sections with ⟨_,h4⟩|⟨k,hk,h4,h5⟩
 ·exact absurd ex (h4 x hx)
 ·rw[h4]at c1
  have hks:k<s.tracks.length:=by omega
  have h1:=(zcp _ _ _).1 (by simp only[zak,Bool.and_eq_true]at hpa;exact hpa.1)
  have h2:=h1.2 k hks
  simp only[zeS,Bool.and_eq_true,decide_eq_true_eq]at h2
  have h3:=zpG ho hpa hks
  rw[h2.1,h5]at h3
  rw[h3]
  have hl1:=hs.1
  clear hst ho hpa hpl h1 h2 h3 h5 hn
  refine PC.fn hH cd335 fun w0 M Q hM hE hQ hR=>?_;dsimp only[cd335,qm,ql,qf,qi,qb,qc,qp,qv,qN,qT,qF,qt]at hQ ⊢
  (have hX:=@Int.toNat_natCast;(repeat' first|refine zaa [0,1,2,3,4,6] fun K hK=>?_|(refine hK.go ?_;clear hK K)|with_reducible exact wT|refine wA ?_|(refine wB (fun h=>?_) (fun h=>?_)<;>first|exact wN h|subst (h:(_:Bool)=_)|skip)|(refine wQ ?_;clear hQ hR hE hM)|refine wC c1 ?_|refine wU c1 ?_|fail);all_goals clear hX)
  all_goals first|rfl|(exfalso;omega)|trace_state
theorem zpD {p:Pln} (h:OkP p) {k:Nat} (hk:k<p.points.length):zhQ p (nth p.points k).sec=true:=by
 obtain ⟨x,hx,e⟩:=zo6 h (zab hk)
 exact List.any_eq_true.2 ⟨x,hx,by simpa using e⟩
def zpt (p:Pln) (s:State) (k:Nat):Int:=if nth (zau p s).2.1 (nth p.points k).id.toNat=0 then (if zgH s (nth p.points k).sec=0 then 0 else 171) else 170
theorem ze1 (hH:HasAll P inv) (p:Pln) (hp:Sm p) (s:State) (hs:SmS s) (hst:zag p s=0) {k:Nat} (hk:k<p.points.length):PC P inv 333 [.agg p.c,.agg s.c,.n k] (·=.n (zpt p s k)):=by
 have ho:=zar hst
 have hr:=zhA ho (zab hk)
 have c1:=zkO hH p hp s hs hst (nth p.points k).id (by omega)
 have c2:=zmV hH p hp s hs hst (zpD ho hk)
 unfold zpt
 generalize nth (zau p s).2.1 (nth p.points k).id.toNat=a at *
 generalize zgH s (nth p.points k).sec=b at *
 have hl:=hp.pts
 clear hst ho hr
 refine PC.fn hH cd333 fun w0 M Q hM hE hQ hR=>?_;dsimp only[cd333,qm,ql,qf,qi,qb,qc,qp,qv,qN,qT,qF,qt]at hQ ⊢
 (repeat' first|refine zaa [0,1,2,3,4,6,15,16,25,26] fun K hK=>?_|(refine hK.go ?_;clear hK K)|with_reducible exact wT|refine wA ?_|(refine wB (fun h=>?_) (fun h=>?_)<;>first|exact wN h|subst (h:(_:Bool)=_)|skip)|(refine wQ ?_;clear hQ hR hE hM)|refine wC c1 ?_|refine wC c2 ?_|fail)
 all_goals ((repeat' split)<;>first|rfl|(exfalso;contradiction)|(exfalso;omega)|trace_state)
theorem zlN {p:Pln} {s:State} (hst:zag p s=0) {k:Nat} (hk:k<p.points.length):zeJ p s (nth p.points k).id=zpt p s k:=by
 unfold zeJ zpt
 rw[if_pos hst,if_pos (zjT hk),znH (zar hst) hk]
theorem zkM (hH:HasAll P inv) (p:Pln) (hp:Sm p) (s:State) (hs:SmS s) (n:Int):PC P inv 329 [.agg p.c,.agg s.c,.n n] (·=.n (zeJ p s n)):=by
 have c1:=zbw hH p hp s hs
 by_cases hst:zag p s=0
 ·rw[hst]at c1
  have c2:=zdO hH p (by have:=hp.pts;omega) n
  rcases zav Pnt.id n p.points with ⟨h4,h5⟩|⟨k,hk,h4,h5⟩
  ·rw[h4]at c2
   have hno:zcA p n=false:=by
    unfold zcA
    rw[List.any_eq_false]
    intro x hx
    simpa using h5 x hx
   have:zeJ p s n=6:=by unfold zeJ;rw[if_pos hst,hno,if_neg (by simp)]
   rw[this]
   refine PC.fn hH cd329 fun w0 M Q hM hE hQ hR=>?_;dsimp only[cd329,qm,ql,qf,qi,qb,qc,qp,qv,qN,qT,qF,qt]at hQ ⊢
   (repeat' first|refine zaa [0,1,2,3,4,6,7,8,13,19] fun K hK=>?_|(refine hK.go ?_;clear hK K)|with_reducible exact wT|refine wA ?_|(refine wB (fun h=>?_) (fun h=>?_)<;>first|exact wN h|subst (h:(_:Bool)=_)|skip)|(refine wQ ?_;clear hQ hR hE hM)|refine wC c1 ?_|refine wC c2 ?_|fail)
   all_goals first|rfl|(exfalso;contradiction)|trace_state
  ·rw[h4]at c2
   have c3:=ze1 hH p hp s hs hst hk
   rw[←h5,zlN hst hk,h5]
   generalize zpt p s k=e at *
   clear hst
   refine PC.fn hH cd329 fun w0 M Q hM hE hQ hR=>?_;dsimp only[cd329,qm,ql,qf,qi,qb,qc,qp,qv,qN,qT,qF,qt]at hQ ⊢
   (repeat' first|refine zaa [0,1,2,3,4,6,7,8,13,19] fun K hK=>?_|(refine hK.go ?_;clear hK K)|with_reducible exact wT|refine wA ?_|(refine wB (fun h=>?_) (fun h=>?_)<;>first|exact wN h|subst (h:(_:Bool)=_)|skip)|(refine wQ ?_;clear hQ hR hE hM)|refine wC c1 ?_|refine wC c2 ?_|refine wC c3 ?_|fail)
   all_goals first|rfl|(exfalso;contradiction)|(exfalso;omega)|trace_state
 ·have:zeJ p s n=zag p s:=by unfold zeJ;rw[if_neg hst]
  rw[this]
  generalize zag p s=e at *
  refine PC.fn hH cd329 fun w0 M Q hM hE hQ hR=>?_;dsimp only[cd329,qm,ql,qf,qi,qb,qc,qp,qv,qN,qT,qF,qt]at hQ ⊢
  (repeat' first|refine zaa [0,1,2,3,4,6,7,8,13,19] fun K hK=>?_|(refine hK.go ?_;clear hK K)|with_reducible exact wT|refine wA ?_|(refine wB (fun h=>?_) (fun h=>?_)<;>first|exact wN h|subst (h:(_:Bool)=_)|skip)|(refine wQ ?_;clear hQ hR hE hM)|refine wC c1 ?_|fail)
  all_goals first|rfl|(exfalso;contradiction)|trace_state
theorem zcd (hH:HasAll P inv) (s:State) (hs:SmS s):PO P inv 14 [.agg s.c] (stV s) (stR s):=by
 have h1:=hs.1
 have h2:=hs.2.1
 have h3:=hs.2.2
 unfold stV stR
 refine PO.fn hH cd14 fun w0 M Q hM hE hQ hR=>?_;dsimp only[cd14,qm,ql,qf,qi,qb,qc,qp,qv,qN,qT,qF,qt]at hQ ⊢
 (repeat' first|refine zaa [0,1,2,11] fun K hK=>?_|(refine hK.go ?_;clear hK K)|with_reducible exact wT|refine wA ?_|(refine wB (fun h=>?_) (fun h=>?_)<;>first|exact wN h|subst (h:(_:Bool)=_)|skip)|(refine wR ?_;clear hQ hR hE hM)|fail)
 left
 constructor
 ·(refine no_implicit_lambda% (st ?_);try with_reducible exact wT)
 ·(refine no_implicit_lambda% (st ?_);try with_reducible exact wT)
end Go.Lev
namespace Go.Lev
open Go.Eng
theorem of_ar {n:Nat} {e:Sh} {d:D} (h:Sh.ok (.ar n e) d):∃ l,d=.l l∧l.length=n∧∀ x∈l,Sh.ok e x:=by
 cases d with
 |l l=>exact ⟨l,rfl,by simpa only[Sh.ok] using h⟩
 |t _=>exact h.elim
 |n _=>exact h.elim
theorem arg_arr2 {d:D} (h:Sh.ok (.ar 2 (.i .i64)) d):∃ a b:Int,Sh.arg (.ar 2 (.i .i64)) d=.agg [.n a,.n b]:=by
 obtain ⟨l,rfl,hl,h⟩:=of_ar h
 match l,hl,h with
 |[x,y],_,h =>
  obtain ⟨a,rfl,_⟩:=zby (h x (by simp))
  obtain ⟨b,rfl,_⟩:=zby (h y (by simp))
  exact ⟨a,b,rfl⟩
theorem arg_bool {d:D} (h:Sh.ok .b d):∃ t,Sh.arg .b d=.b t:=by
 cases d with
 |t t=>exact ⟨t,rfl⟩
 |l _=>exact h.elim
 |n _=>exact h.elim
end Go.Lev
namespace Go.Lev
open Go.Eng
set_option maxRecDepth 10000
set_option maxHeartbeats 4000000
variable {P:Program} {inv:Nat→Option Nat} {w0:World} {M:Nat→Prop}
def planB:Pln:=⟨1,0,[⟨1,0,[⟨0,0⟩,⟨2,0⟩]⟩,⟨2,5,[⟨1,1⟩,⟨3,0⟩,⟨4,0⟩]⟩,⟨3,0,[⟨2,1⟩,⟨0,0⟩]⟩,⟨4,0,[⟨2,2⟩,⟨0,0⟩]⟩],[⟨5,2⟩],[⟨1,1,1⟩],[⟨1,1,0,[2,3],[],[],3⟩]⟩
def stB:State:=⟨[⟨1,2⟩,⟨2,2⟩,⟨3,2⟩,⟨4,2⟩],[⟨5,0,0⟩],[⟨1,0,0,0⟩]⟩
def stB2:State:=⟨[⟨1,2⟩,⟨2,0⟩,⟨3,2⟩,⟨4,2⟩],[⟨5,0,0⟩],[⟨1,0,0,0⟩]⟩
def stB3:State:=⟨[⟨1,2⟩,⟨2,0⟩,⟨3,2⟩,⟨4,2⟩],[⟨5,0,2⟩],[⟨1,0,0,0⟩]⟩
end Go.Lev
namespace Go.Lev
open Go.Eng
set_option maxRecDepth 10000
set_option maxHeartbeats 4000000
variable {P:Program} {inv:Nat→Option Nat} {w0:World} {M:Nat→Prop}
def hasT (s:State) (n:Int):Bool:=s.tracks.any fun t=>decide (t.id=n)
def hasW (s:State) (n:Int):Bool:=s.switches.any fun t=>decide (t.id=n)
def ibF (s A B:State) (n v e1 e2:Int):Bool :=
 zaT (fun k t zbi =>
   cond (decide (e1=0)&&(decide ((nth s.tracks k).id=n)&&!decide ((nth A.tracks k).is=v)||!decide ((nth s.tracks k).id=n)&&!(decide ((nth A.tracks k).id=(nth s.tracks k).id)&&decide ((nth A.tracks k).is=(nth s.tracks k).is))))
    false (zbi (t||decide ((nth s.tracks k).id=n))))
  (fun t=>zaT (fun k u zbi =>
    cond (decide (e2=0)&&(decide ((nth s.switches k).id=n)&&(!decide ((nth B.switches k).lie=v)||!decide ((nth B.switches k).call=(nth s.switches k).call))||!decide ((nth s.switches k).id=n)&&!(decide ((nth B.switches k).id=(nth s.switches k).id)&&(decide ((nth B.switches k).lie=(nth s.switches k).lie)&&decide ((nth B.switches k).call=(nth s.switches k).call)))))
     false (zbi (u||decide ((nth s.switches k).id=n))))
   (fun u=>decide (decide (e1=0)=(t&&(decide (v=0)||decide (v=1))))&&decide (decide (e2=0)=(u&&(decide (0≤v)&&decide (v≤2)))))
   s.switches.length 0 false)
  s.tracks.length 0 false
end Go.Lev
namespace Go.Eng
open Go.RowKit
mutual
/-- Numbers,truth values,names: nothing that lies in memory nobody names. -/
def nmV:AV→Bool
 |.agg cs=>nmL cs
 |.tup cs=>nmL cs
 |.i _ _=>true|.b _=>true|.v _=>true|.u=>true|.s0 _=>true|.ptr _ _ _=>true|.sm _ _ _ _ _=>true
 |.sl _ _=>false|.ip _ _ _ _=>false|.fn _ _=>false|.mp _=>false|.top=>false
def nmL:List AV→Bool
 |[]=>true
 |x::xs=>nmV x&&nmL xs
end
mutual
theorem zpn {c c':Ctx} (hS:c'.S=c.S):∀ (x:AV) (y:Value),nmV x=true→rel c x y→rel c' x y
 |.agg cs,y,s,r=>by
  simp only[rel]at r ⊢
  obtain ⟨xs,e,r⟩:=r
  exact ⟨xs,e,zjK hS cs _ (by simpa only[nmV] using s) r⟩
 |.tup cs,y,s,r=>by
  simp only[rel]at r ⊢
  obtain ⟨xs,e,r⟩:=r
  exact ⟨xs,e,zpp hS cs _ (by simpa only[nmV] using s) r⟩
 |.i _ _,_,_,r=>by simpa only[rel] using r
 |.b _,_,_,r=>by simpa only[rel] using r
 |.v _,_,_,r=>by simpa only[rel] using r
 |.u,_,_,r=>by simpa only[rel] using r
 |.s0 _,_,_,r=>by simpa only[rel] using r
 |.ptr _ _ _,_,_,r=>by simpa only[rel,hS] using r
 |.sm _ _ _ _ _,_,_,r=>by simpa only[rel,hS] using r
 |.sl _ _,_,s,_=>by simp[nmV]at s
 |.ip _ _ _ _,_,s,_=>by simp[nmV]at s
 |.fn _ _,_,s,_=>by simp[nmV]at s
 |.mp _,_,s,_=>by simp[nmV]at s
 |.top,_,s,_=>by simp[nmV]at s
theorem zpp {c c':Ctx} (hS:c'.S=c.S):∀ (xs:List AV) (ys:List Value),nmL xs=true→zbX c xs ys→zbX c' xs ys
 |[],ys,_,r=>by simpa only[zbX] using r
 |x::xs,ys,s,r=>by
  simp only[nmL,Bool.and_eq_true]at s
  simp only[zbX]at r ⊢
  obtain ⟨y,ys',e,r1,r2⟩:=r
  exact ⟨y,ys',e,zpn hS x y s.1 r1,zpp hS xs ys' s.2 r2⟩
theorem zjK {c c':Ctx} (hS:c'.S=c.S):∀ (xs:List AV) (ys:List Value),nmL xs=true→relCs c xs ys→relCs c' xs ys
 |[],ys,_,r=>by simpa only[relCs] using r
 |x::xs,ys,s,r=>by
  simp only[nmL,Bool.and_eq_true]at s
  simp only[relCs]at r ⊢
  obtain ⟨y,ys',e,ho,r1,r2⟩:=r
  exact ⟨y,ys',e,ho,zpn hS x y s.1 r1,zjK hS xs ys' s.2 r2⟩
end
def nmR:List (Nat×AO)→Bool
 |[]=>true
 |(_,.cells cs _)::r=>nmL cs&&nmR r
 |_::r=>nmR r
theorem zpo:∀ {σ:List (Nat×AO)},nmR σ=true→∀ {l:Nat} {cs:List AV} {b:Bool},zaF σ l=some (.cells cs b)→nmL cs=true
 |[],_,l,cs,b,e=>by simp[zaF]at e
 |(k,o)::r,h,l,cs,b,e=>by
  have hr:nmR r=true:=by
   cases o with
   |cells cs' b'=>simp only[nmR,Bool.and_eq_true]at h;exact h.2
   |imap kvs=>exact h
   |rsv=>exact h
  unfold zaF at e
  split at e
  ·simp only[Option.some.injEq]at e
   subst e
   simp only[nmR,Bool.and_eq_true]at h
   exact h.1
  ·exact zpo hr e
theorem zpq:∀ (xs ys:List AV),nmL (xs++ys)=(nmL xs&&nmL ys)
 |[],ys=>by simp[nmL]
 |x::xs,ys=>by simp[nmL,zpq xs ys,Bool.and_assoc]
theorem zjJ {α:Type} {c:α→List AV} (h:∀ a,nmL (c a)=true) (l:List α):nmL (l.map c).flatten=true:=by
 induction l with
 |nil=>rfl
 |cons x l ih=>simp[zpq,h x,ih]
section
variable {P:Program} {inv:Nat→Option Nat} {w0:World} {M:Nat→Prop} {n N:Nat} {φ:AF} {σ:AS}
theorem PO.snapK (hM:∀ b,M b→b<w0.heap.size) (k:Nat) {j:Nat} {args args':List AV} {r:AV} {σ0:AS} (h:PO P inv j args' r σ0) (he:zb1 k σ args=args') (hr:nmV r=true) (hs:nmR σ0=true) {K:AV→AS→Prop}
  (hk:K (shV (zay N φ σ) r) (zkd σ (shS (zay N φ σ) σ0))):CallK P inv w0 M N φ σ j args K:=by
 obtain ⟨f1,f2,f3⟩:=zbB N φ σ
 refine ⟨zay N φ σ,f1,f2,fun g hg β w vs hm ha=>?_⟩
 have hf:=zfb hm hM (A':=fun _=>False) (fun _ h=>h.elim) k
 have ha2:=zd9 hm hM (fun _ h=>h.elim) hf _ _ ha
 rw[show zcb (zgD k σ) args=args' from he]at ha2
 have hle:Ctx.Le ⟨inv,w,fun _=>False,fun _=>none⟩ (ctx inv (fun _=>False) [] (fun _=>0) w):=⟨rfl,Nat.le_refl _,fun _ _ _=>rfl,fun b _ hb=>by
  rcases hb with hb|⟨l,o,e,_⟩
  ·exact hb
  ·simp[zaF]at e⟩
 have hS:(ctx inv (fun _=>False) [] (fun _=>0) w).S=fun _=>Option.none:=by funext l;simp[ctx,zal,zaF]
 refine (h w (fun _=>False) (fun _ h=>h.elim) g hg (fun _=>0) w vs (Mem.none w) (zcf (N:=0) hle _ _ (.inr hS) ha2)).mono ?_
 rintro e w' ⟨v,r',σ',β',rfl,⟨rfl,rfl⟩,hm',_,hr'⟩
 have hm2:Mem inv w (avoid M σ β) σ' β' w':=⟨hm'.below,hm'.inj,hm'.own,fun l cs e=>by
  obtain ⟨xs,ty,q1,q2,q3⟩:=hm'.cells l cs e
  exact ⟨xs,ty,q1,q2,zjK (c:=ctx inv (fun _=>False) σ' β' w') (c':=ctx inv (avoid M σ β) σ' β' w') rfl _ _ (zpo hs e) q3⟩,hm'.ghost,hm'.maps⟩
 obtain ⟨j1,j2,j3⟩:=hm.join hm2 (zay N φ σ) f3
 exact ⟨v,_,_,_,rfl,hk,j1,j2,j3 _ _ (zpn (c:=ctx inv (fun _=>False) σ' β' w') (c':=ctx inv (avoid M σ β) σ' β' w') rfl _ _ hr hr')⟩
end
end Go.Eng
namespace Go.Lev
open Go.Eng
set_option maxRecDepth 10000
set_option maxHeartbeats 4000000
variable {P:Program} {inv:Nat→Option Nat} {w0:World} {M:Nat→Prop}
def pgF (p:Pln) (s:State) (n:Int):Bool×Int :=
 zaT (fun i (st:Bool×Int) zbi=>cond (!decide ((nth p.points i).id=n)) (zbi st)
   (zaT (fun k (fr:Bool) next2=>next2 (fr||decide ((nth s.tracks k).id=(nth p.points i).sec)&&decide ((nth s.tracks k).is=0)))
    (fun fr=>zbi (fr,(i:Int))) s.tracks.length 0 st.1))
  (fun st=>st) p.points.length 0 (false,-1)
theorem ze0 (b:Nat) (s:State):nmR (zdn b s)=true:=by
 unfold zdn
 simp only[nmR,Bool.and_true,Bool.and_eq_true]
 exact ⟨zjJ (fun _=>rfl) _,zjJ (fun _=>rfl) _,zjJ (fun _=>rfl) _⟩
end Go.Lev
namespace Go.Lev
open Go.Eng
set_option maxRecDepth 10000
set_option maxHeartbeats 4000000
variable {P:Program} {inv:Nat→Option Nat} {w0:World} {M:Nat→Prop}
theorem za6 (hH:HasAll P inv) {a b:State} (h:SmS a) (e:a=b):PC P inv 10 [.agg a.c,.agg b.c] (·=.b true):=by
 have:=zkw hH a b (by have:=h.1;omega) (by have:=h.2.1;omega) (by have:=h.2.2;omega)
 rw[decide_eq_true e]at this
 exact this
def w9 (_:Nat) (t:Switch):Switch:=⟨t.id,t.lie,9⟩
def t9 (_:Nat) (t:Track):Track:=⟨t.id,9⟩
end Go.Lev
namespace Go.Lev
open Go.Eng
set_option maxRecDepth 10000
set_option maxHeartbeats 4000000
variable {P:Program} {inv:Nat→Option Nat} {w0:World} {M:Nat→Prop}
section
variable {L:List Lock} {k:Nat} (h:k<L.length)
include h
end
section
variable {L:List Lock} {k:Nat} (h:k<L.length) (x:Lock)
include h
end
def tickL (l:Lock):Lock:=if l.left=0 then l else if l.left-1=0 then ⟨l.id,0,0,0⟩ else ⟨l.id,l.phase,l.gone,l.left-1⟩
def tickS (s:State):State:=⟨s.tracks,s.switches,s.locks.map tickL⟩
def tickR (p:Pln) (s:State):State:=if zag p s=0 then tickS s else State.z
end Go.Lev
namespace Go.Lev
open Go.Eng
set_option maxRecDepth 10000
set_option maxHeartbeats 4000000
variable {P:Program} {inv:Nat→Option Nat} {w0:World} {M:Nat→Prop}
def emptyB (s:State) (w:WayR) (l:Lock):Bool:=!((w.path.drop l.gone.toNat).any fun m=>!frT s m)
def cnC0 (s:State) (w:WayR) (l:Lock):Int:=if l.phase=0 then 220 else if l.phase=1 then 0 else if l.phase=2∧emptyB s w l=true then 0 else 221
def cnL (s:State) (w:WayR) (r:Rte) (l:Lock) (n:Int):Lock:=if l.phase=1∧frT s w.near=false then ⟨n,4,0,r.timer⟩ else ⟨n,0,0,0⟩
def cnC (p:Pln) (s:State) (n:Int):Int:=if zag p s=0 then (if zgG s n<0 then 6 else cnC0 s (zai p (nth p.routes (zgG s n).toNat)).1 (nth s.locks (zgG s n).toNat)) else zag p s
def cnS (p:Pln) (s:State) (n:Int):State:=⟨s.tracks,s.switches,s.locks.set (zgG s n).toNat (cnL s (zai p (nth p.routes (zgG s n).toNat)).1 (nth p.routes (zgG s n).toNat) (nth s.locks (zgG s n).toNat) n)⟩
def cnR (p:Pln) (s:State) (n:Int):State:=if cnC p s n=0 then cnS p s n else State.z
end Go.Lev
namespace Go.Lev
open Go.Eng
set_option maxRecDepth 10000
set_option maxHeartbeats 4000000
variable {P:Program} {inv:Nat→Option Nat} {w0:World} {M:Nat→Prop}
def stepL (r:Rte) (is:Int→Int) (l:Lock):Lock :=
 if l.phase=1∨l.phase=4 then (if (r.path.any fun n=>decide (is n=1))=true then ⟨l.id,2,0,0⟩ else l)
 else if l.phase=2 then
  (if l.gone<(r.path.length:Int)-1∧is (nth r.path l.gone.toNat)=0∧is (nth r.path (l.gone.toNat+1))=1 then ⟨l.id,l.phase,l.gone+1,l.left⟩
   else if l.gone=(r.path.length:Int)-1∧is (nth r.path (r.path.length-1))=1 then ⟨l.id,3,(r.path.length:Int)-1,r.timer⟩
   else if l.gone=(r.path.length:Int)-1∧is (nth r.path (r.path.length-1))=0 then ⟨l.id,0,0,0⟩
   else l)
 else if l.phase=3 then (if is (nth r.path (r.path.length-1))=0 then ⟨l.id,0,0,0⟩ else l)
 else l
end Go.Lev
namespace Go.Eng
section
variable {P:Program} {inv:Nat→Option Nat} {w0:World} {M:Nat→Prop} {n N:Nat} {φ φ0:AF} {σ σ0:AS}
end
end Go.Eng
namespace Go.Lev
open Go.Eng
set_option maxRecDepth 10000
set_option maxHeartbeats 4000000
variable {P:Program} {inv:Nat→Option Nat} {w0:World} {M:Nat→Prop}
def rankL (r:Rte) (l:Lock):Nat:=if l.phase=1∨l.phase=4 then r.path.length+3 else if l.phase=2 then 2+((r.path.length:Int)-1-l.gone).toNat else if l.phase=3 then 1 else 0
def zoF (r:Rte) (is:Int→Int):Nat→Lock→Lock
 |0,l=>l
 |m+1,l=>if stepL r is l=l then l else zoF r is m (stepL r is l)
def settleL (r:Rte) (is:Int→Int) (l:Lock):Lock:=zoF r is (rankL r l) l
end Go.Lev
namespace Go.Lev
open Go.Eng
set_option maxRecDepth 10000
set_option maxHeartbeats 4000000
variable {P:Program} {inv:Nat→Option Nat} {w0:World} {M:Nat→Prop}
def setlF (p:Pln) (s:State) (i:Nat) (l:Lock):Lock:=settleL (nth p.routes i) (zgH s) l
def setlS (p:Pln) (s:State):State:=⟨s.tracks,s.switches,s.locks.mapIdx (setlF p s)⟩
def setlR (p:Pln) (s:State):State:=if zag p s=0 then setlS p s else State.z
end Go.Lev
namespace Go.Lev
open Go.Eng
set_option maxRecDepth 10000
set_option maxHeartbeats 4000000
variable {P:Program} {inv:Nat→Option Nat} {w0:World} {M:Nat→Prop}
def lkS (p:Pln) (s:State) (n:Int):State:=if lkC p s n=0 then zfS s n (lkW p s n).asks else State.z
end Go.Lev
namespace Go.Lev
open Go.Eng
theorem zjQ {H:List Int} {fr:Int→Bool}:∀ {l:List Int},zcL H fr l=0↔∀ x∈l,nth H x.toNat=0∧fr x=true
 |[]=>by simp[zcL]
 |x::r=>by
  rw[zcL]
  constructor
  ·intro h
   split at h
   ·rename_i h1
    split at h
    ·rename_i h2
     intro y hy
     rcases List.mem_cons.1 hy with rfl|hy
     ·exact ⟨h1,h2⟩
     ·exact zjQ.1 h y hy
    ·cases h
   ·cases h
  ·intro h
   obtain ⟨h1,h2⟩:=h x (by simp)
   rw[if_pos h1,if_pos h2]
   exact zjQ.2 fun y hy=>h y (by simp[hy])
def zb6 (p:Pln) (i:Nat):List Int:=(zai p (nth p.routes i)).1.path++(zai p (nth p.routes i)).1.over
def za3 (p:Pln) (i:Nat):List AskR:=(zai p (nth p.routes i)).1.asks
structure MaySet (p:Pln) (s:State) (n:Int) (i:Nat):Prop where
 st:zag p s=0
 lt:i<s.locks.length
 id:(nth s.locks i).id=n
 ph:(nth s.locks i).phase=0
 sec:∀ x∈zb6 p i,nth (zau p s).1 x.toNat=0∧zgH s x=0
 ask:∀ a∈za3 p i,zbh s a.pnt=a.lie∨(nth (zau p s).2.1 a.pnt.toNat=0∧zgH s (zcn p a.pnt)=0)
theorem zil {p:Pln} {s:State} (ho:OkP p) (h:zak p s=true) {A:List Int} {a:AskR}:zim p s A a=true↔zbh s a.pnt=a.lie∨(nth A a.pnt.toNat=0∧zgH s (zcn p a.pnt)=0):=by
 unfold zim
 rw[zm2 ho h]
 simp
theorem zlR {p:Pln} {s:State} {n:Int}:lkC p s n=0↔∃ i,MaySet p s n i:=by
 constructor
 ·intro h
  have hst:zag p s=0:=by
   unfold lkC at h
   split at h
   ·assumption
   ·exact h
  rcases zav Lock.id n s.locks with ⟨_,hno⟩|⟨i,hi,_,hid⟩
  ·rw[lkC_no hst hno]at h;cases h
  ·rw[zpw hst hi hid]at h
   split at h
   ·rename_i hph
    unfold setE at h
    have ho:=zar hst
    have hpa:=(zad hst).2.1
    split at h
    ·rename_i h1
     split at h
     ·rename_i h2
      refine ⟨i,hst,hi,hid,hph,fun x hx=>?_,fun a ha=>(zil ho hpa).1 (List.all_eq_true.1 h2 a ha)⟩
      have:=zjQ.1 h1 x hx
      rw[zm2 ho hpa,decide_eq_true_eq]at this
      exact this
     ·cases h
    ·rename_i h1;exact absurd h h1
   ·cases h
 ·rintro ⟨i,hst,hi,hid,hph,h1,h2⟩
  have ho:=zar hst
  have hpa:=(zad hst).2.1
  rw[zpw hst hi hid,if_pos hph]
  unfold setE
  have h3:zcL (zau p s).1 (frT s) ((zai p (nth p.routes i)).1.path++(zai p (nth p.routes i)).1.over)=0:=zjQ.2 fun x hx=>by
   rw[zm2 ho hpa,decide_eq_true_eq];exact h1 x hx
  have h4:(zai p (nth p.routes i)).1.asks.all (zim p s (zau p s).2.1)=true:=List.all_eq_true.2 fun a ha=>(zil ho hpa).2 (h2 a ha)
  rw[if_pos h3,if_pos h4]
section
variable {p:Pln} {s:State} {n:Int} {i:Nat} (h:MaySet p s n i)
include h
theorem MaySet.lkW:lkW p s n=(zai p (nth p.routes i)).1:=by
 unfold Go.Lev.lkW
 rw[if_pos h.st,zpv h.st h.lt h.id,if_neg (by omega),Int.toNat_natCast,if_pos h.ph]
theorem MaySet.lkS:lkS p s n=zfS s n (za3 p i):=by
 unfold Go.Lev.lkS
 rw[if_pos (zlR.2 ⟨i,h⟩),h.lkW]
 rfl
theorem MaySet.code:zag p (zfS s n (za3 p i))=0:=zoI h.st h.lt h.ph h.id (fun m hm=>(h.sec m hm).1) fun a ha=>by
 rcases h.ask a ha with h1|h1
 ·exact .inl h1
 ·exact .inr h1.1
theorem MaySet.lock {j:Nat} (hj:j<s.locks.length):nth (zfS s n (za3 p i)).locks j=if j=i then ⟨n,1,0,0⟩ else nth s.locks j:=by
 rw[zfj h.st h.lt h.id _ hj,(zfn h.st h.lt h.ph).1,(zfn h.st h.lt h.ph).2]
theorem zmz (q:List AskR):(zfS s n q).locks.length=s.locks.length:=zbe _ _ _ _
theorem MaySet.hd {j:Nat} (hj:j<s.locks.length):zc3 p (zfS s n (za3 p i)) j=if j=i then zb6 p i else zc3 p s j:=by
 unfold zc3
 rw[h.lock hj]
 by_cases e:j=i
 ·subst e
  rw[if_pos rfl,if_pos rfl]
  unfold zbK
  rw[if_neg (by dsimp only;omega)]
  rfl
 ·rw[if_neg e,if_neg e]
theorem MaySet.as {j:Nat} (hj:j<s.locks.length):zc9 p (zfS s n (za3 p i)) j=if j=i then za3 p i else zc9 p s j:=by
 unfold zc9
 rw[h.lock hj]
 by_cases e:j=i
 ·subst e
  rw[if_pos rfl,if_pos rfl]
  unfold zbZ
  rw[if_neg (by dsimp only;omega)]
  refine List.filter_eq_self.2 fun a _=>?_
  simp only[zcV,Bool.or_eq_true,decide_eq_true_eq]
  omega
 ·rw[if_neg e,if_neg e]
theorem MaySet.rt:nth p.routes i∈p.routes:=by
 have:=zap (zad h.st).2.1
 have:=h.lt
 exact zab (by omega)
theorem MaySet.secR {x:Int} (hx:x∈zb6 p i):zhQ p x=true∧0≤x:=by
 have ho:=zar h.st
 have hwp:=zbT ((zaS (zad h.st).1).2.1 _ h.rt)
 unfold zb6 at hx
 rw[hwp.1,hwp.2.1]at hx
 obtain ⟨q,hq,e⟩:=(zcW ho h.rt).1 x hx
 have:=zcc ho hq
 exact ⟨List.any_eq_true.2 ⟨q,hq,by simpa using e⟩,by omega⟩
theorem MaySet.holds {x:Int} (hx:x∈zb6 p i):nth (zau p (zfS s n (za3 p i))).1 x.toNat=n:=by
 have hi':i<(zfS s n (za3 p i)).locks.length:=by rw[zmz h];exact h.lt
 have:=(zmZ h.code hi' (h.secR hx).2).2 (by rw[h.hd h.lt,if_pos rfl];exact hx)
 rw[this,h.lock h.lt,if_pos rfl]
theorem MaySet.asks {a:AskR} (ha:a∈za3 p i):nth (zau p (zfS s n (za3 p i))).2.1 a.pnt.toNat=a.lie:=by
 have hi':i<(zfS s n (za3 p i)).locks.length:=by rw[zmz h];exact h.lt
 exact zqA h.code hi' (by rw[h.as h.lt,if_pos rfl];exact ha)
end
end Go.Lev
namespace Go.Lev
open Go.Eng
def msF (p:Pln) (s:State) (all:List Int) (asks:List AskR) (H:Int→Int):Int :=
 zaT (fun i _ zbi=>cond (!decide (H (nth all i)=0)) 181 (cond (!decide (zgH s (nth all i)=0)) 182 (zbi ())))
  (fun _=>zaT (fun i _ zbi=>cond (!decide (zbh s (nth asks i).pnt=(nth asks i).lie)&&!decide (zeJ p s (nth asks i).pnt=0)) 183 (zbi ())) (fun _=>0) asks.length 0 ()) all.length 0 ()
end Go.Lev
namespace Go.Lev
open Go.Eng
set_option maxRecDepth 10000
set_option maxHeartbeats 4000000
variable {P:Program} {inv:Nat→Option Nat} {w0:World} {M:Nat→Prop}
def planC:Pln:=⟨1,0,[⟨1,0,[⟨0,0⟩,⟨2,0⟩]⟩,⟨2,5,[⟨1,1⟩,⟨3,0⟩,⟨4,0⟩]⟩,⟨3,0,[⟨2,1⟩,⟨0,0⟩]⟩,⟨4,0,[⟨2,2⟩,⟨0,0⟩]⟩],[⟨5,2⟩],[⟨1,1,1⟩],[⟨1,1,0,[2,3],[],[],3⟩,⟨2,1,0,[2,4],[],[],4⟩]⟩
def stN:State:=⟨[⟨1,2⟩,⟨2,2⟩,⟨3,2⟩,⟨4,2⟩],[⟨5,0,0⟩],[⟨1,0,0,0⟩,⟨2,0,0,0⟩]⟩
def stQ:State:=⟨[⟨1,0⟩,⟨2,0⟩,⟨3,0⟩,⟨4,0⟩],[⟨5,0,0⟩],[⟨1,0,0,0⟩,⟨2,0,0,0⟩]⟩
def stQ1:State:=⟨[⟨1,0⟩,⟨2,0⟩,⟨3,0⟩,⟨4,0⟩],[⟨5,0,1⟩],[⟨1,1,0,0⟩,⟨2,0,0,0⟩]⟩
def freeT (_:Nat) (t:Track):Track:=⟨t.id,0⟩
end Go.Lev
namespace Go.Lev
open Go.Eng
set_option maxRecDepth 10000
set_option maxHeartbeats 4000000
variable {P:Program} {inv:Nat→Option Nat} {w0:World} {M:Nat→Prop}
def k9 (_:Nat) (l:Lock):Lock:=⟨l.id,9,l.gone,l.left⟩
end Go.Lev
namespace Go.Lev
open Go.Eng
set_option maxRecDepth 10000
set_option maxHeartbeats 4000000
variable {P:Program} {inv:Nat→Option Nat} {w0:World} {M:Nat→Prop}
def w9l (_:Nat) (t:Switch):Switch:=⟨t.id,9,t.call⟩
theorem smz:SmS State.z:=⟨by decide,by decide,by decide⟩
end Go.Lev
namespace Go.Lev
open Go.Eng
set_option maxRecDepth 10000
set_option maxHeartbeats 4000000
variable {P:Program} {inv:Nat→Option Nat} {w0:World} {M:Nat→Prop}
def k99 (_:Nat) (l:Lock):Lock:=⟨l.id,l.phase,l.gone,99⟩
end Go.Lev
