/-
  A part of the engine that walks the functions' codes, and of the functions' contracts. Conditions: those that each theorem names.
-/
import Derived.Test.YtibpmipffibbpaaGreatL7
import Derived.IntWalk
set_option linter.unusedSimpArgs false
set_option linter.unusedVariables false
set_option linter.unusedSectionVars false
namespace Go.Lev
open Go.Eng
set_option maxRecDepth 10000
set_option maxHeartbeats 4000000
variable {P:Program} {inv:Nat→Option Nat} {w0:World} {M:Nat→Prop}
theorem zpe (hH:HasAll P inv) (p:Pln) (hp:Sm p) (s:State) (hs:SmS s) (hpa:∀ i,i<p.routes.length→(nth p.routes i).path.length≤1000000):PC P inv 304 [.agg p.c,.agg s.c] (·=.b (zak p s)):=by
 have hl1:=hs.1
 have hl2:=hs.2.1
 have hl3:=hs.2.2
 have hp1:=hp.sec
 have hp2:=hp.pts
 have hp3:=hp.rte
 obtain ⟨X,hF⟩:∃ X,prtF p s=X:=⟨_,rfl⟩
 rw[←prtF_eq,hF]
 have cP:=fun (i:Nat) (hi:i<p.routes.length)=>zpd hH (nth s.locks i) (nth p.routes i) (hpa i hi)
 clear hs hp
 unfold prtF trkB swtB lckB at hF
 refine PC.fn hH cd304 fun w0 M Q hM hE hQ hR=>?_;dsimp only[cd304,qm,ql,qf,qi,qb,qc,qp,qv,qN,qT,qF,qt]at hQ ⊢
 skip
 (repeat' first|refine zaa [0,1,2,3,4,5,6,7,8,33,38,62,67,103,108,143,145] fun K hK=>?_|(refine hK.go ?_;clear hK K)|with_reducible exact wT|refine wA ?_|(refine wE (fun h0 h=>?_) (fun h0 h=>?_)<;>first|exact wN h|((try replace hF:=wX hF);clear h0;first|exact hF.elim|((try subst (h:(_:Bool)=_));try replace hF:=wX hF)))|(refine wQ ?_;clear hQ hR hE hM)|fail)
 all_goals first|exact hF|(exfalso;contradiction)|(exfalso;omega)|skip
 refine za1 hF fun Bd Ed hBd hEd hF=>?_;refine zai (ι:=Nat) [2,3,4,5] (fun z=>[(5,.n z)]) (fun _=>[]) (fun z=>z) (s.tracks.length) (fun z=>(zaK Bd Ed (s.tracks.length-z) z ()=X)) (0) ?_;rintro i ⟨hk,hF⟩;(try dsimp only at hk hF ⊢);rcases Nat.lt_or_ge i s.tracks.length with hlt|hge
 ·rw[zaJ hBd hlt]at hF;(try dsimp only at hF)
  (repeat' first|refine zaa [0,1,2,3,4,5,6,7,8,33,38,62,67,103,108,143,145] fun K hK=>?_|(refine hK.go ?_;clear hK K)|with_reducible exact wT|refine wA ?_|(refine wE (fun h0 h=>?_) (fun h0 h=>?_)<;>first|exact wN h|((try replace hF:=wX hF);clear h0;first|exact hF.elim|((try subst (h:(_:Bool)=_));try replace hF:=wX hF)))|(refine wQ ?_;clear hQ hR hE hM)|fail)
  all_goals first|exact hF|(exfalso;contradiction)|(exfalso;omega)|exact congrArg AV.b hF|exact nX (i+1)
 ·rw[za0 hge,hEd]at hF;(try dsimp only at hF)
  (repeat' first|refine zaa [0,1,2,3,4,5,6,7,8,33,38,62,67,103,108,143,145] fun K hK=>?_|(refine hK.go ?_;clear hK K)|with_reducible exact wT|refine wA ?_|(refine wE (fun h0 h=>?_) (fun h0 h=>?_)<;>first|exact wN h|((try replace hF:=wX hF);clear h0;first|exact hF.elim|((try subst (h:(_:Bool)=_));try replace hF:=wX hF)))|(refine wQ ?_;clear hQ hR hE hM)|fail)
  refine za1 hF fun Bd Ed hBd hEd hF=>?_;refine zai (ι:=Nat) [2,3,4,6] (fun z=>[(6,.n z)]) (fun _=>[]) (fun z=>z) (s.switches.length) (fun z=>(zaK Bd Ed (s.switches.length-z) z ()=X)) (0) ?_;rintro i ⟨hk,hF⟩;(try dsimp only at hk hF ⊢);rcases Nat.lt_or_ge i s.switches.length with hlt|hge
  ·rw[zaJ hBd hlt]at hF;(try dsimp only at hF)
   (repeat' first|refine zaa [0,1,2,3,4,5,6,7,8,33,38,62,67,103,108,143,145] fun K hK=>?_|(refine hK.go ?_;clear hK K)|with_reducible exact wT|refine wA ?_|(refine wE (fun h0 h=>?_) (fun h0 h=>?_)<;>first|exact wN h|((try replace hF:=wX hF);clear h0;first|exact hF.elim|((try subst (h:(_:Bool)=_));try replace hF:=wX hF)))|(refine wQ ?_;clear hQ hR hE hM)|fail)
   all_goals first|exact hF|(exfalso;contradiction)|(exfalso;omega)|exact congrArg AV.b hF|exact nX (i+1)
  ·rw[za0 hge,hEd]at hF;(try dsimp only at hF)
   (repeat' first|refine zaa [0,1,2,3,4,5,6,7,8,33,38,62,67,103,108,143,145] fun K hK=>?_|(refine hK.go ?_;clear hK K)|with_reducible exact wT|refine wA ?_|(refine wE (fun h0 h=>?_) (fun h0 h=>?_)<;>first|exact wN h|((try replace hF:=wX hF);clear h0;first|exact hF.elim|((try subst (h:(_:Bool)=_));try replace hF:=wX hF)))|(refine wQ ?_;clear hQ hR hE hM)|fail)
   refine za1 hF fun Bd Ed hBd hEd hF=>?_;refine zai (ι:=Nat) [2,3,4,8] (fun z=>[(8,.n z)]) (fun _=>[]) (fun z=>z) (s.locks.length) (fun z=>(zaK Bd Ed (s.locks.length-z) z ()=X)) (0) ?_;rintro i ⟨hk,hF⟩;(try dsimp only at hk hF ⊢);rcases Nat.lt_or_ge i s.locks.length with hlt|hge
   ·rw[zaJ hBd hlt]at hF;(try dsimp only at hF)
    have c1:=cP i (by omega)
    generalize zat (nth s.locks i) (nth p.routes i)=b at *
    (repeat' first|refine zaa [0,1,2,3,4,5,6,7,8,33,38,62,67,103,108,143,145] fun K hK=>?_|(refine hK.go ?_;clear hK K)|with_reducible exact wT|refine wA ?_|(refine wE (fun h0 h=>?_) (fun h0 h=>?_)<;>first|exact wN h|((try replace hF:=wX hF);clear h0;first|exact hF.elim|((try subst (h:(_:Bool)=_));try replace hF:=wX hF)))|(refine wQ ?_;clear hQ hR hE hM)|refine wC c1 ?_|fail)
    all_goals first|exact hF|(exfalso;contradiction)|(exfalso;omega)|exact congrArg AV.b hF|exact nX (i+1)
   ·rw[za0 hge,hEd]at hF;(try dsimp only at hF)
    (repeat' first|refine zaa [0,1,2,3,4,5,6,7,8,33,38,62,67,103,108,143,145] fun K hK=>?_|(refine hK.go ?_;clear hK K)|with_reducible exact wT|refine wA ?_|(refine wE (fun h0 h=>?_) (fun h0 h=>?_)<;>first|exact wN h|((try replace hF:=wX hF);clear h0;first|exact hF.elim|((try subst (h:(_:Bool)=_));try replace hF:=wX hF)))|(refine wQ ?_;clear hQ hR hE hM)|fail)
    all_goals first|exact hF|exact congrArg AV.b hF|trace_state
end Go.Lev
namespace Go.Lev
open Go.Eng
set_option maxRecDepth 10000
set_option maxHeartbeats 4000000
variable {P:Program} {inv:Nat→Option Nat} {w0:World} {M:Nat→Prop}
def zlJ (p:Pln) (s:State):Bool:=decide (zag p s=0)
theorem zmI {p:Pln} {s:State} (h:¬(zba p=true∧zak p s=true)):zlJ p s=false:=by
 unfold zlJ
 rw[decide_eq_false_iff_not]
 intro e
 have:=zad e
 exact h ⟨this.1,this.2.1⟩
theorem pth_len {p:Pln} (h:zba p=true) (i:Nat) (hi:i<p.routes.length):(nth p.routes i).path.length≤1000000:=by
 have:=(zcO (zaN h).1 (zab hi)).2.1
 omega
theorem zpw (hH:HasAll P inv) (p:Pln) (hp:Sm p) (s:State) (hs:SmS s):PC P inv 299 [.agg p.c,.agg s.c] (·=.b (zlJ p s)):=by
 have c1:=zkS hH p hp
 by_cases ho:zba p=true
 ·have c2:=zpe hH p hp s hs (pth_len ho)
  by_cases hpa:zak p s=true
  ·have hok:=(zaN ho).1
   have hpl:=zan hpa
   have hl3:=hs.2.2
   have hl2:=hs.2.1
   have hl1:=hp.pts
   obtain ⟨X,hF⟩:∃ X,mayF s (zdv p s) (zd0 p s)=X:=⟨_,rfl⟩
   unfold zlJ
   rw[←mayF_eq ho hpa,hF]
   have cH:∀ i,i<s.locks.length→PC P inv 302 [.agg p.c,.agg (nth s.locks i).c,.n i] (·=.sl 1 ((zdv p s i).map zcP))∧(zdv p s i).length≤1000000∧∀ m∈zdv p s i,0≤m∧m≤99:=fun i hi=>by
    have hm:i<p.routes.length:=by omega
    have hwl:=zbH hok (zab hm)
    refine ⟨held_ref hH p hp ho hm (nth s.locks i), ?_,fun m hm2=>?_⟩
    ·unfold zdv zbz
     split
     ·simp
     ·rw[List.length_append,List.length_drop];omega
    ·have hwp:=zbC ((zaN ho).2.1 _ (zab hm))
     have h1:m∈(nth p.routes i).path++(nth p.routes i).over:=by
      unfold zdv zbz at hm2
      split at hm2
      ·cases hm2
      ·rw[hwp.1,hwp.2.1]at hm2
       rcases List.mem_append.1 hm2 with h|h
       ·exact List.mem_append.2 (.inl (List.mem_of_mem_drop h))
       ·exact List.mem_append.2 (.inr h)
     obtain ⟨q,hq,e⟩:=(zcc hok (zab hm)).1 m h1
     have:=zdq hok hq
     omega
   have cA:∀ i,i<s.locks.length→PC P inv 303 [.agg p.c,.agg (nth s.locks i).c,.n i] (·=.sl 3 ((zd0 p s i).map AskR.c))∧(zd0 p s i).length≤1000000∧∀ a∈zd0 p s i,(1≤a.pnt∧a.pnt≤99)∧∃ q:Nat,q<p.points.length∧q<s.switches.length∧PC P inv 294 [.agg p.c,.n a.pnt] (·=.n q)∧(nth s.switches q).call=zby s a.pnt:=fun i hi=>by
    have hm:i<p.routes.length:=by omega
    have hwl:=zbH hok (zab hm)
    have hsub:∀ a∈zd0 p s i,a∈(zah p (nth p.routes i)).1.asks:=fun a ha=>by
     unfold zd0 at ha
     have:=(List.mem_filter.1 ha).1
     unfold zbK at this
     split at this
     ·cases this
     ·exact this
    refine ⟨asks_ref hH p hp ho hm (nth s.locks i), ?_,fun a ha=>?_⟩
    ·unfold zd0 zbK
     split
     ·simp
     ·have:=List.length_filter_le (zcz (nth s.locks i)) (zah p (nth p.routes i)).1.asks
      omega
    ·obtain ⟨⟨x,hx,ex⟩,h2,_⟩:=zbG hok (zab hm) (hsub a ha)
     refine ⟨h2, ?_⟩
     have c3:=pntR_ref hH p (by omega) a.pnt
     rcases zaV Pnt.id a.pnt p.points with ⟨_,h4⟩|⟨q,hq,h4,h5⟩
     ·exact absurd ex (h4 x hx)
     ·rw[h4]at c3
      refine ⟨q,hq,by omega,c3, ?_⟩
      have hsw:=swt_pnt hpa (show q<s.switches.length by omega)
      rw[←h5,←hsw]
      exact (zll hok hpa (zab (by omega))).symm
   rw[ho]at c1
   rw[hpa]at c2
   unfold mayF at hF
   obtain ⟨HH,hHH⟩:∃ HH,List.replicate 100 false=HH:=⟨_,rfl⟩
   obtain ⟨AA,hAA⟩:∃ AA,List.replicate 100 (0:Int)=AA:=⟨_,rfl⟩
   rw[hHH,hAA]at hF
   have r0:List.replicate 100 (AV.b false)=HH.map AV.b:=by rw[←hHH,List.map_replicate]
   have r1:List.replicate 100 (AV.i .i64 0)=AA.map AV.n:=by rw[←hAA,List.map_replicate]
   have lHH:HH.length=100:=by rw[←hHH,List.length_replicate]
   have lAA:AA.length=100:=by rw[←hAA,List.length_replicate]
   clear hHH hAA
   generalize zdv p s=hd at *
   generalize zd0 p s=as at *
   clear hpl hok hpa ho
   refine PC.fn hH cd299 fun w0 M Q hM hE hQ hR=>?_;dsimp only[cd299,qm,ql,qf,qi,qb,qc,qp,qv,qN,qT,qF,qt]at hQ ⊢
   skip
   (have hX:=zA @r0 (zA @r1 (zA @lHH @lAA));(repeat' first|refine zaa [0,1,2,3,4,5,6,7,8,9,10,11,12,21,26,36,40,48,61,65,99] fun K hK=>?_|(refine hK.go ?_;clear hK K)|with_reducible exact wT|refine wA ?_|(refine wE (fun h0 h=>?_) (fun h0 h=>?_)<;>first|exact wN h|((try replace hF:=wX hF);clear h0;first|exact hF.elim|((try subst (h:(_:Bool)=_));try replace hF:=wX hF)))|(refine wQ ?_;clear hQ hR hE hM)|refine wC c1 ?_|refine wC c2 ?_|fail);all_goals clear hX)
   all_goals first|(exfalso;contradiction)|skip
   refine za1 hF fun Bd Ed hBd hEd hF=>?_
   refine zai (ι:=Nat×(List Bool)×(List Int)) [2,3,4,5,6,7] (fun z=>[(7,.n z.1)]) (fun z=>[(2,.cells (z.2.1.map AV.b) true),(3,.cells (z.2.2.map AV.n) true)]) (fun z=>z.1) (s.locks.length) (fun z=>(zaK Bd Ed (s.locks.length-z.1) z.1 (z.2.1,z.2.2)=X)∧(z.2.1.length=100)∧(z.2.2.length=100)) (0,HH,AA) ?_;rintro ⟨i,H,A⟩ ⟨hk,hF,hHl,hAl⟩;(try dsimp only at hk hF hHl hAl ⊢);rcases Nat.lt_or_ge i s.locks.length with hlt|hge
   ·rw[zaJ hBd hlt]at hF;(try dsimp only at hF)
    obtain ⟨d1,dl1,dr1⟩:=cH i hlt
    obtain ⟨d2,dl2,dr2⟩:=cA i hlt
    generalize hd i=hls at *
    generalize as i=als at *
    (have hX:=zA @hHl @hAl;(repeat' first|refine zaa [0,1,2,3,4,5,6,7,8,9,10,11,12,21,26,36,40,48,61,65,99] fun K hK=>?_|(refine hK.go ?_;clear hK K)|with_reducible exact wT|refine wA ?_|(refine wE (fun h0 h=>?_) (fun h0 h=>?_)<;>first|exact wN h|((try replace hF:=wX hF);clear h0;first|exact hF.elim|((try subst (h:(_:Bool)=_));try replace hF:=wX hF)))|(refine wQ ?_;clear hQ hR hE hM)|refine wC d1 ?_|fail);all_goals clear hX)
    refine za1 hF fun Bd Ed hBd hEd hF=>?_
    refine zai (ι:=Nat×(List Bool)) [2,3,4,5,6,7,8,9] (fun z=>[(9,.n z.1)]) (fun z=>[(2,.cells (z.2.map AV.b) true)]) (fun z=>z.1) (hls.length) (fun z=>(zaK Bd Ed (hls.length-z.1) z.1 z.2=X)∧(z.2.length=100)) (0,H) ?_;rintro ⟨k,H⟩ ⟨hk,hF,hHl⟩;(try dsimp only at hk hF hHl ⊢);rcases Nat.lt_or_ge k hls.length with hlt|hge
    ·rw[zaJ hBd hlt]at hF;(try dsimp only at hF)
     have hb:=dr1 _ (zab (show k<hls.length by assumption))
     have hset:(H.map AV.b).set (nth hls k).toNat (.b true)=(H.set (nth hls k).toNat true).map AV.b:=by rw[List.map_set]
     cases hbk:nth H (nth hls k).toNat with
     |true =>
      rw[hbk,cond_true]at hF
      (have hX:=zA @hHl (zA @hAl @hbk);(repeat' first|refine zaa [0,1,2,3,4,5,6,7,8,9,10,11,12,21,26,36,40,48,61,65,99] fun K hK=>?_|(refine hK.go ?_;clear hK K)|with_reducible exact wT|refine wA ?_|(refine wE (fun h0 h=>?_) (fun h0 h=>?_)<;>first|exact wN h|((try replace hF:=wX hF);clear h0;first|exact hF.elim|((try subst (h:(_:Bool)=_));try replace hF:=wX hF)))|(refine wQ ?_;clear hQ hR hE hM)|fail);all_goals clear hX)
      all_goals first|exact hF|(exfalso;contradiction)|exact congrArg AV.b hF|trace_state
     |false =>
      rw[hbk,cond_false]at hF
      (have hX:=zA @hHl (zA @hAl (zA @hbk @hset));(repeat' first|refine zaa [0,1,2,3,4,5,6,7,8,9,10,11,12,21,26,36,40,48,61,65,99] fun K hK=>?_|(refine hK.go ?_;clear hK K)|with_reducible exact wT|refine wA ?_|(refine wE (fun h0 h=>?_) (fun h0 h=>?_)<;>first|exact wN h|((try replace hF:=wX hF);clear h0;first|exact hF.elim|((try subst (h:(_:Bool)=_));try replace hF:=wX hF)))|(refine wQ ?_;clear hQ hR hE hM)|fail);all_goals clear hX)
      all_goals first|(exfalso;contradiction)|(exact nY (k+1,H.set (nth hls k).toNat true) ⟨by (try dsimp only);omega,hF,by (try dsimp only);rw[List.length_set];exact hHl⟩;done)|trace_state
    ·rw[za0 hge,hEd]at hF;(try dsimp only at hF)
     (have hX:=zA @hHl @hAl;(repeat' first|refine zaa [0,1,2,3,4,5,6,7,8,9,10,11,12,21,26,36,40,48,61,65,99] fun K hK=>?_|(refine hK.go ?_;clear hK K)|with_reducible exact wT|refine wA ?_|(refine wE (fun h0 h=>?_) (fun h0 h=>?_)<;>first|exact wN h|((try replace hF:=wX hF);clear h0;first|exact hF.elim|((try subst (h:(_:Bool)=_));try replace hF:=wX hF)))|(refine wQ ?_;clear hQ hR hE hM)|refine wC d2 ?_|fail);all_goals clear hX)
     refine za1 hF fun Bd Ed hBd hEd hF=>?_
     refine zai (ι:=Nat×(List Int)) [2,3,4,5,6,7,10,11] (fun z=>[(11,.n z.1)]) (fun z=>[(3,.cells (z.2.map AV.n) true)]) (fun z=>z.1) (als.length) (fun z=>(zaK Bd Ed (als.length-z.1) z.1 z.2=X)∧(z.2.length=100)) (0,A) ?_;rintro ⟨q,A⟩ ⟨hk,hF,hAl⟩;(try dsimp only at hk hF hAl ⊢);rcases Nat.lt_or_ge q als.length with hlt|hge
     ·rw[zaJ hBd hlt]at hF;(try dsimp only at hF)
      obtain ⟨hb,pl,hpl1,hpl2,d3,e3⟩:=dr2 _ (zab (show q<als.length by assumption))
      rw[←e3]at hF
      have hset:(A.map AV.n).set (nth als q).pnt.toNat (.n (nth als q).lie)=(A.set (nth als q).pnt.toNat (nth als q).lie).map AV.n:=by rw[List.map_set]
      clear e3
      (have hX:=zA @hHl (zA @hAl (zA @hset @Int.toNat_natCast));(repeat' first|refine zaa [0,1,2,3,4,5,6,7,8,9,10,11,12,21,26,36,40,48,61,65,99] fun K hK=>?_|(refine hK.go ?_;clear hK K)|with_reducible exact wT|refine wA ?_|(refine wE (fun h0 h=>?_) (fun h0 h=>?_)<;>first|exact wN h|((try replace hF:=wX hF);clear h0;first|exact hF.elim|((try subst (h:(_:Bool)=_));try replace hF:=wX hF)))|(refine wQ ?_;clear hQ hR hE hM)|refine wC d3 ?_|refine wU d3 ?_|fail);all_goals clear hX)
      all_goals first|exact hF|(exfalso;contradiction)|exact congrArg AV.b hF|(exact nY (q+1,A.set (nth als q).pnt.toNat (nth als q).lie) ⟨by (try dsimp only);omega,hF,by (try dsimp only);rw[List.length_set];exact hAl⟩;done)|trace_state
     ·rw[za0 hge,hEd]at hF;(try dsimp only at hF)
      (have hX:=zA @hHl @hAl;(repeat' first|refine zaa [0,1,2,3,4,5,6,7,8,9,10,11,12,21,26,36,40,48,61,65,99] fun K hK=>?_|(refine hK.go ?_;clear hK K)|with_reducible exact wT|refine wA ?_|(refine wE (fun h0 h=>?_) (fun h0 h=>?_)<;>first|exact wN h|((try replace hF:=wX hF);clear h0;first|exact hF.elim|((try subst (h:(_:Bool)=_));try replace hF:=wX hF)))|(refine wQ ?_;clear hQ hR hE hM)|fail);all_goals clear hX)
      all_goals first|(exact nY (i+1,H,A) ⟨by (try dsimp only);omega,hF,hHl,hAl⟩;done)|trace_state
   ·rw[za0 hge,hEd]at hF;(try dsimp only at hF)
    (repeat' first|refine zaa [0,1,2,3,4,5,6,7,8,9,10,11,12,21,26,36,40,48,61,65,99] fun K hK=>?_|(refine hK.go ?_;clear hK K)|with_reducible exact wT|refine wA ?_|(refine wE (fun h0 h=>?_) (fun h0 h=>?_)<;>first|exact wN h|((try replace hF:=wX hF);clear h0;first|exact hF.elim|((try subst (h:(_:Bool)=_));try replace hF:=wX hF)))|(refine wQ ?_;clear hQ hR hE hM)|fail)
    all_goals first|exact hF|exact congrArg AV.b hF|trace_state
  ·have hpa2:zak p s=false:=by simpa using hpa
   rw[ho]at c1
   rw[hpa2]at c2
   rw[zmI fun h=>hpa h.2]
   refine PC.fn hH cd299 fun w0 M Q hM hE hQ hR=>?_;dsimp only[cd299,qm,ql,qf,qi,qb,qc,qp,qv,qN,qT,qF,qt]at hQ ⊢
   (repeat' first|refine zaa [0,1,2,3,4,5,6,7,8,9,10,11,12,21,26,36,40,48,61,65,99] fun K hK=>?_|(refine hK.go ?_;clear hK K)|with_reducible exact wT|refine wA ?_|(refine wB (fun h=>?_) (fun h=>?_)<;>first|exact wN h|subst (h:(_:Bool)=_)|skip)|(refine wQ ?_;clear hQ hR hE hM)|refine wC c1 ?_|refine wC c2 ?_|fail)
   all_goals first|rfl|(exfalso;contradiction)|trace_state
 ·have ho2:zba p=false:=by simpa using ho
  rw[ho2]at c1
  rw[zmI fun h=>ho h.1]
  refine PC.fn hH cd299 fun w0 M Q hM hE hQ hR=>?_;dsimp only[cd299,qm,ql,qf,qi,qb,qc,qp,qv,qN,qT,qF,qt]at hQ ⊢
  (repeat' first|refine zaa [0,1,2,3,4,5,6,7,8,9,10,11,12,21,26,36,40,48,61,65,99] fun K hK=>?_|(refine hK.go ?_;clear hK K)|with_reducible exact wT|refine wA ?_|(refine wB (fun h=>?_) (fun h=>?_)<;>first|exact wN h|subst (h:(_:Bool)=_)|skip)|(refine wQ ?_;clear hQ hR hE hM)|refine wC c1 ?_|fail)
  all_goals first|rfl|(exfalso;contradiction)|trace_state
end Go.Lev
namespace Go.Lev
open Go.Eng
set_option maxRecDepth 10000
set_option maxHeartbeats 4000000
variable {P:Program} {inv:Nat→Option Nat} {w0:World} {M:Nat→Prop}
theorem zc2 (hH:HasAll P inv) (p:Pln) (hp:Sm p) (s:State) (hs:SmS s):PC P inv 292 [.agg p.c,.agg s.c] (·=.n (zag p s)):=by
 have c1:=zkS hH p hp
 have c2:=zpw hH p hp s hs
 have key:zag p s=if zba p=true then (if zlJ p s=true then 0 else 8) else 100:=by
  unfold zlJ zag
  split
  ·split
   ·rfl
   ·rfl
  ·rfl
 rw[key]
 generalize zba p=a at *
 generalize zlJ p s=b at *
 clear key
 cases a with
 |true =>
  cases b with
  |true =>
   refine PC.fn hH cd292 fun w0 M Q hM hE hQ hR=>?_;dsimp only[cd292,qm,ql,qf,qi,qb,qc,qp,qv,qN,qT,qF,qt]at hQ ⊢
   (repeat' first|refine zaa [0,1,2,3,4,7,11] fun K hK=>?_|(refine hK.go ?_;clear hK K)|with_reducible exact wT|refine wA ?_|(refine wB (fun h=>?_) (fun h=>?_)<;>first|exact wN h|subst (h:(_:Bool)=_)|skip)|(refine wQ ?_;clear hQ hR hE hM)|refine wC c1 ?_|refine wC c2 ?_|fail)
   all_goals first|rfl|(exfalso;contradiction)|trace_state
  |false =>
   refine PC.fn hH cd292 fun w0 M Q hM hE hQ hR=>?_;dsimp only[cd292,qm,ql,qf,qi,qb,qc,qp,qv,qN,qT,qF,qt]at hQ ⊢
   (repeat' first|refine zaa [0,1,2,3,4,7,11] fun K hK=>?_|(refine hK.go ?_;clear hK K)|with_reducible exact wT|refine wA ?_|(refine wB (fun h=>?_) (fun h=>?_)<;>first|exact wN h|subst (h:(_:Bool)=_)|skip)|(refine wQ ?_;clear hQ hR hE hM)|refine wC c1 ?_|refine wC c2 ?_|fail)
   all_goals first|rfl|(exfalso;contradiction)|trace_state
 |false =>
  refine PC.fn hH cd292 fun w0 M Q hM hE hQ hR=>?_;dsimp only[cd292,qm,ql,qf,qi,qb,qc,qp,qv,qN,qT,qF,qt]at hQ ⊢
  (repeat' first|refine zaa [0,1,2,3,4,7,11] fun K hK=>?_|(refine hK.go ?_;clear hK K)|with_reducible exact wT|refine wA ?_|(refine wB (fun h=>?_) (fun h=>?_)<;>first|exact wN h|subst (h:(_:Bool)=_)|skip)|(refine wQ ?_;clear hQ hR hE hM)|refine wC c1 ?_|fail)
  all_goals first|rfl|(exfalso;contradiction)|trace_state
def ofF (s:State) (hd:Nat→List Int) (n:Int):Int :=
 zaK (fun i _ za9=>zaK (fun k _ next2=>cond (decide (nth (hd i) k=n)) (nth s.locks i).id (next2 ())) (fun _=>za9 ()) (hd i).length 0 ()) (fun _=>0) s.locks.length 0 ()
def lieF (s:State) (as:Nat→List AskR) (n:Int):Int :=
 zaK (fun i _ za9=>zaK (fun k _ next2=>cond (decide ((nth (as i) k).pnt=n)) (nth (as i) k).lie (next2 ())) (fun _=>za9 ()) (as i).length 0 ()) (fun _=>0) s.locks.length 0 ()
end Go.Lev
namespace Go.Lev
open Go.Eng
set_option maxRecDepth 10000
set_option maxHeartbeats 4000000
variable {P:Program} {inv:Nat→Option Nat} {w0:World} {M:Nat→Prop}
theorem zjT (hH:HasAll P inv) (p:Pln) (hp:Sm p) (s:State) (hs:SmS s) (hst:zag p s=0) {n:Int} (hn:isSec p n=true):PC P inv 335 [.agg p.c,.agg s.c,.n n] (·=.i .u8 (zc6 s n)):=by
 have ho:=zar hst
 have hpa:=(zad hst).2.1
 have hpl:=zan hpa
 have c1:=secR_ref hH p (by have:=hp.sec;omega) n
 obtain ⟨x,hx,ex⟩:=List.any_eq_true.1 hn
 have ex:x.id=n:=by simpa using ex
 rcases zaV Section.id n p.sections with ⟨_,h4⟩|⟨k,hk,h4,h5⟩
 ·exact absurd ex (h4 x hx)
 ·rw[h4]at c1
  have hks:k<s.tracks.length:=by omega
  have h1:=(zcn _ _ _).1 (by simp only[zak,Bool.and_eq_true]at hpa;exact hpa.1)
  have h2:=h1.2 k hks
  simp only[zfZ,Bool.and_eq_true,decide_eq_true_eq]at h2
  have h3:=zpH ho hpa hks
  rw[h2.1,h5]at h3
  rw[h3]
  have hl1:=hs.1
  clear hst ho hpa hpl h1 h2 h3 h5 hn
  refine PC.fn hH cd335 fun w0 M Q hM hE hQ hR=>?_;dsimp only[cd335,qm,ql,qf,qi,qb,qc,qp,qv,qN,qT,qF,qt]at hQ ⊢
  (have hX:=@Int.toNat_natCast;(repeat' first|refine zaa [0,1,2,3,4,6] fun K hK=>?_|(refine hK.go ?_;clear hK K)|with_reducible exact wT|refine wA ?_|(refine wB (fun h=>?_) (fun h=>?_)<;>first|exact wN h|subst (h:(_:Bool)=_)|skip)|(refine wQ ?_;clear hQ hR hE hM)|refine wC c1 ?_|refine wU c1 ?_|fail);all_goals clear hX)
  all_goals first|rfl|(exfalso;omega)|trace_state
def mayAt (p:Pln) (s:State) (k:Nat):Int:=if nth (zaO p s).2.1 (nth p.points k).id.toNat=0 then (if zc6 s (nth p.points k).sec=0 then 0 else 171) else 170
theorem zeb (hH:HasAll P inv) (s:State) (hs:SmS s):PO P inv 14 [.agg s.c] (stV s) (stR s):=by
 have h1:=hs.1
 have h2:=hs.2.1
 have h3:=hs.2.2
 unfold stV stR
 refine PO.fn hH cd14 fun w0 M Q hM hE hQ hR=>?_;dsimp only[cd14,qm,ql,qf,qi,qb,qc,qp,qv,qN,qT,qF,qt]at hQ ⊢
 (repeat' first|refine zaa [0,1,2,11] fun K hK=>?_|(refine hK.go ?_;clear hK K)|with_reducible exact wT|refine wA ?_|(refine wB (fun h=>?_) (fun h=>?_)<;>first|exact wN h|subst (h:(_:Bool)=_)|skip)|(refine wR ?_;clear hQ hR hE hM)|fail)
 left
 constructor
 ·(refine no_implicit_lambda% (st ?_);try with_reducible exact wT)
 ·(refine no_implicit_lambda% (st ?_);try with_reducible exact wT)
end Go.Lev
namespace Go.Lev
open Go.Eng
def msF (p:Pln) (s:State) (all:List Int) (asks:List AskR) (H:Int→Int):Int :=
 zaK (fun i _ za9=>cond (!decide (H (nth all i)=0)) 181 (cond (!decide (zc6 s (nth all i)=0)) 182 (za9 ())))
  (fun _=>zaK (fun i _ za9=>cond (!decide (zby s (nth asks i).pnt=(nth asks i).lie)&&!decide (mayC p s (nth asks i).pnt=0)) 183 (za9 ())) (fun _=>0) asks.length 0 ()) all.length 0 ()
end Go.Lev
namespace Go.Lev
open Go.Eng
set_option maxRecDepth 10000
set_option maxHeartbeats 4000000
variable {P:Program} {inv:Nat→Option Nat} {w0:World} {M:Nat→Prop}
theorem zdL {l:List Int} {k:Nat} (h:k<l.length):(l.map zcP).flatten[k]?=some (.n (nth l k)):=by
 have:=zfH (c:=zcP) (l:=l) (k:=k) (i:=0) h (by omega)
 rw[Nat.mul_one,Nat.add_zero]at this
 rw[this]
 rfl
end Go.Lev
namespace Go.Lev
open Go.Eng
set_option maxRecDepth 10000
set_option maxHeartbeats 4000000
variable {P:Program} {inv:Nat→Option Nat} {w0:World} {M:Nat→Prop}
def itS (p:Pln) (s:State) (i:Nat) (l:Lock):Lock:=zdj (nth p.routes i) (zc6 s) 10 l
def setS (p:Pln) (s:State) (i m:Nat):State:=⟨s.tracks,s.switches,(zb4 (itS p s) i s.locks).set i (zdj (nth p.routes i) (zc6 s) m (nth s.locks i))⟩
end Go.Lev
namespace Go.Lev
open Go.Eng
theorem of_ar {n:Nat} {e:Sh} {d:D} (h:Sh.ok (.ar n e) d):∃ l,d=.l l∧l.length=n∧∀ x∈l,Sh.ok e x:=by
 cases d with
 |l l=>exact ⟨l,rfl,by simpa only[Sh.ok] using h⟩
 |t _=>exact h.elim
 |n _=>exact h.elim
theorem arg_arr2 {d:D} (h:Sh.ok (.ar 2 (.i .i64)) d):∃ a b:Int,Sh.arg (.ar 2 (.i .i64)) d=.agg [.n a,.n b]:=by
 obtain ⟨l,rfl,hl,h⟩:=of_ar h
 match l,hl,h with
 |[x,y],_,h =>
  obtain ⟨a,rfl,_⟩:=zbw (h x (by simp))
  obtain ⟨b,rfl,_⟩:=zbw (h y (by simp))
  exact ⟨a,b,rfl⟩
theorem arg_bool {d:D} (h:Sh.ok .b d):∃ t,Sh.arg .b d=.b t:=by
 cases d with
 |t t=>exact ⟨t,rfl⟩
 |l _=>exact h.elim
 |n _=>exact h.elim
end Go.Lev
namespace Go.Lev
open Go.Eng
set_option maxRecDepth 10000
set_option maxHeartbeats 4000000
variable {P:Program} {inv:Nat→Option Nat} {w0:World} {M:Nat→Prop}
def planB:Pln:=⟨1,0,[⟨1,0,[⟨0,0⟩,⟨2,0⟩]⟩,⟨2,5,[⟨1,1⟩,⟨3,0⟩,⟨4,0⟩]⟩,⟨3,0,[⟨2,1⟩,⟨0,0⟩]⟩,⟨4,0,[⟨2,2⟩,⟨0,0⟩]⟩],[⟨5,2⟩],[⟨1,1,1⟩],[⟨1,1,0,[2,3],[],[],3⟩]⟩
def stB:State:=⟨[⟨1,2⟩,⟨2,2⟩,⟨3,2⟩,⟨4,2⟩],[⟨5,0,0⟩],[⟨1,0,0,0⟩]⟩
def stB2:State:=⟨[⟨1,2⟩,⟨2,0⟩,⟨3,2⟩,⟨4,2⟩],[⟨5,0,0⟩],[⟨1,0,0,0⟩]⟩
def stB3:State:=⟨[⟨1,2⟩,⟨2,0⟩,⟨3,2⟩,⟨4,2⟩],[⟨5,0,2⟩],[⟨1,0,0,0⟩]⟩
end Go.Lev
namespace Go.Lev
open Go.Eng
set_option maxRecDepth 10000
set_option maxHeartbeats 4000000
variable {P:Program} {inv:Nat→Option Nat} {w0:World} {M:Nat→Prop}
def hasT (s:State) (n:Int):Bool:=s.tracks.any fun t=>decide (t.id=n)
def hasW (s:State) (n:Int):Bool:=s.switches.any fun t=>decide (t.id=n)
def ibF (s A B:State) (n v e1 e2:Int):Bool :=
 zaK (fun k t za9 =>
   cond (decide (e1=0)&&(decide ((nth s.tracks k).id=n)&&!decide ((nth A.tracks k).is=v)||!decide ((nth s.tracks k).id=n)&&!(decide ((nth A.tracks k).id=(nth s.tracks k).id)&&decide ((nth A.tracks k).is=(nth s.tracks k).is))))
    false (za9 (t||decide ((nth s.tracks k).id=n))))
  (fun t=>zaK (fun k u za9 =>
    cond (decide (e2=0)&&(decide ((nth s.switches k).id=n)&&(!decide ((nth B.switches k).lie=v)||!decide ((nth B.switches k).call=(nth s.switches k).call))||!decide ((nth s.switches k).id=n)&&!(decide ((nth B.switches k).id=(nth s.switches k).id)&&(decide ((nth B.switches k).lie=(nth s.switches k).lie)&&decide ((nth B.switches k).call=(nth s.switches k).call)))))
     false (za9 (u||decide ((nth s.switches k).id=n))))
   (fun u=>decide (decide (e1=0)=(t&&(decide (v=0)||decide (v=1))))&&decide (decide (e2=0)=(u&&(decide (0≤v)&&decide (v≤2)))))
   s.switches.length 0 false)
  s.tracks.length 0 false
end Go.Lev
namespace Go.Eng
open Go.RowKit
mutual
/-- Numbers,truth values,names: nothing that lies in memory nobody names. -/
def nmV:AV→Bool
 |.agg cs=>nmL cs
 |.tup cs=>nmL cs
 |.i _ _=>true|.b _=>true|.v _=>true|.u=>true|.s0 _=>true|.ptr _ _ _=>true|.sm _ _ _ _ _=>true
 |.sl _ _=>false|.ip _ _ _ _=>false|.fn _ _=>false|.mp _=>false|.top=>false
def nmL:List AV→Bool
 |[]=>true
 |x::xs=>nmV x&&nmL xs
end
mutual
theorem zpq {c c':Ctx} (hS:c'.S=c.S):∀ (x:AV) (y:Value),nmV x=true→rel c x y→rel c' x y
 |.agg cs,y,s,r=>by
  simp only[rel]at r ⊢
  obtain ⟨xs,e,r⟩:=r
  exact ⟨xs,e,zjI hS cs _ (by simpa only[nmV] using s) r⟩
 |.tup cs,y,s,r=>by
  simp only[rel]at r ⊢
  obtain ⟨xs,e,r⟩:=r
  exact ⟨xs,e,zps hS cs _ (by simpa only[nmV] using s) r⟩
 |.i _ _,_,_,r=>by simpa only[rel] using r
 |.b _,_,_,r=>by simpa only[rel] using r
 |.v _,_,_,r=>by simpa only[rel] using r
 |.u,_,_,r=>by simpa only[rel] using r
 |.s0 _,_,_,r=>by simpa only[rel] using r
 |.ptr _ _ _,_,_,r=>by simpa only[rel,hS] using r
 |.sm _ _ _ _ _,_,_,r=>by simpa only[rel,hS] using r
 |.sl _ _,_,s,_=>by simp[nmV]at s
 |.ip _ _ _ _,_,s,_=>by simp[nmV]at s
 |.fn _ _,_,s,_=>by simp[nmV]at s
 |.mp _,_,s,_=>by simp[nmV]at s
 |.top,_,s,_=>by simp[nmV]at s
theorem zps {c c':Ctx} (hS:c'.S=c.S):∀ (xs:List AV) (ys:List Value),nmL xs=true→zbQ c xs ys→zbQ c' xs ys
 |[],ys,_,r=>by simpa only[zbQ] using r
 |x::xs,ys,s,r=>by
  simp only[nmL,Bool.and_eq_true]at s
  simp only[zbQ]at r ⊢
  obtain ⟨y,ys',e,r1,r2⟩:=r
  exact ⟨y,ys',e,zpq hS x y s.1 r1,zps hS xs ys' s.2 r2⟩
theorem zjI {c c':Ctx} (hS:c'.S=c.S):∀ (xs:List AV) (ys:List Value),nmL xs=true→relCs c xs ys→relCs c' xs ys
 |[],ys,_,r=>by simpa only[relCs] using r
 |x::xs,ys,s,r=>by
  simp only[nmL,Bool.and_eq_true]at s
  simp only[relCs]at r ⊢
  obtain ⟨y,ys',e,ho,r1,r2⟩:=r
  exact ⟨y,ys',e,ho,zpq hS x y s.1 r1,zjI hS xs ys' s.2 r2⟩
end
def nmR:List (Nat×AO)→Bool
 |[]=>true
 |(_,.cells cs _)::r=>nmL cs&&nmR r
 |_::r=>nmR r
theorem zpr:∀ {σ:List (Nat×AO)},nmR σ=true→∀ {l:Nat} {cs:List AV} {b:Bool},zaB σ l=some (.cells cs b)→nmL cs=true
 |[],_,l,cs,b,e=>by simp[zaB]at e
 |(k,o)::r,h,l,cs,b,e=>by
  have hr:nmR r=true:=by
   cases o with
   |cells cs' b'=>simp only[nmR,Bool.and_eq_true]at h;exact h.2
   |imap kvs=>exact h
   |rsv=>exact h
  unfold zaB at e
  split at e
  ·simp only[Option.some.injEq]at e
   subst e
   simp only[nmR,Bool.and_eq_true]at h
   exact h.1
  ·exact zpr hr e
theorem zpt:∀ (xs ys:List AV),nmL (xs++ys)=(nmL xs&&nmL ys)
 |[],ys=>by simp[nmL]
 |x::xs,ys=>by simp[nmL,zpt xs ys,Bool.and_assoc]
theorem zjH {α:Type} {c:α→List AV} (h:∀ a,nmL (c a)=true) (l:List α):nmL (l.map c).flatten=true:=by
 induction l with
 |nil=>rfl
 |cons x l ih=>simp[zpt,h x,ih]
section
variable {P:Program} {inv:Nat→Option Nat} {w0:World} {M:Nat→Prop} {n N:Nat} {φ:AF} {σ:AS}
theorem PO.snapK (hM:∀ b,M b→b<w0.heap.size) (k:Nat) {j:Nat} {args args':List AV} {r:AV} {σ0:AS} (h:PO P inv j args' r σ0) (he:zbT k σ args=args') (hr:nmV r=true) (hs:nmR σ0=true) {K:AV→AS→Prop}
  (hk:K (shV (zax N φ σ) r) (zke σ (shS (zax N φ σ) σ0))):CallK P inv w0 M N φ σ j args K:=by
 obtain ⟨f1,f2,f3⟩:=zbB N φ σ
 refine ⟨zax N φ σ,f1,f2,fun g hg β w vs hm ha=>?_⟩
 have hf:=zfg hm hM (A':=fun _=>False) (fun _ h=>h.elim) k
 have ha2:=zd8 hm hM (fun _ h=>h.elim) hf _ _ ha
 rw[show zca (zgO k σ) args=args' from he]at ha2
 have hle:Ctx.Le ⟨inv,w,fun _=>False,fun _=>none⟩ (ctx inv (fun _=>False) [] (fun _=>0) w):=⟨rfl,Nat.le_refl _,fun _ _ _=>rfl,fun b _ hb=>by
  rcases hb with hb|⟨l,o,e,_⟩
  ·exact hb
  ·simp[zaB]at e⟩
 have hS:(ctx inv (fun _=>False) [] (fun _=>0) w).S=fun _=>Option.none:=by funext l;simp[ctx,zal,zaB]
 refine (h w (fun _=>False) (fun _ h=>h.elim) g hg (fun _=>0) w vs (Mem.none w) (zce (N:=0) hle _ _ (.inr hS) ha2)).mono ?_
 rintro e w' ⟨v,r',σ',β',rfl,⟨rfl,rfl⟩,hm',_,hr'⟩
 have hm2:Mem inv w (avoid M σ β) σ' β' w':=⟨hm'.below,hm'.inj,hm'.own,fun l cs e=>by
  obtain ⟨xs,ty,q1,q2,q3⟩:=hm'.cells l cs e
  exact ⟨xs,ty,q1,q2,zjI (c:=ctx inv (fun _=>False) σ' β' w') (c':=ctx inv (avoid M σ β) σ' β' w') rfl _ _ (zpr hs e) q3⟩,hm'.ghost,hm'.maps⟩
 obtain ⟨j1,j2,j3⟩:=hm.join hm2 (zax N φ σ) f3
 exact ⟨v,_,_,_,rfl,hk,j1,j2,j3 _ _ (zpq (c:=ctx inv (fun _=>False) σ' β' w') (c':=ctx inv (avoid M σ β) σ' β' w') rfl _ _ hr hr')⟩
end
end Go.Eng
namespace Go.Lev
open Go.Eng
set_option maxRecDepth 10000
set_option maxHeartbeats 4000000
variable {P:Program} {inv:Nat→Option Nat} {w0:World} {M:Nat→Prop}
def pgF (p:Pln) (s:State) (n:Int):Bool×Int :=
 zaK (fun i (st:Bool×Int) za9=>cond (!decide ((nth p.points i).id=n)) (za9 st)
   (zaK (fun k (fr:Bool) next2=>next2 (fr||decide ((nth s.tracks k).id=(nth p.points i).sec)&&decide ((nth s.tracks k).is=0)))
    (fun fr=>za9 (fr,(i:Int))) s.tracks.length 0 st.1))
  (fun st=>st) p.points.length 0 (false,-1)
theorem zjG (b:Nat) (s:State):nmR (zeZ b s)=true:=by
 unfold zeZ
 simp only[nmR,Bool.and_true,Bool.and_eq_true]
 exact ⟨zjH (fun _=>rfl) _,zjH (fun _=>rfl) _,zjH (fun _=>rfl) _⟩
end Go.Lev
namespace Go.Lev
open Go.Eng
set_option maxRecDepth 10000
set_option maxHeartbeats 4000000
variable {P:Program} {inv:Nat→Option Nat} {w0:World} {M:Nat→Prop}
theorem zbV (hH:HasAll P inv) {a b:State} (h:SmS a) (e:a=b):PC P inv 10 [.agg a.c,.agg b.c] (·=.b true):=by
 have:=zoV hH a b (by have:=h.1;omega) (by have:=h.2.1;omega) (by have:=h.2.2;omega)
 rw[decide_eq_true e]at this
 exact this
def w9 (_:Nat) (t:Switch):Switch:=⟨t.id,t.lie,9⟩
def t9 (_:Nat) (t:Track):Track:=⟨t.id,9⟩
end Go.Lev
namespace Go.Lev
open Go.Eng
set_option maxRecDepth 10000
set_option maxHeartbeats 4000000
variable {P:Program} {inv:Nat→Option Nat} {w0:World} {M:Nat→Prop}
def planC:Pln:=⟨1,0,[⟨1,0,[⟨0,0⟩,⟨2,0⟩]⟩,⟨2,5,[⟨1,1⟩,⟨3,0⟩,⟨4,0⟩]⟩,⟨3,0,[⟨2,1⟩,⟨0,0⟩]⟩,⟨4,0,[⟨2,2⟩,⟨0,0⟩]⟩],[⟨5,2⟩],[⟨1,1,1⟩],[⟨1,1,0,[2,3],[],[],3⟩,⟨2,1,0,[2,4],[],[],4⟩]⟩
def stN:State:=⟨[⟨1,2⟩,⟨2,2⟩,⟨3,2⟩,⟨4,2⟩],[⟨5,0,0⟩],[⟨1,0,0,0⟩,⟨2,0,0,0⟩]⟩
def stQ:State:=⟨[⟨1,0⟩,⟨2,0⟩,⟨3,0⟩,⟨4,0⟩],[⟨5,0,0⟩],[⟨1,0,0,0⟩,⟨2,0,0,0⟩]⟩
def stQ1:State:=⟨[⟨1,0⟩,⟨2,0⟩,⟨3,0⟩,⟨4,0⟩],[⟨5,0,1⟩],[⟨1,1,0,0⟩,⟨2,0,0,0⟩]⟩
def freeT (_:Nat) (t:Track):Track:=⟨t.id,0⟩
end Go.Lev
namespace Go.Lev
open Go.Eng
set_option maxRecDepth 10000
set_option maxHeartbeats 4000000
variable {P:Program} {inv:Nat→Option Nat} {w0:World} {M:Nat→Prop}
def k9 (_:Nat) (l:Lock):Lock:=⟨l.id,9,l.gone,l.left⟩
end Go.Lev
namespace Go.Lev
open Go.Eng
def tickN:Nat→State→State
 |0,s=>s
 |k+1,s=>zdU (tickN k s)
end Go.Lev
namespace Go.Eng
structure ActD where
 kind:Int
 id:Int
 value:Int
 data:List Int
 deriving DecidableEq,Inhabited
def byte1 (x:Int):List AV:=[.i .u8 x]
instance:Cells byte1 1:=⟨fun _=>rfl,fun _=>rfl⟩
def ActD.c (x:ActD):List AV:=[.i .u8 x.kind,.n x.id,.n x.value,.sl 1 (x.data.map byte1)]
instance:Cells ActD.c 4:=⟨fun _=>rfl,fun _=>rfl⟩
theorem rep7 {α:Type} (a:α):List.replicate 7 a=[a,a,a,a,a,a,a]:=rfl
attribute [go_sem] byte1 ActD.c rep7
end Go.Eng
namespace Go.Lev
open Go.Eng
set_option maxRecDepth 10000
set_option maxHeartbeats 2000000
variable {P:Program} {inv:Nat→Option Nat} {w0:World} {M:Nat→Prop}
def actC (p:Pln) (s:State) (a:ActD):Int :=
 if a.kind=1 then zoT p s a.id a.value else if a.kind=2 then zqh p s a.id a.value else if a.kind=3 then zag p s
 else if a.kind=4 then callC p s a.id a.value else if a.kind=5 then lkC p s a.id else if a.kind=6 then cnC p s a.id else 2
def actS (p:Pln) (s:State) (a:ActD):State :=
 if a.kind=1 then secR p s a.id a.value else if a.kind=2 then detR p s a.id a.value else if a.kind=3 then zhd p s
 else if a.kind=4 then callR p s a.id a.value else if a.kind=5 then lkS p s a.id else if a.kind=6 then cnR p s a.id else State.z
def doC (p:Pln) (s:State) (a:ActD):Int:=if zag p s=0 then (if actC p s a=0 then zag p (actS p s a) else actC p s a) else zag p s
def doR (p:Pln) (s:State) (a:ActD):State:=if zag p s=0 then (if actC p s a=0 then zjl p (actS p s a) else State.z) else State.z
end Go.Lev
namespace Go.Lev
open Go.Eng
structure StepS (p:Pln) (s:State) (a:ActD) (u:State):Prop where
 st:zag p s=0
 act:actC p s a=0
 eq:actS p s a=u
 code:zag p u=0
 all:(a.kind=1∧u=setT s a.id a.value∧zpF s a.id∧(a.value=0∨a.value=1))∨(a.kind=2∧u=setL s a.id a.value∧zpG s a.id∧0≤a.value∧a.value≤2)∨(a.kind=3∧u=zdU s) ∨
  (a.kind=4∧u=setC s a.id a.value∧MayCall p s a.id∧(a.value=1∨a.value=2))∨(a.kind=5∧∃ i,MaySet p s a.id i∧u=zgP s a.id (zbX p i))∨(a.kind=6∧u=cnS p s a.id∧cnC p s a.id=0)
end Go.Lev
namespace Go.Lev
open Go.Eng
set_option maxRecDepth 10000
set_option maxHeartbeats 4000000
variable {P:Program} {inv:Nat→Option Nat} {w0:World} {M:Nat→Prop}
def w9l (_:Nat) (t:Switch):Switch:=⟨t.id,9,t.call⟩
end Go.Lev
