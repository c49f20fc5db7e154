/-
  A part of the engine that walks the functions' codes, and of the functions' contracts. Conditions: those that each theorem names.
-/
import Derived.Test.YtibpmipffibbpaaGreatV9
import Derived.IntWalk
set_option linter.unusedSimpArgs false
set_option linter.unusedVariables false
set_option linter.unusedSectionVars false
namespace Go.Lev
open Go.Eng
set_option maxRecDepth 10000
set_option maxHeartbeats 4000000
variable {P:Program} {inv:Nat->Option Nat} {w0:World} {M:Nat->Prop}
theorem zbm (hH:HasAll P inv) (p:Pln) (hp:Sm p) (s:State) (hs:SmS s):PC P inv 292 [.agg p.c,.agg s.c] (·=.n (zad p s)):=by
 have c1:=zlu hH p hp
 have c2:=zqC hH p hp s hs
 have key:zad p s=if zbd p=true then (if zmj p s=true then 0 else 8) else 100:=by
  unfold zmj zad
  split
  ·split
   ·rfl
   ·rfl
  ·rfl
 rw[key]
 generalize zbd p=a at *
 generalize zmj p s=b at *
 clear key
 cases a with
 |true =>
  cases b with
  |true =>
   refine PC.fn hH cd292 fun w0 M Q hM hE hQ hR=>?_;dsimp only[cd292,qN,qt]at hQ |-
   (repeat' first|refine zaa [0,1,2,3,4,7,11] fun K hK=>?_|(refine hK.go ?_;clear hK K)|with_reducible exact wT|refine wA ?_|(refine wB (fun h=>?_) (fun h=>?_)<;>first|exact wN h|subst (h:(_:Bool)=_)|skip)|(refine wQ ?_;clear hQ hR hE hM)|refine wC c1 ?_|refine wC c2 ?_|fail)
   all_goals first|rfl|(exfalso;contradiction)
  |false =>
   refine PC.fn hH cd292 fun w0 M Q hM hE hQ hR=>?_;dsimp only[cd292,qN,qt]at hQ |-
   (repeat' first|refine zaa [0,1,2,3,4,7,11] fun K hK=>?_|(refine hK.go ?_;clear hK K)|with_reducible exact wT|refine wA ?_|(refine wB (fun h=>?_) (fun h=>?_)<;>first|exact wN h|subst (h:(_:Bool)=_)|skip)|(refine wQ ?_;clear hQ hR hE hM)|refine wC c1 ?_|refine wC c2 ?_|fail)
   all_goals first|rfl|(exfalso;contradiction)
 |false =>
  refine PC.fn hH cd292 fun w0 M Q hM hE hQ hR=>?_;dsimp only[cd292,qN,qt]at hQ |-
  (repeat' first|refine zaa [0,1,2,3,4,7,11] fun K hK=>?_|(refine hK.go ?_;clear hK K)|with_reducible exact wT|refine wA ?_|(refine wB (fun h=>?_) (fun h=>?_)<;>first|exact wN h|subst (h:(_:Bool)=_)|skip)|(refine wQ ?_;clear hQ hR hE hM)|refine wC c1 ?_|fail)
  all_goals first|rfl|(exfalso;contradiction)
theorem hd_ref (hH:HasAll P inv) {p:Pln} (hp:Sm p) {s:State} (hst:zad p s=0):∀ i,i<s.locks.length->PC P inv 302 [.agg p.c,.agg (nth s.locks i).c,.n i] (·=.sl 1 ((zc4 p s i).map zcG))/\(zc4 p s i).length<=1000000:=fun i hi=>by
 have ho:=(zac hst).1
 have hpl:=zak (zac hst).2.1
 have hm:i<p.routes.length:=by omega
 have hwl:=zbf (zaH ho).1 (zab hm)
 refine ⟨znY hH p hp ho hm (nth s.locks i), ?_⟩
 unfold zc4 zbq
 split
 ·simp
 ·rw[List.length_append,List.length_drop];omega
theorem as_ref (hH:HasAll P inv) {p:Pln} (hp:Sm p) {s:State} (hst:zad p s=0):∀ i,i<s.locks.length->PC P inv 303 [.agg p.c,.agg (nth s.locks i).c,.n i] (·=.sl 3 ((zdj p s i).map AskR.c))/\(zdj p s i).length<=1000000:=fun i hi=>by
 have ho:=(zac hst).1
 have hpl:=zak (zac hst).2.1
 have hm:i<p.routes.length:=by omega
 have hwl:=zbf (zaH ho).1 (zab hm)
 refine ⟨zoc hH p hp ho hm (nth s.locks i), ?_⟩
 unfold zdj zbJ
 split
 ·simp
 ·have:=List.length_filter_le (zb4 (nth s.locks i)) (zah p (nth p.routes i)).1.asks
  omega
def ofF (s:State) (hd:Nat->List Int) (n:Int):Int :=
 zaL (fun i _ za5=>zaL (fun k _ next2=>cond (decide (nth (hd i) k=n)) (nth s.locks i).id (next2 ())) (fun _=>za5 ()) (hd i).length 0 ()) (fun _=>0) s.locks.length 0 ()
theorem ofF_eq {p:Pln} {s:State} (hst:zad p s=0) {n:Int} (hn:0<=n):ofF s (zc4 p s) n=nth (zas p s).1 n.toNat:=by
 unfold ofF
 refine zaN (·=nth (zas p s).1 n.toNat) (fun i _=>∀ j,j<i->n∉zc4 p s j) (fun j hj=>by omega) ?_ ?_
 ·intro i _ za5 hi hI hnx
  refine zaN (·=nth (zas p s).1 n.toNat) (fun k _=>∀ q,q<k->¬nth (zc4 p s i) q=n) (fun q hq=>by omega) ?_ ?_
  ·intro k _ next2 hk hK hn2
   by_cases e:nth (zc4 p s i) k=n
   ·rw[decide_eq_true e,cond_true]
    exact ((znX hst hi hn).2 (by rw[<-e];exact zab hk)).symm
   ·rw[decide_eq_false e,cond_false]
    refine hn2 () fun q hq=>?_
    rcases Nat.lt_or_ge q k with h|h
    ·exact hK q h
    ·obtain rfl:q=k:=by omega
     exact e
  ·intro _ hK
   refine hnx () fun j hj hm=>?_
   rcases Nat.lt_or_ge j i with h|h
   ·exact hI j h hm
   ·obtain rfl:j=i:=by omega
    obtain ⟨q,hq,e⟩:=zbN hm
    exact hK q hq e
 ·intro _ hI
  rcases zjt hst hn with ⟨z,hz,hm,_⟩|⟨_,e⟩
  ·obtain ⟨j,hj,rfl⟩:=zfu hst hz
   exact absurd hm (hI j hj)
  ·exact e.symm
def lieF (s:State) (as:Nat->List AskR) (n:Int):Int :=
 zaL (fun i _ za5=>zaL (fun k _ next2=>cond (decide ((nth (as i) k).pnt=n)) (nth (as i) k).lie (next2 ())) (fun _=>za5 ()) (as i).length 0 ()) (fun _=>0) s.locks.length 0 ()
theorem lieF_eq {p:Pln} {s:State} (hst:zad p s=0) {n:Int} (hn:0<=n):lieF s (zdj p s) n=nth (zas p s).2.1 n.toNat:=by
 unfold lieF
 refine zaN (·=nth (zas p s).2.1 n.toNat) (fun i _=>∀ j,j<i->∀ a∈zdj p s j,a.pnt≠n) (fun j hj=>by omega) ?_ ?_
 ·intro i _ za5 hi hI hnx
  refine zaN (·=nth (zas p s).2.1 n.toNat) (fun k _=>∀ q,q<k->¬(nth (zdj p s i) q).pnt=n) (fun q hq=>by omega) ?_ ?_
  ·intro k _ next2 hk hK hn2
   by_cases e:(nth (zdj p s i) k).pnt=n
   ·rw[decide_eq_true e,cond_true]
    have:=zrI hst hi (zab hk)
    rw[e]at this
    exact this.symm
   ·rw[decide_eq_false e,cond_false]
    refine hn2 () fun q hq=>?_
    rcases Nat.lt_or_ge q k with h|h
    ·exact hK q h
    ·obtain rfl:q=k:=by omega
     exact e
  ·intro _ hK
   refine hnx () fun j hj a ha=>?_
   rcases Nat.lt_or_ge j i with h|h
   ·exact hI j h a ha
   ·obtain rfl:j=i:=by omega
    obtain ⟨q,hq,rfl⟩:=zbN ha
    exact hK q hq
 ·intro _ hI
  rcases ask_who hst hn with ⟨i,hi,a,ha,e,_⟩|⟨_,e⟩
  ·exact absurd e (hI i hi a ha)
  ·exact e.symm
theorem of15_ref (hH:HasAll P inv) (p:Pln) (hp:Sm p) (s:State) (hs:SmS s) (hst:zad p s=0) (n:Int) (hn:0<=n):PC P inv 296 [.agg p.c,.agg s.c,.n n] (·=.n (nth (zas p s).1 n.toNat)):=by
 have cH:=hd_ref hH hp hst
 have hl3:=hs.2.2
 obtain ⟨X,hF⟩:∃ X,ofF s (zc4 p s) n=X:=⟨_,rfl⟩
 rw[<-ofF_eq hst hn,hF]
 unfold ofF at hF
 generalize zc4 p s=hd at *
 clear hst
 refine PC.fn hH cd296 fun w0 M Q hM hE hQ hR=>?_;dsimp only[cd296,qm,ql,qf,qi,qb,qc,qN,qt]at hQ |-
 skip
 (repeat' first|refine zaa [0,1,2,3,4,6,7,8,9,14,24,28,36] fun K hK=>?_|(refine hK.go ?_;clear hK K)|with_reducible exact wT|refine wA ?_|(refine wE (fun h0 h=>?_) (fun h0 h=>?_)<;>first|exact wN h|((try replace hF:=wX hF);clear h0;first|exact hF.elim|((try subst (h:(_:Bool)=_));try replace hF:=wX hF)))|(refine wQ ?_;clear hQ hR hE hM)|fail)
 refine zaR hF fun Bd Ed hBd hEd hF=>?_;refine zam (ι:=Nat) [2,3,4,6,7] (fun z=>[(7,.n z)]) (fun _=>[]) (fun z=>z) (s.locks.length) (fun z=>(zaL Bd Ed (s.locks.length-z) z ()=X)) (0) ?_;rintro i ⟨hk,hF⟩;(try dsimp only at hk hF |-);rcases Nat.lt_or_ge i s.locks.length with hlt|hge
 ·rw[zav hBd hlt]at hF;(try dsimp only at hF)
  obtain ⟨d1,dl1⟩:=cH i hlt
  generalize hd i=hls at *
  (repeat' first|refine zaa [0,1,2,3,4,6,7,8,9,14,24,28,36] fun K hK=>?_|(refine hK.go ?_;clear hK K)|with_reducible exact wT|refine wA ?_|(refine wE (fun h0 h=>?_) (fun h0 h=>?_)<;>first|exact wN h|((try replace hF:=wX hF);clear h0;first|exact hF.elim|((try subst (h:(_:Bool)=_));try replace hF:=wX hF)))|(refine wQ ?_;clear hQ hR hE hM)|refine wC d1 ?_|fail)
  refine zaR hF fun Bd Ed hBd hEd hF=>?_;refine zam (ι:=Nat) [2,3,4,6,7,8,9] (fun z=>[(9,.n z)]) (fun _=>[]) (fun z=>z) (hls.length) (fun z=>(zaL Bd Ed (hls.length-z) z ()=X)) (0) ?_;rintro k ⟨hk,hF⟩;(try dsimp only at hk hF |-);rcases Nat.lt_or_ge k hls.length with hlt|hge
  ·rw[zav hBd hlt]at hF;(try dsimp only at hF)
   (repeat' first|refine zaa [0,1,2,3,4,6,7,8,9,14,24,28,36] fun K hK=>?_|(refine hK.go ?_;clear hK K)|with_reducible exact wT|refine wA ?_|(refine wE (fun h0 h=>?_) (fun h0 h=>?_)<;>first|exact wN h|((try replace hF:=wX hF);clear h0;first|exact hF.elim|((try subst (h:(_:Bool)=_));try replace hF:=wX hF)))|(refine wQ ?_;clear hQ hR hE hM)|fail)
   all_goals first|exact hF|(exfalso;contradiction)|exact congrArg AV.n hF|exact nX (k+1)
  ·rw[zaQ hge,hEd]at hF;(try dsimp only at hF)
   (repeat' first|refine zaa [0,1,2,3,4,6,7,8,9,14,24,28,36] fun K hK=>?_|(refine hK.go ?_;clear hK K)|with_reducible exact wT|refine wA ?_|(refine wE (fun h0 h=>?_) (fun h0 h=>?_)<;>first|exact wN h|((try replace hF:=wX hF);clear h0;first|exact hF.elim|((try subst (h:(_:Bool)=_));try replace hF:=wX hF)))|(refine wQ ?_;clear hQ hR hE hM)|fail)
   all_goals exact nX (i+1)
 ·rw[zaQ hge,hEd]at hF;(try dsimp only at hF)
  (repeat' first|refine zaa [0,1,2,3,4,6,7,8,9,14,24,28,36] fun K hK=>?_|(refine hK.go ?_;clear hK K)|with_reducible exact wT|refine wA ?_|(refine wE (fun h0 h=>?_) (fun h0 h=>?_)<;>first|exact wN h|((try replace hF:=wX hF);clear h0;first|exact hF.elim|((try subst (h:(_:Bool)=_));try replace hF:=wX hF)))|(refine wQ ?_;clear hQ hR hE hM)|fail)
  all_goals first|exact hF|exact congrArg AV.n hF
theorem zqE (hH:HasAll P inv) (p:Pln) (hp:Sm p) (s:State) (hs:SmS s) (hst:zad p s=0) (n:Int) (hn:0<=n):PC P inv 297 [.agg p.c,.agg s.c,.n n] (·=.n (nth (zas p s).2.1 n.toNat)):=by
 have cA:=as_ref hH hp hst
 have hl3:=hs.2.2
 obtain ⟨X,hF⟩:∃ X,lieF s (zdj p s) n=X:=⟨_,rfl⟩
 rw[<-lieF_eq hst hn,hF]
 unfold lieF at hF
 generalize zdj p s=as at *
 clear hst
 refine PC.fn hH cd297 fun w0 M Q hM hE hQ hR=>?_;dsimp only[cd297,qm,ql,qf,qi,qb,qc,qN,qt]at hQ |-
 skip
 (repeat' first|refine zaa [0,1,2,3,4,6,7,8,9,14,24,28,37] fun K hK=>?_|(refine hK.go ?_;clear hK K)|with_reducible exact wT|refine wA ?_|(refine wE (fun h0 h=>?_) (fun h0 h=>?_)<;>first|exact wN h|((try replace hF:=wX hF);clear h0;first|exact hF.elim|((try subst (h:(_:Bool)=_));try replace hF:=wX hF)))|(refine wQ ?_;clear hQ hR hE hM)|fail)
 refine zaR hF fun Bd Ed hBd hEd hF=>?_;refine zam (ι:=Nat) [2,3,4,6,7] (fun z=>[(7,.n z)]) (fun _=>[]) (fun z=>z) (s.locks.length) (fun z=>(zaL Bd Ed (s.locks.length-z) z ()=X)) (0) ?_;rintro i ⟨hk,hF⟩;(try dsimp only at hk hF |-);rcases Nat.lt_or_ge i s.locks.length with hlt|hge
 ·rw[zav hBd hlt]at hF;(try dsimp only at hF)
  obtain ⟨d1,dl1⟩:=cA i hlt
  generalize as i=hls at *
  (repeat' first|refine zaa [0,1,2,3,4,6,7,8,9,14,24,28,37] fun K hK=>?_|(refine hK.go ?_;clear hK K)|with_reducible exact wT|refine wA ?_|(refine wE (fun h0 h=>?_) (fun h0 h=>?_)<;>first|exact wN h|((try replace hF:=wX hF);clear h0;first|exact hF.elim|((try subst (h:(_:Bool)=_));try replace hF:=wX hF)))|(refine wQ ?_;clear hQ hR hE hM)|refine wC d1 ?_|fail)
  refine zaR hF fun Bd Ed hBd hEd hF=>?_;refine zam (ι:=Nat) [2,3,4,6,7,8,9] (fun z=>[(9,.n z)]) (fun _=>[]) (fun z=>z) (hls.length) (fun z=>(zaL Bd Ed (hls.length-z) z ()=X)) (0) ?_;rintro k ⟨hk,hF⟩;(try dsimp only at hk hF |-);rcases Nat.lt_or_ge k hls.length with hlt|hge
  ·rw[zav hBd hlt]at hF;(try dsimp only at hF)
   (repeat' first|refine zaa [0,1,2,3,4,6,7,8,9,14,24,28,37] fun K hK=>?_|(refine hK.go ?_;clear hK K)|with_reducible exact wT|refine wA ?_|(refine wE (fun h0 h=>?_) (fun h0 h=>?_)<;>first|exact wN h|((try replace hF:=wX hF);clear h0;first|exact hF.elim|((try subst (h:(_:Bool)=_));try replace hF:=wX hF)))|(refine wQ ?_;clear hQ hR hE hM)|fail)
   all_goals first|exact hF|(exfalso;contradiction)|exact congrArg AV.n hF|exact nX (k+1)
  ·rw[zaQ hge,hEd]at hF;(try dsimp only at hF)
   (repeat' first|refine zaa [0,1,2,3,4,6,7,8,9,14,24,28,37] fun K hK=>?_|(refine hK.go ?_;clear hK K)|with_reducible exact wT|refine wA ?_|(refine wE (fun h0 h=>?_) (fun h0 h=>?_)<;>first|exact wN h|((try replace hF:=wX hF);clear h0;first|exact hF.elim|((try subst (h:(_:Bool)=_));try replace hF:=wX hF)))|(refine wQ ?_;clear hQ hR hE hM)|fail)
   all_goals exact nX (i+1)
 ·rw[zaQ hge,hEd]at hF;(try dsimp only at hF)
  (repeat' first|refine zaa [0,1,2,3,4,6,7,8,9,14,24,28,37] fun K hK=>?_|(refine hK.go ?_;clear hK K)|with_reducible exact wT|refine wA ?_|(refine wE (fun h0 h=>?_) (fun h0 h=>?_)<;>first|exact wN h|((try replace hF:=wX hF);clear h0;first|exact hF.elim|((try subst (h:(_:Bool)=_));try replace hF:=wX hF)))|(refine wQ ?_;clear hQ hR hE hM)|fail)
  all_goals first|exact hF|exact congrArg AV.n hF
theorem zfZ (hH:HasAll P inv) (p:Pln) (hp:Sm p) (s:State) (hs:SmS s) (hst:zad p s=0) {n:Int} (hn:zkw p n=true):PC P inv 335 [.agg p.c,.agg s.c,.n n] (·=.i .u8 (zcF s n)):=by
 have ho:=zai hst
 have hpa:=(zac hst).2.1
 have hpl:=zak hpa
 have c1:=znw hH p (by have:=hp.sec;omega) n
 obtain ⟨x,hx,ex⟩:=List.any_eq_true.1 hn
 have ex:x.id=n:=by simpa using ex
 rcases zat Section.id n p.sections with ⟨_,h4⟩|⟨k,hk,h4,h5⟩
 ·exact absurd ex (h4 x hx)
 ·rw[h4]at c1
  have hks:k<s.tracks.length:=by omega
  have h1:=(zbH _ _ _).1 (by simp only[zaj,Bool.and_eq_true]at hpa;exact hpa.1)
  have h2:=h1.2 k hks
  simp only[ze6,Bool.and_eq_true,decide_eq_true_eq]at h2
  have h3:=zqO ho hpa hks
  rw[h2.1,h5]at h3
  rw[h3]
  have hl1:=hs.1
  clear hst ho hpa hpl h1 h2 h3 h5 hn
  refine PC.fn hH cd335 fun w0 M Q hM hE hQ hR=>?_;dsimp only[cd335,qm,ql,qf,qi,qN,qt]at hQ |-
  (have hX:=@Int.toNat_natCast;(repeat' first|refine zaa [0,1,2,3,4,6] fun K hK=>?_|(refine hK.go ?_;clear hK K)|with_reducible exact wT|refine wA ?_|(refine wB (fun h=>?_) (fun h=>?_)<;>first|exact wN h|subst (h:(_:Bool)=_)|skip)|(refine wQ ?_;clear hQ hR hE hM)|refine wC c1 ?_|refine wU c1 ?_|fail);all_goals clear hX)
  all_goals first|rfl|(exfalso;omega)
theorem zqL {p:Pln} (h:OkP p) {k:Nat} (hk:k<p.points.length):zkw p (nth p.points k).sec=true:=by
 obtain ⟨x,hx,e⟩:=zqd h (zab hk)
 exact List.any_eq_true.2 ⟨x,hx,by simpa using e⟩
def zqA (p:Pln) (s:State) (k:Nat):Int:=if nth (zas p s).2.1 (nth p.points k).id.toNat=0 then (if zcF s (nth p.points k).sec=0 then 0 else 171) else 170
theorem zfn (hH:HasAll P inv) (p:Pln) (hp:Sm p) (s:State) (hs:SmS s) (hst:zad p s=0) {k:Nat} (hk:k<p.points.length):PC P inv 333 [.agg p.c,.agg s.c,.n k] (·=.n (zqA p s k)):=by
 have ho:=zai hst
 have hr:=zlk ho (zab hk)
 have c1:=zqE hH p hp s hs hst (nth p.points k).id (by omega)
 have c2:=zfZ hH p hp s hs hst (zqL ho hk)
 unfold zqA
 generalize nth (zas p s).2.1 (nth p.points k).id.toNat=a at *
 generalize zcF s (nth p.points k).sec=b at *
 have hl:=hp.pts
 clear hst ho hr
 refine PC.fn hH cd333 fun w0 M Q hM hE hQ hR=>?_;dsimp only[cd333,qm,ql,qf,qi,qc,qN,qt]at hQ |-
 (repeat' first|refine zaa [0,1,2,3,4,6,15,16,25,26] fun K hK=>?_|(refine hK.go ?_;clear hK K)|with_reducible exact wT|refine wA ?_|(refine wB (fun h=>?_) (fun h=>?_)<;>first|exact wN h|subst (h:(_:Bool)=_)|skip)|(refine wQ ?_;clear hQ hR hE hM)|refine wC c1 ?_|refine wC c2 ?_|fail)
 all_goals ((repeat' split)<;>first|rfl|(exfalso;contradiction)|(exfalso;omega))
theorem zmB {p:Pln} {s:State} (hst:zad p s=0) {k:Nat} (hk:k<p.points.length):zeP p s (nth p.points k).id=zqA p s k:=by
 unfold zeP zqA
 rw[if_pos hst,if_pos (znS hk),zoI (zai hst) hk]
theorem zqB (hH:HasAll P inv) (p:Pln) (hp:Sm p) (s:State) (hs:SmS s) (n:Int):PC P inv 329 [.agg p.c,.agg s.c,.n n] (·=.n (zeP p s n)):=by
 have c1:=zbm hH p hp s hs
 by_cases hst:zad p s=0
 ·rw[hst]at c1
  have c2:=zeL hH p (by have:=hp.pts;omega) n
  rcases zat Pnt.id n p.points with ⟨h4,h5⟩|⟨k,hk,h4,h5⟩
  ·rw[h4]at c2
   have hno:zc7 p n=false:=by
    unfold zc7
    rw[List.any_eq_false]
    intro x hx
    simpa using h5 x hx
   have:zeP p s n=6:=by unfold zeP;rw[if_pos hst,hno,if_neg (by simp)]
   rw[this]
   refine PC.fn hH cd329 fun w0 M Q hM hE hQ hR=>?_;dsimp only[cd329,qm,qc,qN,qt]at hQ |-
   (repeat' first|refine zaa [0,1,2,3,4,6,7,8,13,19] fun K hK=>?_|(refine hK.go ?_;clear hK K)|with_reducible exact wT|refine wA ?_|(refine wB (fun h=>?_) (fun h=>?_)<;>first|exact wN h|subst (h:(_:Bool)=_)|skip)|(refine wQ ?_;clear hQ hR hE hM)|refine wC c1 ?_|refine wC c2 ?_|fail)
   all_goals first|rfl|(exfalso;contradiction)
  ·rw[h4]at c2
   have c3:=zfn hH p hp s hs hst hk
   rw[<-h5,zmB hst hk,h5]
   generalize zqA p s k=e at *
   clear hst
   refine PC.fn hH cd329 fun w0 M Q hM hE hQ hR=>?_;dsimp only[cd329,qm,qc,qN,qt]at hQ |-
   (repeat' first|refine zaa [0,1,2,3,4,6,7,8,13,19] fun K hK=>?_|(refine hK.go ?_;clear hK K)|with_reducible exact wT|refine wA ?_|(refine wB (fun h=>?_) (fun h=>?_)<;>first|exact wN h|subst (h:(_:Bool)=_)|skip)|(refine wQ ?_;clear hQ hR hE hM)|refine wC c1 ?_|refine wC c2 ?_|refine wC c3 ?_|fail)
   all_goals first|rfl|(exfalso;contradiction)|(exfalso;omega)
 ·have:zeP p s n=zad p s:=by unfold zeP;rw[if_neg hst]
  rw[this]
  generalize zad p s=e at *
  refine PC.fn hH cd329 fun w0 M Q hM hE hQ hR=>?_;dsimp only[cd329,qm,qc,qN,qt]at hQ |-
  (repeat' first|refine zaa [0,1,2,3,4,6,7,8,13,19] fun K hK=>?_|(refine hK.go ?_;clear hK K)|with_reducible exact wT|refine wA ?_|(refine wB (fun h=>?_) (fun h=>?_)<;>first|exact wN h|subst (h:(_:Bool)=_)|skip)|(refine wQ ?_;clear hQ hR hE hM)|refine wC c1 ?_|fail)
  all_goals first|rfl|(exfalso;contradiction)
theorem zdf (hH:HasAll P inv) (s:State) (hs:SmS s):PO P inv 14 [.agg s.c] (stV s) (stR s):=by
 have h1:=hs.1
 have h2:=hs.2.1
 have h3:=hs.2.2
 unfold stV stR
 refine PO.fn hH cd14 fun w0 M Q hM hE hQ hR=>?_;dsimp only[cd14,ql,qf,qN,qt]at hQ |-
 (repeat' first|refine zaa [0,1,2,11] fun K hK=>?_|(refine hK.go ?_;clear hK K)|with_reducible exact wT|refine wA ?_|(refine wB (fun h=>?_) (fun h=>?_)<;>first|exact wN h|subst (h:(_:Bool)=_)|skip)|(refine wR ?_;clear hQ hR hE hM)|fail)
 left
 constructor
 ·(refine wD ?_;try with_reducible exact wT)
 ·(refine wD ?_;try with_reducible exact wT)
theorem zrA (hH:HasAll P inv) (p:Pln) (hp:Sm p) (s:State) (hs:SmS s) (n v:Int) (he:zcd p s n v=0):PO P inv 328 [.agg p.c,.agg s.c,.n n,.n v] (.tup [zdD 5 (zmq s n v),.n 0]) (zdE 5 (zmq s n v)):=by
 obtain ⟨hst,hn,hv,hm⟩:=zkN he
 have c0:=zbm hH p hp s hs
 rw[hst]at c0
 obtain ⟨k,hk,hid⟩:=isPnt_ix hn
 have c1:=zeL hH p (by have:=hp.pts;omega) n
 have hpa:=(zac hst).2.1
 have hpl:=zak hpa
 have hks:k<s.switches.length:=by omega
 have hix:za3 (fun x=>decide (Pnt.id x=n)) 0 p.points=(k:Int):=by
  rcases zat Pnt.id n p.points with ⟨_,h4⟩|⟨q,hq,h4,h5⟩
  ·exact absurd hid (h4 _ (zab hk))
  ·rw[h4,zqt Pnt.id (zbI (zai hst)) hq hk (h5.trans hid.symm)]
 rw[hix]at c1
 have c2:=zfn hH p hp s hs hst hk
 rw[<-zmB hst hk,hid,hm]at c2
 have c3:=zdf hH s hs
 have hno:(s.switches.map Switch.id).Nodup:=by rw[zcl hpa];exact zbI (zai hst)
 have h5:(nth s.switches k).id=n:=by rw[zjT hpa hks];exact hid
 have h2:=hs.2.1
 have e1:=zcL Switch.id n (fun t=>(⟨t.id,t.lie,v⟩:Switch)) hno hks h5
 have e2:=zbS (c:=Switch.c) (l:=s.switches) (k:=k) (i:=2) hks (by omega) (.i .i64 v) (⟨(nth s.switches k).id,(nth s.switches k).lie,v⟩:Switch) rfl
 rw[e1]at e2
 unfold stV stR at c3
 clear he hst hn hm hpa hpl hix hno e1
 rcases hv with rfl|rfl
 ·refine PO.fn hH cd328 fun w0 M Q hM hE hQ hR=>?_;dsimp only[cd328,qm,ql,qf,qi,qc,qp,qN,qT,qt]at hQ |-
  (have hX:=zA @e2 @Int.toNat_natCast;(repeat' first|refine zaa [0,1,2,3,4,5,8,9,10,11,16,23,30,37] fun K hK=>?_|(refine hK.go ?_;clear hK K)|with_reducible exact wT|refine wA ?_|(refine wB (fun h=>?_) (fun h=>?_)<;>first|exact wN h|subst (h:(_:Bool)=_)|skip)|(refine wR ?_;clear hQ hR hE hM)|refine wC c0 ?_|refine wC c1 ?_|refine wC c2 ?_|refine wO c3 ?_|fail);all_goals clear hX)
  all_goals first|(exfalso;omega)|skip
  all_goals (left;unfold zdD zdE zmq;dsimp only;rw[za1];constructor)
  all_goals (refine wD ?_;try with_reducible exact wT)
 ·refine PO.fn hH cd328 fun w0 M Q hM hE hQ hR=>?_;dsimp only[cd328,qm,ql,qf,qi,qc,qp,qN,qT,qt]at hQ |-
  (have hX:=zA @e2 @Int.toNat_natCast;(repeat' first|refine zaa [0,1,2,3,4,5,8,9,10,11,16,23,30,37] fun K hK=>?_|(refine hK.go ?_;clear hK K)|with_reducible exact wT|refine wA ?_|(refine wB (fun h=>?_) (fun h=>?_)<;>first|exact wN h|subst (h:(_:Bool)=_)|skip)|(refine wR ?_;clear hQ hR hE hM)|refine wC c0 ?_|refine wC c1 ?_|refine wC c2 ?_|refine wO c3 ?_|fail);all_goals clear hX)
  all_goals first|(exfalso;omega)|skip
  all_goals (left;unfold zdD zdE zmq;dsimp only;rw[za1];constructor)
  all_goals (refine wD ?_;try with_reducible exact wT)
theorem zrB (hH:HasAll P inv) (p:Pln) (hp:Sm p) (s:State) (hs:SmS s) (n v:Int):PC P inv 328 [.agg p.c,.agg s.c,.n n,.n v] (·=.tup [.agg (zhl p s n v).c,.n (zcd p s n v)]):=by
 unfold zhl
 by_cases he:zcd p s n v=0
 ·have:=(zrA hH p hp s hs n v he).pc
  rw[zbi]at this
  rw[if_pos he,he]
  exact this
 ·rw[if_neg he]
  have c0:=zbm hH p hp s hs
  by_cases hst:zad p s=0
  ·rw[hst]at c0
   have c1:=zeL hH p (by have:=hp.pts;omega) n
   rcases zat Pnt.id n p.points with ⟨h4,h5⟩|⟨k,hk,h4,h5⟩
   ·rw[h4]at c1
    have hno:zc7 p n=false:=by
     unfold zc7
     rw[List.any_eq_false]
     intro x hx
     simpa using h5 x hx
    have:zcd p s n v=6:=by unfold zcd;rw[if_pos hst,hno,if_neg (by simp)]
    rw[this]
    refine PC.fn hH cd328 fun w0 M Q hM hE hQ hR=>?_;dsimp only[cd328,qm,ql,qf,qi,qc,qp,qN,qT,qt]at hQ |-
    (repeat' first|refine zaa [0,1,2,3,4,5,8,9,10,11,16,23,30,37] fun K hK=>?_|(refine hK.go ?_;clear hK K)|with_reducible exact wT|refine wA ?_|(refine wB (fun h=>?_) (fun h=>?_)<;>first|exact wN h|subst (h:(_:Bool)=_)|skip)|(refine wQ ?_;clear hQ hR hE hM)|refine wC c0 ?_|refine wC c1 ?_|fail)
    all_goals first|rfl|(exfalso;contradiction)
   ·rw[h4]at c1
    have hpn:zc7 p n=true:=by rw[<-h5];exact znS hk
    have hc:zcd p s n v=if v=1\/v=2 then zeP p s n else 2:=by unfold zcd;rw[if_pos hst,if_pos hpn]
    by_cases hv:v=1\/v=2
    ·have c2:=zfn hH p hp s hs hst hk
     rw[<-zmB hst hk,h5]at c2
     rw[if_pos hv]at hc
     rw[hc]at he |-
     generalize zeP p s n=e at *
     clear hst hpn h4 hc
     refine PC.fn hH cd328 fun w0 M Q hM hE hQ hR=>?_;dsimp only[cd328,qm,ql,qf,qi,qc,qp,qN,qT,qt]at hQ |-
     (repeat' first|refine zaa [0,1,2,3,4,5,8,9,10,11,16,23,30,37] fun K hK=>?_|(refine hK.go ?_;clear hK K)|with_reducible exact wT|refine wA ?_|(refine wB (fun h=>?_) (fun h=>?_)<;>first|exact wN h|subst (h:(_:Bool)=_)|skip)|(refine wQ ?_;clear hQ hR hE hM)|refine wC c0 ?_|refine wC c1 ?_|refine wC c2 ?_|fail)
     all_goals first|rfl|(exfalso;contradiction)|(exfalso;omega)
    ·rw[if_neg hv]at hc
     rw[hc]
     clear hst hpn h4 hc he
     refine PC.fn hH cd328 fun w0 M Q hM hE hQ hR=>?_;dsimp only[cd328,qm,ql,qf,qi,qc,qp,qN,qT,qt]at hQ |-
     (repeat' first|refine zaa [0,1,2,3,4,5,8,9,10,11,16,23,30,37] fun K hK=>?_|(refine hK.go ?_;clear hK K)|with_reducible exact wT|refine wA ?_|(refine wB (fun h=>?_) (fun h=>?_)<;>first|exact wN h|subst (h:(_:Bool)=_)|skip)|(refine wQ ?_;clear hQ hR hE hM)|refine wC c0 ?_|refine wC c1 ?_|fail)
     all_goals first|rfl|(exfalso;contradiction)|(exfalso;omega)
  ·have:zcd p s n v=zad p s:=by unfold zcd;rw[if_neg hst]
   rw[this]
   clear this he
   generalize zad p s=e at *
   refine PC.fn hH cd328 fun w0 M Q hM hE hQ hR=>?_;dsimp only[cd328,qm,ql,qf,qi,qc,qp,qN,qT,qt]at hQ |-
   (repeat' first|refine zaa [0,1,2,3,4,5,8,9,10,11,16,23,30,37] fun K hK=>?_|(refine hK.go ?_;clear hK K)|with_reducible exact wT|refine wA ?_|(refine wB (fun h=>?_) (fun h=>?_)<;>first|exact wN h|subst (h:(_:Bool)=_)|skip)|(refine wQ ?_;clear hQ hR hE hM)|refine wC c0 ?_|fail)
   all_goals first|rfl|(exfalso;contradiction)
def msF (p:Pln) (s:State) (all:List Int) (asks:List AskR) (H:Int->Int):Int :=
 zaL (fun i _ za5=>cond (!decide (H (nth all i)=0)) 181 (cond (!decide (zcF s (nth all i)=0)) 182 (za5 ())))
  (fun _=>zaL (fun i _ za5=>cond (!decide (za9 s (nth asks i).pnt=(nth asks i).lie)&&!decide (zeP p s (nth asks i).pnt=0)) 183 (za5 ())) (fun _=>0) asks.length 0 ()) all.length 0 ()
theorem mayC_ask {p:Pln} {s:State} (hst:zad p s=0) {n:Int} (hn:zc7 p n=true):zeP p s n=0↔nth (zas p s).2.1 n.toNat=0/\zcF s (zcw p n)=0:=by
 unfold zeP
 rw[if_pos hst,if_pos hn]
 constructor
 ·intro h
  split at h
  ·rename_i h1
   split at h
   ·rename_i h2;exact ⟨h1,h2⟩
   ·cases h
  ·cases h
 ·rintro ⟨h1,h2⟩
  rw[if_pos h1,if_pos h2]
theorem msF_eq {p:Pln} {s:State} (hst:zad p s=0) {i:Nat} (hi:i<s.locks.length):msF p s (zbO p i) (zaU p i) (fun m=>nth (zas p s).1 m.toNat)=setE p s i:=by
 have ho:=zai hst
 have hpa:=(zac hst).2.1
 have hpl:=zak hpa
 have hr:nth p.routes i∈p.routes:=zab (by omega)
 have hE:setE p s i=zrN (ziO p s (zas p s).2.1) (zcU (zas p s).1 (frT s) (zbO p i)) (zaU p i):=znv p s i
 generalize setE p s i=X at *
 unfold msF
 refine zaN (·=X) (fun k _=>zcU (zas p s).1 (frT s) ((zbO p i).drop k)=zcU (zas p s).1 (frT s) (zbO p i)) rfl ?_ ?_
 ·intro k _ za5 hk hK hn
  rw[zaf hk,zcU,zjx ho hpa]at hK
  dsimp only
  by_cases h1:nth (zas p s).1 (nth (zbO p i) k).toNat=0
  ·rw[decide_eq_true h1,Bool.not_true,cond_false]
   rw[if_pos h1]at hK
   by_cases h2:zcF s (nth (zbO p i) k)=0
   ·rw[decide_eq_true h2,Bool.not_true,cond_false]
    rw[decide_eq_true h2,if_pos rfl]at hK
    exact hn () hK
   ·rw[decide_eq_false h2,Bool.not_false,cond_true]
    rw[decide_eq_false h2,if_neg (by decide)]at hK
    rw[hE,<-hK,ziP _ (by decide)]
  ·rw[decide_eq_false h1,Bool.not_false,cond_true]
   rw[if_neg h1]at hK
   rw[hE,<-hK,ziP _ (by decide)]
 ·intro _ hK
  rw[List.drop_eq_nil_of_le (Nat.le_refl _),zcU]at hK
  rw[<-hK,zrM]at hE
  refine zaN (·=X) (fun k _=>∀ j,j<k->ziO p s (zas p s).2.1 (nth (zaU p i) j)=true) (fun j hj=>by omega) ?_ ?_
  ·intro k _ za5 hk hA hn
   have hpn:=zqN ho hr (show nth (zaU p i) k∈(zah p (nth p.routes i)).1.asks from zab hk)
   have hfr:ziO p s (zas p s).2.1 (nth (zaU p i) k)=true↔za9 s (nth (zaU p i) k).pnt=(nth (zaU p i) k).lie\/zeP p s (nth (zaU p i) k).pnt=0:=by
    rw[ziN ho hpa,mayC_ask hst hpn]
   cases hb:ziO p s (zas p s).2.1 (nth (zaU p i) k) with
   |true =>
    rw[hb]at hfr
    have:(!decide (za9 s (nth (zaU p i) k).pnt=(nth (zaU p i) k).lie)&&!decide (zeP p s (nth (zaU p i) k).pnt=0))=false:=by
     rcases hfr.1 rfl with h|h
     ·simp[h]
     ·simp[h]
    rw[this,cond_false]
    refine hn () fun j hj=>?_
    rcases Nat.lt_or_ge j k with h|h
    ·exact hA j h
    ·obtain rfl:j=k:=by omega
     exact hb
   |false =>
    rw[hb]at hfr
    have h1:¬za9 s (nth (zaU p i) k).pnt=(nth (zaU p i) k).lie:=fun h=>by have:=hfr.2 (.inl h);cases this
    have h2:¬zeP p s (nth (zaU p i) k).pnt=0:=fun h=>by have:=hfr.2 (.inr h);cases this
    rw[decide_eq_false h1,decide_eq_false h2]
    show (183:Int)=X
    rw[if_neg (fun h=>by
     have:=List.all_eq_true.1 h _ (zab hk)
     rw[hb]at this
     cases this)]at hE
    exact hE.symm
  ·intro _ hA
   rw[if_pos (List.all_eq_true.2 fun a ha=>by obtain ⟨j,hj,rfl⟩:=zbN ha;exact hA j hj)]at hE
   exact hE.symm
theorem znx {p:Pln} {s:State} (h:zaj p s=true) {i:Nat} (hi:i<s.locks.length):(nth p.routes i).id=(nth s.locks i).id:=by
 have hl2:=zcV h hi
 simp only[zbR,Bool.and_eq_true,decide_eq_true_eq]at hl2
 exact hl2.1.symm
theorem rtl_no {p:Pln} {s:State} (h:zaj p s=true) {n:Int} (hn:∀ x∈p.routes,x.id≠n):∀ x∈s.locks,x.id≠n:=fun x hx e=>by
 have h1:x.id∈s.locks.map Lock.id:=List.mem_map_of_mem hx
 rw[zmK h]at h1
 obtain ⟨r,hr,er⟩:=List.mem_map.1 h1
 exact hn r hr (er.trans e)
theorem zdt {l:List Int} {k:Nat} (h:k<l.length):(l.map zcG).flatten[k]?=some (.n (nth l k)):=by
 have:=zf5 (c:=zcG) (l:=l) (k:=k) (i:=0) h (by omega)
 rw[Nat.mul_one,Nat.add_zero]at this
 rw[this]
 rfl
theorem ask_ix (hH:HasAll P inv) {p:Pln} (hp:Sm p) {s:State} (hst:zad p s=0) {i:Nat} (hi:i<p.routes.length) {a:AskR} (ha:a∈zaU p i):∃ q:Nat,q<p.points.length/\q<s.switches.length/\PC P inv 294 [.agg p.c,.n a.pnt] (·=.n q)/\(nth s.switches q).call=za9 s a.pnt/\(nth s.switches q).id=a.pnt:=by
 have ho:=zai hst
 have hpa:=(zac hst).2.1
 have hpl:=zak hpa
 obtain ⟨⟨x,hx,ex⟩,_⟩:=zbC ho (zab hi) ha
 have c3:=zeL hH p (by have:=hp.pts;omega) a.pnt
 rcases zat Pnt.id a.pnt p.points with ⟨_,h4⟩|⟨q,hq,h4,h5⟩
 ·exact absurd ex (h4 x hx)
 ·rw[h4]at c3
  have hsw:=zjT hpa (show q<s.switches.length by omega)
  exact ⟨q,hq,by omega,c3,by rw[<-h5,<-hsw];exact (ziJ ho hpa (zab (by omega))).symm,by rw[hsw,h5]⟩
theorem zlt (hH:HasAll P inv) (p:Pln) (hp:Sm p) (s:State) (hs:SmS s) (n:Int):PC P inv 331 [.agg p.c,.agg s.c,.n n] (·=.n (lkC p s n)):=by
 have c1:=zbm hH p hp s hs
 by_cases hst:zad p s=0
 ·rw[hst]at c1
  have ho:=zai hst
  have hpa:=(zac hst).2.1
  have hpl:=zak hpa
  have c2:=zho hH p (by have:=hp.rte;omega) n
  rcases zat Rte.id n p.routes with ⟨h4,h5⟩|⟨k,hk,h4,h5⟩
  ·rw[h4]at c2
   rw[lkC_no hst (rtl_no hpa h5)]
   refine PC.fn hH cd331 fun w0 M Q hM hE hQ hR=>?_;dsimp only[cd331,qm,ql,qf,qi,qb,qc,qp,qN,qT,qt]at hQ |-
   (repeat' first|refine zaa [0,1,2,3,4,6,7,8,9,10,11,12,13,18,24,31,46,55,56,63,64,69,94,96] fun K hK=>?_|(refine hK.go ?_;clear hK K)|with_reducible exact wT|refine wA ?_|(refine wB (fun h=>?_) (fun h=>?_)<;>first|exact wN h|subst (h:(_:Bool)=_)|skip)|(refine wQ ?_;clear hQ hR hE hM)|refine wC c1 ?_|refine wC c2 ?_|fail)
   all_goals first|rfl|(exfalso;contradiction)
  ·rw[h4]at c2
   have hks:k<s.locks.length:=by omega
   have hid:(nth s.locks k).id=n:=by rw[<-znx hpa hks];exact h5
   rw[znQ hst hks hid]
   have hl3:=hs.2.2
   have hl2:=hs.2.1
   by_cases hph:(nth s.locks k).phase=0
   ·rw[if_pos hph]
    have c3:=zek hH p hp (zac hst).1 hk
    have hwl:=zbf ho (zab hk)
    have hwp:=zbv ((zaH (zac hst).1).2.1 _ (zab hk))
    have cS:∀ x∈zbO p k,PC P inv 296 [.agg p.c,.agg s.c,.n x] (·=.n (nth (zas p s).1 x.toNat))/\PC P inv 335 [.agg p.c,.agg s.c,.n x] (·=.i .u8 (zcF s x)):=fun x hx=>by
     unfold zbO at hx
     rw[hwp.1,hwp.2.1]at hx
     obtain ⟨q,hq,e⟩:=(zb8 ho (zab hk)).1 x hx
     have:=zcQ ho hq
     exact ⟨of15_ref hH p hp s hs hst x (by omega),zfZ hH p hp s hs hst (List.any_eq_true.2 ⟨q,hq,by simpa using e⟩)⟩
    have cA:∀ a∈zaU p k,∃ q:Nat,q<p.points.length/\q<s.switches.length/\PC P inv 294 [.agg p.c,.n a.pnt] (·=.n q)/\(nth s.switches q).call=za9 s a.pnt/\(nth s.switches q).id=a.pnt:=fun a ha=>ask_ix hH hp hst hk ha
    have cM:=fun m=>zqB hH p hp s hs m
    obtain ⟨X,hF⟩:∃ X,msF p s (zbO p k) (zaU p k) (fun m=>nth (zas p s).1 m.toNat)=X:=⟨_,rfl⟩
    rw[<-msF_eq hst hks,hF]
    have f0:((zah p (nth p.routes k)).1.path.map zcG).flatten++((zah p (nth p.routes k)).1.over.map zcG).flatten=((zbO p k).map zcG).flatten:=by unfold zbO;simp
    have f1:(zah p (nth p.routes k)).1.path.length+(zah p (nth p.routes k)).1.over.length=(zbO p k).length:=by unfold zbO;simp
    have hasl:(zaU p k).length<=1000:=hwl.1
    have hask:(zah p (nth p.routes k)).1.asks=zaU p k:=rfl
    unfold msF at hF
    generalize hH1:(fun m:Int=>nth (zas p s).1 m.toNat)=Hh at hF
    replace cS:∀ x∈zbO p k,PC P inv 296 [.agg p.c,.agg s.c,.n x] (·=.n (Hh x))/\PC P inv 335 [.agg p.c,.agg s.c,.n x] (·=.i .u8 (zcF s x)):=by subst hH1;exact cS
    clear hH1 hwp ho hpa hpl hst h4 h5 hid
    generalize zbO p k=all at *
    generalize zaU p k=asl9 at *
    generalize (zah p (nth p.routes k)).1=w at *
    obtain ⟨wp,wo,wa,wn⟩:=w
    dsimp only at c3 hwl f0 f1 hask
    subst hask
    refine PC.fn hH cd331 fun w0 M Q hM hE hQ hR=>?_;dsimp only[cd331,qm,ql,qf,qi,qb,qc,qp,qN,qT,qt]at hQ |-
    skip
    (have hX:=zA @f0 @f1;(repeat' first|refine zaa [0,1,2,3,4,6,7,8,9,10,11,12,13,18,24,31,46,55,56,63,64,69,94,96] fun K hK=>?_|(refine hK.go ?_;clear hK K)|with_reducible exact wT|refine wA ?_|(refine wE (fun h0 h=>?_) (fun h0 h=>?_)<;>first|exact wN h|((try replace hF:=wX hF);clear h0;first|exact hF.elim|((try subst (h:(_:Bool)=_));try replace hF:=wX hF)))|(refine wQ ?_;clear hQ hR hE hM)|refine wC c1 ?_|refine wC c2 ?_|refine wC c3 ?_|fail);all_goals clear hX)
    all_goals first|exact hF|(exfalso;contradiction)|skip
    refine zaR hF fun Bd Ed hBd hEd hF=>?_;refine zam (ι:=Nat) [3,4,6,9,10,11] (fun z=>[(11,.n z)]) (fun _=>[]) (fun z=>z) (all.length) (fun z=>(zaL Bd Ed (all.length-z) z ()=X)) (0) ?_;rintro i ⟨hk,hF⟩;(try dsimp only at hk hF |-);rcases Nat.lt_or_ge i all.length with hlt|hge
    ·rw[zav hBd hlt]at hF;(try dsimp only at hF)
     have hi9:i<all.length:=by assumption
     obtain ⟨d1,d2⟩:=cS _ (zab hi9)
     have d0:=zdt hi9
     generalize Hh (nth all i)=hv at *
     generalize zcF s (nth all i)=iv at *
     (have hX:=@d0;(repeat' first|refine zaa [0,1,2,3,4,6,7,8,9,10,11,12,13,18,24,31,46,55,56,63,64,69,94,96] fun K hK=>?_|(refine hK.go ?_;clear hK K)|with_reducible exact wT|refine wA ?_|(refine wE (fun h0 h=>?_) (fun h0 h=>?_)<;>first|exact wN h|((try replace hF:=wX hF);clear h0;first|exact hF.elim|((try subst (h:(_:Bool)=_));try replace hF:=wX hF)))|(refine wQ ?_;clear hQ hR hE hM)|refine wC d1 ?_|refine wC d2 ?_|fail);all_goals clear hX)
     all_goals first|exact hF|(exfalso;contradiction)|exact congrArg AV.n hF|exact nX (i+1)
    ·rw[zaQ hge,hEd]at hF;(try dsimp only at hF)
     (repeat' first|refine zaa [0,1,2,3,4,6,7,8,9,10,11,12,13,18,24,31,46,55,56,63,64,69,94,96] fun K hK=>?_|(refine hK.go ?_;clear hK K)|with_reducible exact wT|refine wA ?_|(refine wE (fun h0 h=>?_) (fun h0 h=>?_)<;>first|exact wN h|((try replace hF:=wX hF);clear h0;first|exact hF.elim|((try subst (h:(_:Bool)=_));try replace hF:=wX hF)))|(refine wQ ?_;clear hQ hR hE hM)|fail)
     refine zaR hF fun Bd Ed hBd hEd hF=>?_;refine zam (ι:=Nat) [3,4,6,9,12] (fun z=>[(12,.n z)]) (fun _=>[]) (fun z=>z) (wa.length) (fun z=>(zaL Bd Ed (wa.length-z) z ()=X)) (0) ?_;rintro j ⟨hk,hF⟩;(try dsimp only at hk hF |-);rcases Nat.lt_or_ge j wa.length with hlt|hge
     ·rw[zav hBd hlt]at hF;(try dsimp only at hF)
      obtain ⟨q,hq1,hq2,d3,e3,_⟩:=cA _ (zab (show j<wa.length by assumption))
      have d4:=cM (nth wa j).pnt
      rw[<-e3]at hF
      generalize zeP p s (nth wa j).pnt=mv at *
      (have hX:=@Int.toNat_natCast;(repeat' first|refine zaa [0,1,2,3,4,6,7,8,9,10,11,12,13,18,24,31,46,55,56,63,64,69,94,96] fun K hK=>?_|(refine hK.go ?_;clear hK K)|with_reducible exact wT|refine wA ?_|(refine wE (fun h0 h=>?_) (fun h0 h=>?_)<;>first|exact wN h|((try replace hF:=wX hF);clear h0;first|exact hF.elim|((try subst (h:(_:Bool)=_));try replace hF:=wX hF)))|(refine wQ ?_;clear hQ hR hE hM)|refine wC d3 ?_|refine wU d3 ?_|refine wC d4 ?_|fail);all_goals clear hX)
      all_goals first|exact hF|(exfalso;contradiction)|exact congrArg AV.n hF|exact nX (j+1)
     ·rw[zaQ hge,hEd]at hF;(try dsimp only at hF)
      (repeat' first|refine zaa [0,1,2,3,4,6,7,8,9,10,11,12,13,18,24,31,46,55,56,63,64,69,94,96] fun K hK=>?_|(refine hK.go ?_;clear hK K)|with_reducible exact wT|refine wA ?_|(refine wE (fun h0 h=>?_) (fun h0 h=>?_)<;>first|exact wN h|((try replace hF:=wX hF);clear h0;first|exact hF.elim|((try subst (h:(_:Bool)=_));try replace hF:=wX hF)))|(refine wQ ?_;clear hQ hR hE hM)|fail)
      all_goals first|exact hF|exact congrArg AV.n hF
   ·rw[if_neg hph]
    clear h4 h5 hid hst ho hpa hpl
    refine PC.fn hH cd331 fun w0 M Q hM hE hQ hR=>?_;dsimp only[cd331,qm,ql,qf,qi,qb,qc,qp,qN,qT,qt]at hQ |-
    (repeat' first|refine zaa [0,1,2,3,4,6,7,8,9,10,11,12,13,18,24,31,46,55,56,63,64,69,94,96] fun K hK=>?_|(refine hK.go ?_;clear hK K)|with_reducible exact wT|refine wA ?_|(refine wB (fun h=>?_) (fun h=>?_)<;>first|exact wN h|subst (h:(_:Bool)=_)|skip)|(refine wQ ?_;clear hQ hR hE hM)|refine wC c1 ?_|refine wC c2 ?_|fail)
    all_goals first|rfl|(exfalso;contradiction)
 ·have:lkC p s n=zad p s:=by unfold lkC;rw[if_neg hst]
  rw[this]
  generalize zad p s=e at *
  refine PC.fn hH cd331 fun w0 M Q hM hE hQ hR=>?_;dsimp only[cd331,qm,ql,qf,qi,qb,qc,qp,qN,qT,qt]at hQ |-
  (repeat' first|refine zaa [0,1,2,3,4,6,7,8,9,10,11,12,13,18,24,31,46,55,56,63,64,69,94,96] fun K hK=>?_|(refine hK.go ?_;clear hK K)|with_reducible exact wT|refine wA ?_|(refine wB (fun h=>?_) (fun h=>?_)<;>first|exact wN h|subst (h:(_:Bool)=_)|skip)|(refine wQ ?_;clear hQ hR hE hM)|refine wC c1 ?_|fail)
  all_goals first|rfl|(exfalso;contradiction)
theorem set18_po (hH:HasAll P inv) (p:Pln) (hp:Sm p) (s:State) (hs:SmS s) (n:Int) {k:Nat} (hm:MaySet p s n k):PO P inv 330 [.agg p.c,.agg s.c,.n n] (.tup [zdD 6 (zft s n (zaU p k)),.n 0]) (zdE 6 (zft s n (zaU p k))):=by
 have c1:=zlt hH p hp s hs n
 rw[zij.2 ⟨k,hm⟩]at c1
 have hst:=hm.st
 have ho:=zai hst
 have hpa:=(zac hst).2.1
 have hpl:=zak hpa
 have hks:=hm.lt
 have hkr:k<p.routes.length:=by omega
 have c2:=zho hH p (by have:=hp.rte;omega) n
 have hix:za3 (fun x=>decide (Rte.id x=n)) 0 p.routes=(k:Int):=by rw[<-hm.id,<-znx hpa hks];exact zgD ho hkr
 rw[hix]at c2
 have c3:=zek hH p hp (zac hst).1 hkr
 have c4:=zdf hH s hs
 have cA:∀ a∈zaU p k,∃ q:Nat,q<p.points.length/\q<s.switches.length/\PC P inv 294 [.agg p.c,.n a.pnt] (·=.n q)/\(nth s.switches q).call=za9 s a.pnt/\(nth s.switches q).id=a.pnt:=fun a ha=>ask_ix hH hp hst hkr ha
 have hno:(s.switches.map Switch.id).Nodup:=by rw[zcl hpa];exact zbI ho
 have hnl:(s.locks.map Lock.id).Nodup:=by rw[zmK hpa];exact zhP ho
 have hidl:=hm.id
 have hl2:=hs.2.1
 have hl3:=hs.2.2
 have hasl:(zaU p k).length<=1000:=(zbf ho (zab hkr)).1
 have hask:(zah p (nth p.routes k)).1.asks=zaU p k:=rfl
 have eL:s.locks.set k ⟨(nth s.locks k).id,1,(nth s.locks k).gone,(nth s.locks k).left⟩=zdU Lock.id n (fun l=>⟨l.id,1,l.gone,l.left⟩) s.locks:=zcL Lock.id n (fun l=>(⟨l.id,1,l.gone,l.left⟩:Lock)) hnl hks hidl
 have fL:=zbS (c:=Lock.c) (l:=s.locks) (k:=k) (i:=1) hks (by omega) (.i .u8 1) (⟨(nth s.locks k).id,1,(nth s.locks k).gone,(nth s.locks k).left⟩:Lock) rfl
 rw[eL]at fL
 have hidx:∀ (q:List AskR) (l:List Switch) (i:Nat),i<l.length->(nth (zaZ q l) i).id=(nth l i).id:=fun q l i hi=>(zjG q l i hi).1
 unfold stV stR at c4
 clear hm hst ho hpa hpl hix eL hnl
 generalize zaU p k=asl9 at *
 generalize (zah p (nth p.routes k)).1=w at *
 obtain ⟨wp,wo,wa,wn⟩:=w
 dsimp only at c3 hask
 subst hask
 refine PO.fn hH cd330 fun w0 M Q hM hE hQ hR=>?_;dsimp only[cd330,qm,ql,qf,qi,qb,qc,qN,qt]at hQ |-
 (repeat' first|refine zaa [0,1,2,3,4,6,7,8,9,10,11,17,32] fun K hK=>?_|(refine hK.go ?_;clear hK K)|with_reducible exact wT|refine wA ?_|(refine wB (fun h=>?_) (fun h=>?_)<;>first|exact wN h|subst (h:(_:Bool)=_)|skip)|(refine wR ?_;clear hQ hR hE hM)|refine wC c1 ?_|refine wC c2 ?_|refine wC c3 ?_|refine wO c4 ?_|fail)
 all_goals first|(exfalso;contradiction)|skip
 refine zam (ι:=Nat) [3,4,6,7,9,10,11] (fun z=>[(11,.n z)]) (fun z=>[(7,.cells ((zaZ (wa.take z) s.switches).map Switch.c).flatten (decide (0<s.switches.length)))]) (fun z=>z) (wa.length) (fun _=>True) (0) ?_;rintro i ⟨hk,-⟩;(try dsimp only at hk |-);rcases Nat.lt_or_ge i wa.length with hlt|hge
 ·obtain ⟨q,hq1,hq2,d3,_,e3⟩:=cA _ (zab hlt)
  have hcl:=zb0 (wa.take i) s.switches
  have hq3:q<(zaZ (wa.take i) s.switches).length:=by omega
  have hnd:((zaZ (wa.take i) s.switches).map Switch.id).Nodup:=by rw[ze0];exact hno
  have hid2:(nth (zaZ (wa.take i) s.switches) q).id=(nth wa i).pnt:=by rw[hidx _ _ _ hq2];exact e3
  have e4:=zcL Switch.id (nth wa i).pnt (fun t=>(⟨t.id,t.lie,(nth wa i).lie⟩:Switch)) hnd hq3 hid2
  have e5:=zbS (c:=Switch.c) (l:=zaZ (wa.take i) s.switches) (k:=q) (i:=2) hq3 (by omega) (.i .i64 (nth wa i).lie) (⟨(nth (zaZ (wa.take i) s.switches) q).id,(nth (zaZ (wa.take i) s.switches) q).lie,(nth wa i).lie⟩:Switch) rfl
  rw[e4,<-ziI,zhA hlt]at e5
  generalize zaZ (wa.take i) s.switches=U at *
  (have hX:=zA @e5 (zA @hcl @Int.toNat_natCast);(repeat' first|refine zaa [0,1,2,3,4,6,7,8,9,10,11,17,32] fun K hK=>?_|(refine hK.go ?_;clear hK K)|with_reducible exact wT|refine wA ?_|(refine wB (fun h=>?_) (fun h=>?_)<;>first|exact wN h|subst (h:(_:Bool)=_)|skip)|(refine wR ?_;clear hQ hR hE hM)|refine wC d3 ?_|refine wU d3 ?_|fail);all_goals clear hX)
  all_goals first|(exfalso;contradiction)|exact ⟨i+1,by omega,by omega,by omega,rfl⟩
 ·rw[List.take_of_length_le hge]
  have hcl:=zb0 wa s.switches
  (have hX:=zA @fL @Int.toNat_natCast;(repeat' first|refine zaa [0,1,2,3,4,6,7,8,9,10,11,17,32] fun K hK=>?_|(refine hK.go ?_;clear hK K)|with_reducible exact wT|refine wA ?_|(refine wB (fun h=>?_) (fun h=>?_)<;>first|exact wN h|subst (h:(_:Bool)=_)|skip)|(refine wR ?_;clear hQ hR hE hM)|fail);all_goals clear hX)
  all_goals (left;unfold zdD zdE zft;dsimp only;rw[za1,zb0];constructor)
  all_goals (refine wD ?_;try with_reducible exact wT)
theorem set18_pc (hH:HasAll P inv) (p:Pln) (hp:Sm p) (s:State) (hs:SmS s) (n:Int):PC P inv 330 [.agg p.c,.agg s.c,.n n] (·=.tup [.agg (lkS p s n).c,.n (lkC p s n)]):=by
 by_cases he:lkC p s n=0
 ·obtain ⟨k,hm⟩:=zij.1 he
  have:=(set18_po hH p hp s hs n hm).pc
  rw[zbi]at this
  rw[hm.lkS,he]
  exact this
 ·have c1:=zlt hH p hp s hs n
  unfold lkS
  rw[if_neg he]
  generalize lkC p s n=e at *
  refine PC.fn hH cd330 fun w0 M Q hM hE hQ hR=>?_;dsimp only[cd330,qm,ql,qf,qi,qb,qc,qN,qt]at hQ |-
  (repeat' first|refine zaa [0,1,2,3,4,6,7,8,9,10,11,17,32] fun K hK=>?_|(refine hK.go ?_;clear hK K)|with_reducible exact wT|refine wA ?_|(refine wB (fun h=>?_) (fun h=>?_)<;>first|exact wN h|subst (h:(_:Bool)=_)|skip)|(refine wQ ?_;clear hQ hR hE hM)|refine wC c1 ?_|fail)
  all_goals first|rfl|(exfalso;contradiction)
theorem zoQ {p:Pln} (ho:OkP p) {r:Rte} (hr:r∈p.routes):zkw p (sig p r.entry).sec=true:=by
 have hg:=(zfG ho.sec).1 ho.sgn
 have hR:=(zms ho.sec hg r).1 (ho.rte r hr)
 obtain ⟨k,hk,_,_,e⟩:=zga ho.sec hg hR
 obtain ⟨q,hq,e2,_⟩:=hg.sec _ (zab hk)
 rw[e]
 exact List.any_eq_true.2 ⟨q,hq,by simpa using e2⟩
theorem zmZ (hH:HasAll P inv) (p:Pln) (hp:Sm p) (s:State) (hs:SmS s) {i g:Nat} (hi:i<p.routes.length) (his:i<s.locks.length) (hgn:(nth s.locks i).gone=g) (q:Int->Int) (hc:∀ n∈(nth p.routes i).path,PC P inv 335 [.agg p.c,.agg s.c,.n n] (·=.i .u8 (q n)))
  (hg:g<=(nth p.routes i).path.length) (h6:(nth p.routes i).path.length<=6):PC P inv 371 [.agg p.c,.agg s.c,.n i] (·=.b (((nth p.routes i).path.drop g).all fun m=>decide (q m=0))):=by
 have hl3:=hs.2.2
 have hrl:=hp.rte
 cases hb:(((nth p.routes i).path.drop g).all fun m=>decide (q m=0)) with
 |true =>
  have hn:=List.all_eq_true.1 hb
  refine PC.fn hH cd371 fun w0 M Q hM hE hQ hR=>?_;dsimp only[cd371,qm,ql,qf,qi,qb,qc,qN,qt]at hQ |-
  (have hX:=@hgn;(repeat' first|refine zaa [0,1,2,3,4,6,7,8,24,33,34] fun K hK=>?_|(refine hK.go ?_;clear hK K)|with_reducible exact wT|refine wA ?_|(refine wB (fun h=>?_) (fun h=>?_)<;>first|exact wN h|subst (h:(_:Bool)=_)|skip)|(refine wQ ?_;clear hQ hR hE hM)|fail);all_goals clear hX)
  refine zam (ι:=Nat) [3,4,6,7,8] (fun z=>[(8,.n ((g:Int)+(z:Int)))]) (fun _=>[]) (fun z=>z) (((nth p.routes i).path.length-g)) (fun _=>True) (0) ?_;rintro k ⟨hk,-⟩;(try dsimp only at hk |-);rcases Nat.lt_or_ge k ((nth p.routes i).path.length-g) with hlt|hge
  ·have hk2:g+k<(nth p.routes i).path.length:=by omega
   have d1:=hc _ (zab hk2)
   have x0:=zdt hk2
   have x1:((g:Int)+(k:Int)).toNat=g+k:=by omega
   have h0:q (nth (nth p.routes i).path (g+k))=0:=by
    have:=hn (nth (nth p.routes i).path (g+k)) (by have h9:=List.getElem_mem (l:=(nth p.routes i).path.drop g) (n:=k) (by rw[List.length_drop];omega);rw[List.getElem_drop]at h9;rw[zaK hk2];exact h9)
    simpa using this
   rw[h0]at d1
   (have hX:=zA @x0 @x1;(repeat' first|refine zaa [0,1,2,3,4,6,7,8,24,33,34] fun K hK=>?_|(refine hK.go ?_;clear hK K)|with_reducible exact wT|refine wA ?_|(refine wB (fun h=>?_) (fun h=>?_)<;>first|exact wN h|subst (h:(_:Bool)=_)|skip)|(refine wQ ?_;clear hQ hR hE hM)|refine wC d1 ?_|refine wU d1 ?_|fail);all_goals clear hX)
   all_goals first|(exfalso;contradiction)|(exfalso;omega)|exact ⟨k+1,by omega,by omega,by omega⟩
  ·(repeat' first|refine zaa [0,1,2,3,4,6,7,8,24,33,34] fun K hK=>?_|(refine hK.go ?_;clear hK K)|with_reducible exact wT|refine wA ?_|(refine wB (fun h=>?_) (fun h=>?_)<;>first|exact wN h|subst (h:(_:Bool)=_)|skip)|(refine wQ ?_;clear hQ hR hE hM)|fail)
   all_goals first|rfl|(exfalso;contradiction)|(exfalso;omega)
 |false =>
  refine PC.fn hH cd371 fun w0 M Q hM hE hQ hR=>?_;dsimp only[cd371,qm,ql,qf,qi,qb,qc,qN,qt]at hQ |-
  (have hX:=@hgn;(repeat' first|refine zaa [0,1,2,3,4,6,7,8,24,33,34] fun K hK=>?_|(refine hK.go ?_;clear hK K)|with_reducible exact wT|refine wA ?_|(refine wB (fun h=>?_) (fun h=>?_)<;>first|exact wN h|subst (h:(_:Bool)=_)|skip)|(refine wQ ?_;clear hQ hR hE hM)|fail);all_goals clear hX)
  refine zam (ι:=Nat) [3,4,6,7,8] (fun z=>[(8,.n ((g:Int)+(z:Int)))]) (fun _=>[]) (fun z=>z) (((nth p.routes i).path.length-g)) (fun z=>(((nth p.routes i).path.drop (g+z)).all (fun m=>decide (q m=0))=((nth p.routes i).path.drop g).all (fun m=>decide (q m=0)))) (0) ?_;rintro k ⟨hk,hG⟩;(try dsimp only at hk hG |-);rcases Nat.lt_or_ge k ((nth p.routes i).path.length-g) with hlt|hge
  ·have hk2:g+k<(nth p.routes i).path.length:=by omega
   rw[hb,zaf hk2,List.all_cons]at hG
   have d1:=hc _ (zab hk2)
   have x0:=zdt hk2
   have x1:((g:Int)+(k:Int)).toNat=g+k:=by omega
   generalize q (nth (nth p.routes i).path (g+k))=a at *
   by_cases ha:a=0
   ·subst ha
    rw[show decide ((0:Int)=0)=true from rfl,Bool.true_and]at hG
    (have hX:=zA @x0 @x1;(repeat' first|refine zaa [0,1,2,3,4,6,7,8,24,33,34] fun K hK=>?_|(refine hK.go ?_;clear hK K)|with_reducible exact wT|refine wA ?_|(refine wB (fun h=>?_) (fun h=>?_)<;>first|exact wN h|subst (h:(_:Bool)=_)|skip)|(refine wQ ?_;clear hQ hR hE hM)|refine wC d1 ?_|refine wU d1 ?_|fail);all_goals clear hX)
    all_goals first|(exfalso;contradiction)|(exfalso;omega)|exact ⟨k+1,by omega,⟨by omega,by rw[show g+(k+1)=g+k+1 by omega];exact hG.trans hb.symm⟩,by omega⟩
   ·have z:=decide_eq_false ha
    (have hX:=zA @x0 (zA @x1 @z);(repeat' first|refine zaa [0,1,2,3,4,6,7,8,24,33,34] fun K hK=>?_|(refine hK.go ?_;clear hK K)|with_reducible exact wT|refine wA ?_|(refine wB (fun h=>?_) (fun h=>?_)<;>first|exact wN h|subst (h:(_:Bool)=_)|skip)|(refine wQ ?_;clear hQ hR hE hM)|refine wC d1 ?_|refine wU d1 ?_|fail);all_goals clear hX)
    all_goals first|rfl|(exfalso;contradiction)|(exfalso;omega)
  ·rw[hb,List.drop_eq_nil_of_le (by omega),List.all_nil]at hG
   cases hG
theorem zpu (hH:HasAll P inv) (p:Pln) (hp:Sm p) (s:State) (hs:SmS s) (he:zad p s=0):PO P inv 365 [.agg p.c,.agg s.c] (.tup [zdD 5 (ze7 s),.n 0]) (zdE 5 (ze7 s)):=by
 have c0:=zbm hH p hp s hs
 rw[he]at c0
 have c1:=zdf hH s hs
 have hlf:∀ k,k<s.locks.length->((nth s.locks k).left=0/\((nth s.locks k).phase=0\/(nth s.locks k).phase=1\/(nth s.locks k).phase=2))\/(1<=(nth s.locks k).left/\(nth s.locks k).left<=9/\((nth s.locks k).phase=3\/(nth s.locks k).phase=4)):=fun k hk=>by
  have hpa:=(zac he).2.1
  have hpl:=zak hpa
  have h1:=zqG (zcV hpa hk)
  have h2:=zfy (zai he) (zab (show k<p.routes.length by omega))
  omega
 obtain ⟨h1,h2,h3⟩:=hs
 unfold stV stR at c1
 refine PO.fn hH cd365 fun w0 M Q hM hE hQ hR=>?_;dsimp only[cd365,qm,ql,qf,qi,qb,qc,qp,qN,qT,qt]at hQ |-
 (repeat' first|refine zaa [0,1,2,3,4,5,6,7,8,13,22,37,44] fun K hK=>?_|(refine hK.go ?_;clear hK K)|with_reducible exact wT|refine wA ?_|(refine wB (fun h=>?_) (fun h=>?_)<;>first|exact wN h|subst (h:(_:Bool)=_)|skip)|(refine wR ?_;clear hQ hR hE hM)|refine wC c0 ?_|refine wO c1 ?_|fail)
 all_goals first|(exfalso;contradiction)|skip
 refine zam (ι:=Nat) [3,4,5,7] (fun z=>[(7,.n z)]) (fun z=>[(7,.cells ((zdT (fun _ l=>zcb l) z s.locks).map Lock.c).flatten (decide (0<s.locks.length)))]) (fun z=>z) (s.locks.length) (fun _=>True) (0) ?_;rintro k ⟨hk,-⟩;(try dsimp only at hk |-);rcases Nat.lt_or_ge k s.locks.length with hlt|hge
 ·have e1:=zeC (fun _ l=>zcb l) hlt
  have en:=zdm (fun _ l=>zcb l) hlt
  have hlen:(zdT (fun _ l=>zcb l) k s.locks).length=s.locks.length:=zbX _ _ _
  have hl9:=hlf k hlt
  have eid:=zpr (fun _ l=>zcb l) hlt
  (try dsimp only at e1);(try dsimp only at eid)
  generalize hU:zdT (fun _ l=>zcb l) k s.locks=U at *
  have hk:k<U.length:=by omega
  have fa:zcx (U.map Lock.c).flatten (k*4) (some 4)=some (.agg (nth s.locks k).c):=by
   rw[zeV (c:=Lock.c) (l:=U) (k:=k) hk (by omega),en]
  by_cases h0:(nth s.locks k).left=0
  ·have eid:=eid (by unfold zcb;rw[if_pos h0])
   have hd1:decide ((nth s.locks k).phase=3)=false:=decide_eq_false (by omega)
   have hd2:decide ((nth s.locks k).phase=4)=false:=decide_eq_false (by omega)
   (have hX:=zA @fa (zA @hlen (zA @hd1 @hd2));(repeat' first|refine zaa [0,1,2,3,4,5,6,7,8,13,22,37,44] fun K hK=>?_|(refine hK.go ?_;clear hK K)|with_reducible exact wT|refine wA ?_|(refine wB (fun h=>?_) (fun h=>?_)<;>first|exact wN h|subst (h:(_:Bool)=_)|skip)|(refine wR ?_;clear hQ hR hE hM)|fail);all_goals clear hX)
   all_goals first|(exfalso;contradiction)|exact ⟨k+1,by omega,by omega,by omega,by rw[eid]⟩
  ·have hph:(nth s.locks k).phase=3\/(nth s.locks k).phase=4:=by omega
   have hl1:1<=(nth s.locks k).left/\(nth s.locks k).left<=9:=by omega
   clear hl9 hlf
   by_cases hl2:(nth s.locks k).left-1=0
   ·have hd:decide ((nth s.locks k).left-1=0)=true:=decide_eq_true hl2
    have hz:U.set k ⟨(nth s.locks k).id,0,0,0⟩=zdT (fun _ l=>zcb l) (k+1) s.locks:=by rw[<-e1];unfold zcb;rw[if_neg h0,if_pos hl2]
    rcases hph with hp3|hp3
    ·(have hX:=zA @fa (zA @hlen (zA @hp3 (zA @hd (zA (zcq hk) (zA (zbA hk) (zA (zbz hk) (zby hk)))))));(repeat' first|refine zaa [0,1,2,3,4,5,6,7,8,13,22,37,44] fun K hK=>?_|(refine hK.go ?_;clear hK K)|with_reducible exact wT|refine wA ?_|(refine wB (fun h=>?_) (fun h=>?_)<;>first|exact wN h|subst (h:(_:Bool)=_)|skip)|(refine wR ?_;clear hQ hR hE hM)|fail);all_goals clear hX)
     all_goals first|(exfalso;contradiction)|(exfalso;omega)|exact ⟨k+1,by omega,by omega,by omega,by rw[<-hz]⟩
    ·(have hX:=zA @fa (zA @hlen (zA @hp3 (zA @hd (zA (zcq hk) (zA (zbA hk) (zA (zbz hk) (zby hk)))))));(repeat' first|refine zaa [0,1,2,3,4,5,6,7,8,13,22,37,44] fun K hK=>?_|(refine hK.go ?_;clear hK K)|with_reducible exact wT|refine wA ?_|(refine wB (fun h=>?_) (fun h=>?_)<;>first|exact wN h|subst (h:(_:Bool)=_)|skip)|(refine wR ?_;clear hQ hR hE hM)|fail);all_goals clear hX)
     all_goals first|(exfalso;contradiction)|(exfalso;omega)|exact ⟨k+1,by omega,by omega,by omega,by rw[<-hz]⟩
   ·have hd:decide ((nth s.locks k).left-1=0)=false:=decide_eq_false hl2
    have hz:U.set k ⟨(nth s.locks k).id,(nth s.locks k).phase,(nth s.locks k).gone,(nth s.locks k).left-1⟩=zdT (fun _ l=>zcb l) (k+1) s.locks:=by rw[<-e1];unfold zcb;rw[if_neg h0,if_neg hl2]
    rcases hph with hp3|hp3
    ·rw[hp3]at hz
     (have hX:=zA @fa (zA @hlen (zA @hp3 (zA @hd (zA (zcq hk) (zA (zbA hk) (zA (zbz hk) (zby hk)))))));(repeat' first|refine zaa [0,1,2,3,4,5,6,7,8,13,22,37,44] fun K hK=>?_|(refine hK.go ?_;clear hK K)|with_reducible exact wT|refine wA ?_|(refine wB (fun h=>?_) (fun h=>?_)<;>first|exact wN h|subst (h:(_:Bool)=_)|skip)|(refine wR ?_;clear hQ hR hE hM)|fail);all_goals clear hX)
     all_goals first|(exfalso;contradiction)|(exfalso;omega)|exact ⟨k+1,by omega,by omega,by omega,by rw[<-hz]⟩
    ·rw[hp3]at hz
     (have hX:=zA @fa (zA @hlen (zA @hp3 (zA @hd (zA (zcq hk) (zA (zbA hk) (zA (zbz hk) (zby hk)))))));(repeat' first|refine zaa [0,1,2,3,4,5,6,7,8,13,22,37,44] fun K hK=>?_|(refine hK.go ?_;clear hK K)|with_reducible exact wT|refine wA ?_|(refine wB (fun h=>?_) (fun h=>?_)<;>first|exact wN h|subst (h:(_:Bool)=_)|skip)|(refine wR ?_;clear hQ hR hE hM)|fail);all_goals clear hX)
     all_goals first|(exfalso;contradiction)|(exfalso;omega)|exact ⟨k+1,by omega,by omega,by omega,by rw[<-hz]⟩
 ·rw[zfx _ (by omega),zg1]
  (repeat' first|refine zaa [0,1,2,3,4,5,6,7,8,13,22,37,44] fun K hK=>?_|(refine hK.go ?_;clear hK K)|with_reducible exact wT|refine wA ?_|(refine wB (fun h=>?_) (fun h=>?_)<;>first|exact wN h|subst (h:(_:Bool)=_)|skip)|(refine wR ?_;clear hQ hR hE hM)|fail)
  all_goals (left;unfold zdD zdE ze7;dsimp only;rw[List.length_map];constructor)
  all_goals (refine wD ?_;try with_reducible exact wT)
theorem zpv (hH:HasAll P inv) (p:Pln) (hp:Sm p) (s:State) (hs:SmS s):PC P inv 365 [.agg p.c,.agg s.c] (·=.tup [.agg (zgo p s).c,.n (zad p s)]):=by
 unfold zgo
 by_cases he:zad p s=0
 ·have:=(zpu hH p hp s hs he).pc
  rw[zbi]at this
  rw[if_pos he,he]
  exact this
 ·have c0:=zbm hH p hp s hs
  rw[if_neg he]
  generalize zad p s=e at c0 he |-
  refine PC.fn hH cd365 fun w0 M Q hM hE hQ hR=>?_;dsimp only[cd365,qm,ql,qf,qi,qb,qc,qp,qN,qT,qt]at hQ |-
  (repeat' first|refine zaa [0,1,2,3,4,5,6,7,8,13,22,37,44] fun K hK=>?_|(refine hK.go ?_;clear hK K)|with_reducible exact wT|refine wA ?_|(refine wB (fun h=>?_) (fun h=>?_)<;>first|exact wN h|subst (h:(_:Bool)=_)|skip)|(refine wQ ?_;clear hQ hR hE hM)|refine wC c0 ?_|fail)
  all_goals first|rfl|(exfalso;contradiction)
theorem zg4 (hH:HasAll P inv) (p:Pln) (hp:Sm p) (s:State) (hs:SmS s) (hst:zad p s=0) {i:Nat} (hi:i<s.locks.length) :
  PC P inv 334 [.agg p.c,.n (nth s.locks i).id] (·=.n i)/\PC P inv 312 [.agg p.c,.n i] (·=.agg (zah p (nth p.routes i)).1.c)/\PC P inv 335 [.agg p.c,.agg s.c,.n (zah p (nth p.routes i)).1.near] (·=.i .u8 (zcF s (zah p (nth p.routes i)).1.near)) /\
   (∃ g:Nat,(nth s.locks i).gone=g/\PC P inv 371 [.agg p.c,.agg s.c,.n i] (·=.b (zdh s (zah p (nth p.routes i)).1 (nth s.locks i))))/\i<p.routes.length:=by
 have ho:=zai hst
 have hpa:=(zac hst).2.1
 have hpl:=zak hpa
 have hkr:i<p.routes.length:=by omega
 have c2:=zho hH p (by have:=hp.rte;omega) (nth s.locks i).id
 have hix:za3 (fun x=>decide (Rte.id x=(nth s.locks i).id)) 0 p.routes=(i:Int):=by rw[<-znx hpa hi];exact zgD ho hkr
 rw[hix]at c2
 have hwp:=zbv ((zaH (zac hst).1).2.1 _ (zab hkr))
 have hgn:=zeS ho (zab hkr) (zcV hpa hi)
 obtain ⟨g,hg⟩:∃ g:Nat,(nth s.locks i).gone=g:=⟨(nth s.locks i).gone.toNat,by omega⟩
 have hln:=zc3 ho (zab hkr)
 have c5:=zmZ hH p hp s hs hkr hi hg (zcF s) (fun n hn=>by
  obtain ⟨q,hq,e⟩:=(zb8 ho (zab hkr)).1 n (List.mem_append.2 (.inl hn))
  exact zfZ hH p hp _ hs hst (List.any_eq_true.2 ⟨q,hq,by simpa using e⟩)) (by omega) hln.2.1
 refine ⟨c2,zek hH p hp (zac hst).1 hkr, ?_,⟨g,hg, ?_⟩,hkr⟩
 ·exact zfZ hH p hp s hs hst (by rw[hwp.2.2];exact zoQ ho (zab hkr))
 ·rw[zrj hst,hwp.1,hg,Int.toNat_natCast]
  exact c5
theorem zm2 (hH:HasAll P inv) (p:Pln) (hp:Sm p) (s:State) (hs:SmS s) (n:Int) (he:cnC p s n=0):PO P inv 364 [.agg p.c,.agg s.c,.n n] (.tup [zdD 7 (cnS p s n),.n 0]) (zdE 7 (cnS p s n)):=by
 have hst:zad p s=0:=by
  unfold cnC at he
  split at he
  ·assumption
  ·rename_i h9;exact absurd he h9
 have c1:=zbm hH p hp s hs
 rw[hst]at c1
 obtain ⟨i,hi,hid,hix,he0⟩:=cnC_ix hst he
 obtain ⟨c2,c3,c4,⟨g,hg,c5⟩,hkr⟩:=zg4 hH p hp s hs hst hi
 rw[hid]at c2
 have c6:=zdf hH s hs
 unfold stV stR at c6
 have hl3:=hs.2.2
 have hrl:=hp.rte
 have hwl:=zbf (zai hst) (zab hkr)
 have hns:=near_sec hst hkr
 unfold cnS
 rw[hix,Int.toNat_natCast]
 unfold cnL
 unfold cnC0 at he0
 clear hst he
 have hft:frT s (zah p (nth p.routes i)).1.near=decide (zcF s (zah p (nth p.routes i)).1.near=0):=hns
 generalize (zah p (nth p.routes i)).1=w at *
 generalize zcF s w.near=a at *
 by_cases hp1:(nth s.locks i).phase=1
 ·by_cases ha:a=0
  ·subst ha
   rw[if_neg (fun h9=>by rw[hft]at h9;simp at h9)]
   refine PO.fn hH cd364 fun w0 M Q hM hE hQ hR=>?_;dsimp only[cd364,qm,ql,qf,qi,qc,qN,qt]at hQ |-
   (have hX:=zA @hp1 (zA @Int.toNat_natCast (zA (zcq hi) (zA (zbA hi) (zA (zbz hi) (zby hi)))));(repeat' first|refine zaa [0,1,2,3,4,6,7,8,9,10,11,16,23,33,35,38,46,47,56,62] fun K hK=>?_|(refine hK.go ?_;clear hK K)|with_reducible exact wT|refine wA ?_|(refine wB (fun h=>?_) (fun h=>?_)<;>first|exact wN h|subst (h:(_:Bool)=_)|skip)|(refine wR ?_;clear hQ hR hE hM)|refine wC c1 ?_|refine wC c2 ?_|refine wC c3 ?_|refine wU c3 ?_|refine wC c4 ?_|refine wO c6 ?_|fail);all_goals clear hX)
   all_goals first|(exfalso;contradiction)|(exfalso;omega)|skip
   all_goals (left;unfold zdD zdE;dsimp only;rw[List.length_set];constructor)
   all_goals (refine wD ?_;try with_reducible exact wT)
  ·have z:=decide_eq_false ha
   rw[if_pos ⟨hp1,by rw[hft];exact z⟩]
   refine PO.fn hH cd364 fun w0 M Q hM hE hQ hR=>?_;dsimp only[cd364,qm,ql,qf,qi,qc,qN,qt]at hQ |-
   (have hX:=zA @hp1 (zA @z (zA @Int.toNat_natCast (zA (zcq hi) (zA (zbA hi) (zA (zbz hi) (zby hi))))));(repeat' first|refine zaa [0,1,2,3,4,6,7,8,9,10,11,16,23,33,35,38,46,47,56,62] fun K hK=>?_|(refine hK.go ?_;clear hK K)|with_reducible exact wT|refine wA ?_|(refine wB (fun h=>?_) (fun h=>?_)<;>first|exact wN h|subst (h:(_:Bool)=_)|skip)|(refine wR ?_;clear hQ hR hE hM)|refine wC c1 ?_|refine wC c2 ?_|refine wC c3 ?_|refine wU c3 ?_|refine wC c4 ?_|refine wO c6 ?_|fail);all_goals clear hX)
   all_goals first|(exfalso;contradiction)|(exfalso;omega)|skip
   all_goals (left;unfold zdD zdE;dsimp only;rw[List.length_set];constructor)
   all_goals (refine wD ?_;try with_reducible exact wT)
 ·rw[if_neg (fun h9=>hp1 h9.1)]
  rw[if_neg hp1]at he0
  have hp2:(nth s.locks i).phase=2/\zdh s w (nth s.locks i)=true:=by
   by_cases h9:(nth s.locks i).phase=0
   ·rw[if_pos h9]at he0;cases he0
   ·rw[if_neg h9]at he0
    by_cases h8:(nth s.locks i).phase=2/\zdh s w (nth s.locks i)=true
    ·exact h8
    ·rw[if_neg h8]at he0;cases he0
  obtain ⟨hp2,hem⟩:=hp2
  rw[hem]at c5
  refine PO.fn hH cd364 fun w0 M Q hM hE hQ hR=>?_;dsimp only[cd364,qm,ql,qf,qi,qc,qN,qt]at hQ |-
  (have hX:=zA @hp2 (zA @Int.toNat_natCast (zA (zcq hi) (zA (zbA hi) (zA (zbz hi) (zby hi)))));(repeat' first|refine zaa [0,1,2,3,4,6,7,8,9,10,11,16,23,33,35,38,46,47,56,62] fun K hK=>?_|(refine hK.go ?_;clear hK K)|with_reducible exact wT|refine wA ?_|(refine wB (fun h=>?_) (fun h=>?_)<;>first|exact wN h|subst (h:(_:Bool)=_)|skip)|(refine wR ?_;clear hQ hR hE hM)|refine wC c1 ?_|refine wC c2 ?_|refine wC c5 ?_|refine wO c6 ?_|fail);all_goals clear hX)
  all_goals first|(exfalso;contradiction)|(exfalso;omega)|skip
  all_goals (left;unfold zdD zdE;dsimp only;rw[List.length_set];constructor)
  all_goals (refine wD ?_;try with_reducible exact wT)
theorem zm3 (hH:HasAll P inv) (p:Pln) (hp:Sm p) (s:State) (hs:SmS s) (n:Int):PC P inv 364 [.agg p.c,.agg s.c,.n n] (·=.tup [.agg (cnR p s n).c,.n (cnC p s n)]):=by
 unfold cnR
 by_cases he:cnC p s n=0
 ·have:=(zm2 hH p hp s hs n he).pc
  rw[zbi]at this
  rw[if_pos he,he]
  exact this
 ·rw[if_neg he]
  have c1:=zbm hH p hp s hs
  by_cases hst:zad p s=0
  ·have hpa:=(zac hst).2.1
   have hpl:=zak hpa
   have hl3:=hs.2.2
   have hrl:=hp.rte
   rw[hst]at c1
   unfold cnC at he |-
   rw[if_pos hst]at he |-
   rcases zat Lock.id n s.locks with ⟨h4,h5⟩|⟨i,hi,h4,h5⟩
   ·rw[show zeR s n=-1 from h4,if_pos (by decide)]
    have c2:=zho hH p (by omega) n
    have hix:za3 (fun x=>decide (Rte.id x=n)) 0 p.routes=-1:=by
     rcases zat Rte.id n p.routes with ⟨h6,_⟩|⟨j,hj,_,h7⟩
     ·exact h6
     ·exact absurd (by rw[<-h7];exact (znx hpa (show j<s.locks.length by omega)).symm) (h5 (nth s.locks j) (zab (by omega)))
    rw[hix]at c2
    refine PC.fn hH cd364 fun w0 M Q hM hE hQ hR=>?_;dsimp only[cd364,qm,ql,qf,qi,qc,qN,qt]at hQ |-
    (repeat' first|refine zaa [0,1,2,3,4,6,7,8,9,10,11,16,23,33,35,38,46,47,56,62] fun K hK=>?_|(refine hK.go ?_;clear hK K)|with_reducible exact wT|refine wA ?_|(refine wB (fun h=>?_) (fun h=>?_)<;>first|exact wN h|subst (h:(_:Bool)=_)|skip)|(refine wQ ?_;clear hQ hR hE hM)|refine wC c1 ?_|refine wC c2 ?_|fail)
    all_goals first|rfl|(exfalso;contradiction)
   ·rw[show zeR s n=(i:Int) from h4,if_neg (show ¬((i:Nat):Int)<0 by omega),Int.toNat_natCast]at he |-
    obtain ⟨c2,c3,c4,⟨g,hg,c5⟩,hkr⟩:=zg4 hH p hp s hs hst hi
    rw[h5]at c2
    clear hst hpa
    unfold cnC0 at he |-
    generalize (zah p (nth p.routes i)).1=w at *
    by_cases hp0:(nth s.locks i).phase=0
    ·rw[if_pos hp0]
     refine PC.fn hH cd364 fun w0 M Q hM hE hQ hR=>?_;dsimp only[cd364,qm,ql,qf,qi,qc,qN,qt]at hQ |-
     (have hX:=zA @hp0 @Int.toNat_natCast;(repeat' first|refine zaa [0,1,2,3,4,6,7,8,9,10,11,16,23,33,35,38,46,47,56,62] fun K hK=>?_|(refine hK.go ?_;clear hK K)|with_reducible exact wT|refine wA ?_|(refine wB (fun h=>?_) (fun h=>?_)<;>first|exact wN h|subst (h:(_:Bool)=_)|skip)|(refine wQ ?_;clear hQ hR hE hM)|refine wC c1 ?_|refine wC c2 ?_|fail);all_goals clear hX)
     all_goals first|rfl|(exfalso;contradiction)|(exfalso;omega)
    ·rw[if_neg hp0]at he |-
     by_cases hp1:(nth s.locks i).phase=1
     ·rw[if_pos hp1]at he;exact absurd rfl he
     ·rw[if_neg hp1]at he |-
      have e0:decide ((nth s.locks i).phase=0)=false:=decide_eq_false hp0
      have e1:decide ((nth s.locks i).phase=1)=false:=decide_eq_false hp1
      by_cases hp2:(nth s.locks i).phase=2
      ·have hem:zdh s w (nth s.locks i)=false:=by
        cases h9:zdh s w (nth s.locks i) with
        |false=>rfl
        |true=>rw[if_pos ⟨hp2,h9⟩]at he;exact absurd rfl he
       rw[if_neg (fun h9=>by rw[hem]at h9;cases h9.2)]
       rw[hem]at c5
       refine PC.fn hH cd364 fun w0 M Q hM hE hQ hR=>?_;dsimp only[cd364,qm,ql,qf,qi,qc,qN,qt]at hQ |-
       (have hX:=zA @hp2 @Int.toNat_natCast;(repeat' first|refine zaa [0,1,2,3,4,6,7,8,9,10,11,16,23,33,35,38,46,47,56,62] fun K hK=>?_|(refine hK.go ?_;clear hK K)|with_reducible exact wT|refine wA ?_|(refine wB (fun h=>?_) (fun h=>?_)<;>first|exact wN h|subst (h:(_:Bool)=_)|skip)|(refine wQ ?_;clear hQ hR hE hM)|refine wC c1 ?_|refine wC c2 ?_|refine wC c5 ?_|fail);all_goals clear hX)
       all_goals first|rfl|(exfalso;contradiction)|(exfalso;omega)
      ·rw[if_neg (fun h9=>hp2 h9.1)]
       have e2:decide ((nth s.locks i).phase=2)=false:=decide_eq_false hp2
       refine PC.fn hH cd364 fun w0 M Q hM hE hQ hR=>?_;dsimp only[cd364,qm,ql,qf,qi,qc,qN,qt]at hQ |-
       (have hX:=zA @e0 (zA @e1 (zA @e2 @Int.toNat_natCast));(repeat' first|refine zaa [0,1,2,3,4,6,7,8,9,10,11,16,23,33,35,38,46,47,56,62] fun K hK=>?_|(refine hK.go ?_;clear hK K)|with_reducible exact wT|refine wA ?_|(refine wB (fun h=>?_) (fun h=>?_)<;>first|exact wN h|subst (h:(_:Bool)=_)|skip)|(refine wQ ?_;clear hQ hR hE hM)|refine wC c1 ?_|refine wC c2 ?_|fail);all_goals clear hX)
       all_goals first|rfl|(exfalso;contradiction)|(exfalso;omega)
  ·rw[show cnC p s n=zad p s by unfold cnC;rw[if_neg hst]]
   generalize zad p s=e at *
   refine PC.fn hH cd364 fun w0 M Q hM hE hQ hR=>?_;dsimp only[cd364,qm,ql,qf,qi,qc,qN,qt]at hQ |-
   (repeat' first|refine zaa [0,1,2,3,4,6,7,8,9,10,11,16,23,33,35,38,46,47,56,62] fun K hK=>?_|(refine hK.go ?_;clear hK K)|with_reducible exact wT|refine wA ?_|(refine wB (fun h=>?_) (fun h=>?_)<;>first|exact wN h|subst (h:(_:Bool)=_)|skip)|(refine wQ ?_;clear hQ hR hE hM)|refine wC c1 ?_|fail)
   all_goals first|rfl|(exfalso;contradiction)
def rpvF (s:State) (pa ov:List Int) (as:List AskR) (L:AskR->Int):Bool :=
 zaL (fun i _ za5=>cond (!decide (zcF s (nth pa i)=0)) false (za5 ()))
  (fun _=>zaL (fun i _ za5=>cond (!decide (zcF s (nth ov i)=0)) false (za5 ()))
   (fun _=>zaL (fun i _ za5=>cond (!decide (L (nth as i)=(nth as i).lie)) false (za5 ())) (fun _=>true) as.length 0 ()) ov.length 0 ()) pa.length 0 ()
def zdA (r:Rte) (is:Int->Int):Nat->Lock->Lock
 |0,l=>l
 |m+1,l=>zdA r is m (zcm r is l)
theorem zly {r:Rte} {is:Int->Int} {l:Lock} (e:zcm r is l=l):∀ m,zdA r is m l=l
 |0=>rfl
 |m+1=>by rw[zdA,e];exact zly e m
theorem zqK (r:Rte) (is:Int->Int):∀ (m:Nat) (l:Lock),zdA r is m l=zc2 r is m l
 |0,_=>rfl
 |m+1,l=>by
  rw[zdA,zc2]
  split
  ·rename_i e;rw[e];exact zly e m
  ·exact zqK r is m _
theorem zlx {r:Rte} {is:Int->Int} {l:Lock} (h:zax l r=true) (h0:0<r.path.length) (h6:r.path.length<=6) (ht:1<=r.timer):zdA r is 10 l=zdX r is l:=by
 rw[zqK]
 refine zgP h0 ht 10 l h ?_
 unfold zet
 split
 ·omega
 ·split
  ·simp only[zax,show l.phase=2 by assumption]at h
   simp at h
   omega
  ·split<;>omega
theorem zjr (r:Rte) (is:Int->Int):∀ (m:Nat) (l:Lock),zdA r is (m+1) l=zcm r is (zdA r is m l)
 |0,_=>rfl
 |m+1,l=>by rw[zdA,zjr r is m];rfl
theorem zmi (hH:HasAll P inv) (p:Pln) (hp:Sm p) (S:State) {k:Nat} (hk:k<p.routes.length) (q:Int->Int) (hc:∀ n∈(nth p.routes k).path,PC P inv 335 [.agg p.c,.agg S.c,.n n] (·=.i .u8 (q n)))
  (h0:0<(nth p.routes k).path.length) (h6:(nth p.routes k).path.length<=6) (l:Lock) (hl:zax l (nth p.routes k)=true):PC P inv 372 [.agg p.c,.agg S.c,.agg l.c,.n k] (·=.agg (zcm (nth p.routes k) q l).c):=by
 have hrl:=hp.rte
 have d1:=hc _ (zab (show (nth p.routes k).path.length-1<(nth p.routes k).path.length by omega))
 have g1:=zdt (show (nth p.routes k).path.length-1<(nth p.routes k).path.length by omega)
 have t1:(((nth p.routes k).path.length:Int)-1).toNat=(nth p.routes k).path.length-1:=by omega
 obtain ⟨id,ph,gn,lf⟩:=l
 by_cases h1:ph=1\/ph=4
 ·have e:zcm (nth p.routes k) q ⟨id,ph,gn,lf⟩=if ((nth p.routes k).path.any fun n=>decide (q n=1))=true then ⟨id,2,0,0⟩ else ⟨id,ph,gn,lf⟩:=by unfold zcm;rw[if_pos h1]
  rw[e]
  clear e hl d1 g1
  have hpl:(((nth p.routes k).path.length:Int)-1)+1=(nth p.routes k).path.length:=by omega
  cases hb:((nth p.routes k).path.any fun n=>decide (q n=1)) with
  |true =>
   rw[if_pos rfl]
   refine PC.fn hH cd372 fun w0 M Q hM hE hQ hR=>?_;dsimp only[cd372,qm,ql,qf,qi,qb,qc,qp,qv,qN,qT,qF,qt]at hQ |-
   (repeat' first|refine zaa [0,1,2,3,4,5,6,8,9,10,11,12,29,32,42,43,56,65,77,79,92,104,114] fun K hK=>?_|(refine hK.go ?_;clear hK K)|with_reducible exact wT|refine wA ?_|(refine wB (fun h=>?_) (fun h=>?_)<;>first|exact wN h|subst (h:(_:Bool)=_)|skip)|(refine wQ ?_;clear hQ hR hE hM)|fail)
   all_goals first|(exfalso;omega)|skip
   all_goals
    refine zam (ι:=Nat) [4,5,6,8,9,10,11] (fun z=>[(11,.n z)]) (fun _=>[]) (fun z=>z) ((nth p.routes k).path.length) (fun z=>(((nth p.routes k).path.drop z).any (fun n=>decide (q n=1))=(nth p.routes k).path.any (fun n=>decide (q n=1)))) (0) ?_;rintro j ⟨hk,hg⟩;(try dsimp only at hk hg |-);rcases Nat.lt_or_ge j (nth p.routes k).path.length with hlt|hge
    ·have hj:j<(nth p.routes k).path.length:=by assumption
     rw[hb,zaf hj,List.any_cons]at hg
     have d1:=hc _ (zab hj)
     have x0:=zdt hj
     generalize q (nth (nth p.routes k).path j)=a at *
     by_cases ha:a=1
     ·subst ha
      (have hX:=@x0;(repeat' first|refine zaa [0,1,2,3,4,5,6,8,9,10,11,12,29,32,42,43,56,65,77,79,92,104,114] fun K hK=>?_|(refine hK.go ?_;clear hK K)|with_reducible exact wT|refine wA ?_|(refine wB (fun h=>?_) (fun h=>?_)<;>first|exact wN h|subst (h:(_:Bool)=_)|skip)|(refine wQ ?_;clear hQ hR hE hM)|refine wC d1 ?_|refine wU d1 ?_|fail);all_goals clear hX)
      all_goals first|rfl|(exfalso;contradiction)|(exfalso;omega)
     ·have z:=decide_eq_false ha
      rw[z,Bool.false_or]at hg
      (have hX:=zA @x0 @z;(repeat' first|refine zaa [0,1,2,3,4,5,6,8,9,10,11,12,29,32,42,43,56,65,77,79,92,104,114] fun K hK=>?_|(refine hK.go ?_;clear hK K)|with_reducible exact wT|refine wA ?_|(refine wB (fun h=>?_) (fun h=>?_)<;>first|exact wN h|subst (h:(_:Bool)=_)|skip)|(refine wQ ?_;clear hQ hR hE hM)|refine wC d1 ?_|refine wU d1 ?_|fail);all_goals clear hX)
      all_goals first|(exfalso;contradiction)|(exfalso;omega)|exact ⟨j+1,by omega,⟨by omega,hg.trans hb.symm⟩,by omega⟩
    ·rw[hb,List.drop_eq_nil_of_le (by assumption),List.any_nil]at hg
     cases hg
  |false =>
   rw[if_neg (by decide)]
   have hn:=List.any_eq_false.1 hb
   refine PC.fn hH cd372 fun w0 M Q hM hE hQ hR=>?_;dsimp only[cd372,qm,ql,qf,qi,qb,qc,qp,qv,qN,qT,qF,qt]at hQ |-
   (repeat' first|refine zaa [0,1,2,3,4,5,6,8,9,10,11,12,29,32,42,43,56,65,77,79,92,104,114] fun K hK=>?_|(refine hK.go ?_;clear hK K)|with_reducible exact wT|refine wA ?_|(refine wB (fun h=>?_) (fun h=>?_)<;>first|exact wN h|subst (h:(_:Bool)=_)|skip)|(refine wQ ?_;clear hQ hR hE hM)|fail)
   all_goals first|(exfalso;omega)|skip
   all_goals
    refine zam (ι:=Nat) [4,5,6,8,9,10,11] (fun z=>[(11,.n z)]) (fun _=>[]) (fun z=>z) ((nth p.routes k).path.length) (fun _=>True) (0) ?_;rintro j ⟨hk,-⟩;(try dsimp only at hk |-);rcases Nat.lt_or_ge j (nth p.routes k).path.length with hlt|hge
    ·have hj:j<(nth p.routes k).path.length:=by assumption
     have d1:=hc _ (zab hj)
     have x0:=zdt hj
     have ha:=hn _ (zab hj)
     have ha:¬q (nth (nth p.routes k).path j)=1:=by simpa using ha
     generalize q (nth (nth p.routes k).path j)=a at *
     have z:=decide_eq_false ha
     (have hX:=zA @x0 @z;(repeat' first|refine zaa [0,1,2,3,4,5,6,8,9,10,11,12,29,32,42,43,56,65,77,79,92,104,114] fun K hK=>?_|(refine hK.go ?_;clear hK K)|with_reducible exact wT|refine wA ?_|(refine wB (fun h=>?_) (fun h=>?_)<;>first|exact wN h|subst (h:(_:Bool)=_)|skip)|(refine wQ ?_;clear hQ hR hE hM)|refine wC d1 ?_|refine wU d1 ?_|fail);all_goals clear hX)
     all_goals first|(exfalso;contradiction)|(exfalso;omega)|exact ⟨j+1,by omega,by omega,by omega⟩
    ·(repeat' first|refine zaa [0,1,2,3,4,5,6,8,9,10,11,12,29,32,42,43,56,65,77,79,92,104,114] fun K hK=>?_|(refine hK.go ?_;clear hK K)|with_reducible exact wT|refine wA ?_|(refine wB (fun h=>?_) (fun h=>?_)<;>first|exact wN h|subst (h:(_:Bool)=_)|skip)|(refine wQ ?_;clear hQ hR hE hM)|fail)
     all_goals first|rfl|(exfalso;contradiction)|(exfalso;omega)
 ·by_cases h2:ph=2
  ·subst h2
   simp only[zax]at hl
   simp at hl
   obtain ⟨g,rfl⟩:∃ g:Nat,gn=g:=⟨gn.toNat,by omega⟩
   by_cases h3:(g:Int)<((nth p.routes k).path.length:Int)-1
   ·have d2:=hc _ (zab (show g<(nth p.routes k).path.length by omega))
    have d3:=hc _ (zab (show g+1<(nth p.routes k).path.length by omega))
    have g2:=zdt (show g<(nth p.routes k).path.length by omega)
    have g3:=zdt (show g+1<(nth p.routes k).path.length by omega)
    have t2:((g:Int)+1).toNat=g+1:=by omega
    have e:zcm (nth p.routes k) q ⟨id,2,g,lf⟩=if q (nth (nth p.routes k).path g)=0/\q (nth (nth p.routes k).path (g+1))=1 then ⟨id,2,(g:Int)+1,lf⟩ else ⟨id,2,g,lf⟩:=by
     unfold zcm
     rw[if_neg (by dsimp only;omega),if_pos rfl]
     dsimp only
     rw[Int.toNat_natCast]
     by_cases hq:q (nth (nth p.routes k).path g)=0/\q (nth (nth p.routes k).path (g+1))=1
     ·rw[if_pos ⟨h3,hq⟩,if_pos hq]
     ·rw[if_neg (fun h=>hq h.2),if_neg hq,if_neg (fun h=>by omega),if_neg (fun h=>by omega)]
    rw[e]
    clear e d1 g1
    generalize q (nth (nth p.routes k).path g)=a at *
    generalize q (nth (nth p.routes k).path (g+1))=b at *
    refine PC.fn hH cd372 fun w0 M Q hM hE hQ hR=>?_;dsimp only[cd372,qm,ql,qf,qi,qb,qc,qp,qv,qN,qT,qF,qt]at hQ |-
    (have hX:=zA @g2 (zA @g3 (zA @t2 @Int.toNat_natCast));(repeat' first|refine zaa [0,1,2,3,4,5,6,8,9,10,11,12,29,32,42,43,56,65,77,79,92,104,114] fun K hK=>?_|(refine hK.go ?_;clear hK K)|with_reducible exact wT|refine wA ?_|(refine wB (fun h=>?_) (fun h=>?_)<;>first|exact wN h|subst (h:(_:Bool)=_)|skip)|(refine wQ ?_;clear hQ hR hE hM)|refine wC d2 ?_|refine wC d3 ?_|refine wU d2 ?_|fail);all_goals clear hX)
    all_goals first|(exfalso;omega)|rfl|(simp[*];done)
   ·have e:zcm (nth p.routes k) q ⟨id,2,g,lf⟩=if q (nth (nth p.routes k).path ((nth p.routes k).path.length-1))=0 then ⟨id,0,0,0⟩ else if q (nth (nth p.routes k).path ((nth p.routes k).path.length-1))=1 then ⟨id,3,((nth p.routes k).path.length:Int)-1,(nth p.routes k).timer⟩ else ⟨id,2,g,lf⟩:=by
     unfold zcm
     rw[if_neg (by dsimp only;omega),if_pos rfl]
     dsimp only
     rw[if_neg (fun h=>by omega)]
     have hg:(g:Int)=((nth p.routes k).path.length:Int)-1:=by omega
     by_cases hq:q (nth (nth p.routes k).path ((nth p.routes k).path.length-1))=1
     ·rw[if_pos ⟨hg,hq⟩,if_neg (by omega),if_pos hq]
     ·rw[if_neg (fun h=>hq h.2)]
      by_cases hq0:q (nth (nth p.routes k).path ((nth p.routes k).path.length-1))=0
      ·rw[if_pos ⟨hg,hq0⟩,if_pos hq0]
      ·rw[if_neg (fun h=>hq0 h.2),if_neg hq0,if_neg hq]
    rw[e]
    clear e
    generalize q (nth (nth p.routes k).path ((nth p.routes k).path.length-1))=a at *
    refine PC.fn hH cd372 fun w0 M Q hM hE hQ hR=>?_;dsimp only[cd372,qm,ql,qf,qi,qb,qc,qp,qv,qN,qT,qF,qt]at hQ |-
    (have hX:=zA @g1 @t1;(repeat' first|refine zaa [0,1,2,3,4,5,6,8,9,10,11,12,29,32,42,43,56,65,77,79,92,104,114] fun K hK=>?_|(refine hK.go ?_;clear hK K)|with_reducible exact wT|refine wA ?_|(refine wB (fun h=>?_) (fun h=>?_)<;>first|exact wN h|subst (h:(_:Bool)=_)|skip)|(refine wQ ?_;clear hQ hR hE hM)|refine wC d1 ?_|fail);all_goals clear hX)
    all_goals first|(exfalso;omega)|rfl|(simp[*];done)
  ·have e:zcm (nth p.routes k) q ⟨id,ph,gn,lf⟩=if ph=3/\q (nth (nth p.routes k).path ((nth p.routes k).path.length-1))=0 then ⟨id,0,0,0⟩ else ⟨id,ph,gn,lf⟩:=by
    unfold zcm
    rw[if_neg h1,if_neg h2]
    dsimp only
    by_cases h3:ph=3
    ·rw[if_pos h3]
     by_cases hq0:q (nth (nth p.routes k).path ((nth p.routes k).path.length-1))=0
     ·rw[if_pos hq0,if_pos ⟨h3,hq0⟩]
     ·rw[if_neg hq0,if_neg (fun h=>hq0 h.2)]
    ·rw[if_neg h3,if_neg (fun h=>h3 h.1)]
   rw[e]
   clear e hl
   generalize q (nth (nth p.routes k).path ((nth p.routes k).path.length-1))=a at *
   refine PC.fn hH cd372 fun w0 M Q hM hE hQ hR=>?_;dsimp only[cd372,qm,ql,qf,qi,qb,qc,qp,qv,qN,qT,qF,qt]at hQ |-
   (have hX:=zA @g1 @t1;(repeat' first|refine zaa [0,1,2,3,4,5,6,8,9,10,11,12,29,32,42,43,56,65,77,79,92,104,114] fun K hK=>?_|(refine hK.go ?_;clear hK K)|with_reducible exact wT|refine wA ?_|(refine wB (fun h=>?_) (fun h=>?_)<;>first|exact wN h|subst (h:(_:Bool)=_)|skip)|(refine wQ ?_;clear hQ hR hE hM)|refine wC d1 ?_|fail);all_goals clear hX)
   all_goals first|(exfalso;omega)|rfl|(simp[*];done)
def itS (p:Pln) (s:State) (i:Nat) (l:Lock):Lock:=zdA (nth p.routes i) (zcF s) 10 l
def setS (p:Pln) (s:State) (i m:Nat):State:=⟨s.tracks,s.switches,(zdT (itS p s) i s.locks).set i (zdA (nth p.routes i) (zcF s) m (nth s.locks i))⟩
theorem updI_at {α:Type} [Inhabited α] (f:Nat->α->α) (k:Nat) {l:List α} {j:Nat} (hj:j<l.length):nth (zdT f k l) j=if j<k then f j (nth l j) else nth l j:=by
 rw[zaK (by rw[zbX];exact hj)]
 unfold zdT
 by_cases h:j<k
 ·rw[if_pos h,List.getElem_append_left (by simp;omega),List.getElem_take,List.getElem_mapIdx,zaK hj]
 ·rw[if_neg h,List.getElem_append_right (by simp;omega),List.getElem_drop,zaK hj]
  congr 1
  simp
  omega
theorem zku {r:Rte} {is:Int->Int} (h0:0<r.path.length) (ht:1<=r.timer):∀ (m:Nat) (l:Lock),zax l r=true->On l (zdA r is m l)/\zax (zdA r is m l) r=true
 |0,l,h=>⟨.inl rfl,h⟩
 |m+1,l,h=>by
  have h1:=(zhn (is:=is) h h0 ht).1
  have ih:=zku (is:=is) h0 ht m (zcm r is l) h1
  exact ⟨(stepL_on h).trans ih.1,ih.2⟩
theorem setS_on {p:Pln} {s:State} (h:zad p s=0) {i:Nat} (hi:i<s.locks.length) (m:Nat):OnS p s (setS p s i m):=by
 have both:∀ (m j:Nat),j<s.locks.length->On (nth s.locks j) (zdA (nth p.routes j) (zcF s) m (nth s.locks j))/\zbR (zdA (nth p.routes j) (zcF s) m (nth s.locks j)) (nth p.routes j)=true:=fun m j hj=>by
  obtain ⟨_,h2,h3,h4⟩:=zj0 h hj
  have h5:=zku (is:=zcF s) h2 h3 m _ h4
  have h6:=zcV (zac h).2.1 hj
  simp only[zbR,Bool.and_eq_true,decide_eq_true_eq]at h6 |-
  exact ⟨h5.1,h5.1.id.trans h6.1,h5.2⟩
 have key:∀ j,j<s.locks.length->nth (setS p s i m).locks j=if j=i then zdA (nth p.routes i) (zcF s) m (nth s.locks i) else if j<i then itS p s j (nth s.locks j) else nth s.locks j:=fun j hj=>by
  show nth ((zdT (itS p s) i s.locks).set i _) j=_
  rw[za7 _ _ _ _ (by rw[zbX];exact hi),updI_at _ _ hj]
 refine ⟨rfl,rfl,by show ((zdT (itS p s) i s.locks).set i _).length=_;rw[List.length_set,zbX],fun j hj=>?_,fun j hj=>?_⟩
 ·rw[key j hj]
  split
  ·rename_i e;subst e;exact (both m j hj).1
  ·split
   ·exact (both 10 j hj).1
   ·exact .inl rfl
 ·rw[key j hj]
  split
  ·rename_i e;subst e;exact (both m j hj).2
  ·split
   ·exact (both 10 j hj).2
   ·exact zcV (zac h).2.1 hj
theorem zot {p:Pln} {s:State} (h:zad p s=0):s.locks.mapIdx (itS p s)=(zdl p s).locks:=by
 refine ext_nth (by simp[zdl]) fun i hi=>?_
 have hi':i<s.locks.length:=by simpa using hi
 obtain ⟨hr,h2,h3,h4⟩:=zj0 h hi'
 rw[zjn _ hi',setl_at h hi']
 exact zlx h4 h2 (zc3 (zai h) hr).2.1 h3
theorem zos (hH:HasAll P inv) (p:Pln) (hp:Sm p) (s:State) (hs:SmS s) (hst:zad p s=0):PO P inv 370 [.agg p.c,.agg s.c] (zdD 5 (zdl p s)) (zdE 5 (zdl p s)):=by
 have c1:=zdf hH s hs
 have hpl:=zak (zac hst).2.1
 have hS:∀ i m,i<s.locks.length->PC P inv 372 [.agg p.c,.agg (setS p s i m).c,.agg (zdA (nth p.routes i) (zcF s) m (nth s.locks i)).c,.n i] (·=.agg (zdA (nth p.routes i) (zcF s) (m+1) (nth s.locks i)).c):=fun i m hi=>by
  have hon:=setS_on hst hi m
  have hc:=hon.code hst
  obtain ⟨hr,h2,h3,h4⟩:=zj0 hst hi
  rw[zjr]
  refine zmi hH p hp _ (by omega) (zcF s) (fun n hn=>?_) h2 (zc3 (zai hst) hr).2.1 _ (zku h2 h3 m _ h4).2
  obtain ⟨q,hq,e⟩:=(zb8 (zai hst) hr).1 n (List.mem_append.2 (.inl hn))
  exact zfZ hH p hp _ (hon.sm hst hs) hc (List.any_eq_true.2 ⟨q,hq,by simpa using e⟩)
 have hEE:=zot hst
 have e1:(zdl p s).tracks=s.tracks:=rfl
 have e2:(zdl p s).switches=s.switches:=rfl
 have hLl:(zdl p s).locks.length=s.locks.length:=zns p s
 obtain ⟨h1,h2,h3⟩:=hs
 unfold setS at hS
 clear hst
 generalize zdl p s=T at *
 generalize hit:itS p s=F at *
 have hit2:∀ i,i<s.locks.length->F i (nth s.locks i)=zdA (nth p.routes i) (zcF s) 10 (nth s.locks i):=fun i _=>by rw[<-hit];rfl
 clear hit
 generalize zcF s=q at *
 unfold stV stR at c1
 refine PO.fn hH cd370 fun w0 M Q hM hE hQ hR=>?_;dsimp only[cd370,qm,ql,qf,qi,qb,qc,qN,qt]at hQ |-
 (repeat' first|refine zaa [0,1,2,3,4,5,6,13,17] fun K hK=>?_|(refine hK.go ?_;clear hK K)|with_reducible exact wT|refine wA ?_|(refine wB (fun h=>?_) (fun h=>?_)<;>first|exact wN h|subst (h:(_:Bool)=_)|skip)|(refine wR ?_;clear hQ hR hE hM)|refine wO c1 ?_|fail)
 refine zam (ι:=Nat) [2,3,4,5] (fun z=>[(5,.n z)]) (fun z=>[(7,.cells ((zdT F z s.locks).map Lock.c).flatten (decide (0<s.locks.length)))]) (fun z=>z) (s.locks.length) (fun _=>True) (0) ?_;rintro i ⟨hk,-⟩;(try dsimp only at hk |-);rcases Nat.lt_or_ge i s.locks.length with hlt|hge
 ·have hi9:i<s.locks.length:=by assumption
  have e1':=zeC F hi9
  have en:=zdm F hi9
  have hlen:(zdT F i s.locks).length=s.locks.length:=zbX F i s.locks
  have hitF:=hit2 i hi9
  have hSi:=fun m=>hS i m hi9
  generalize hU:zdT F i s.locks=U at *
  have hkU:i<U.length:=by omega
  have hid:U.set i (nth s.locks i)=U:=by rw[<-en,zaK hkU,List.set_getElem_self]
  (repeat' first|refine zaa [0,1,2,3,4,5,6,13,17] fun K hK=>?_|(refine hK.go ?_;clear hK K)|with_reducible exact wT|refine wA ?_|(refine wB (fun h=>?_) (fun h=>?_)<;>first|exact wN h|subst (h:(_:Bool)=_)|skip)|(refine wR ?_;clear hQ hR hE hM)|fail)
  rw[<-hid]
  refine zam (ι:=Nat×Lock) [2,3,4,5,6] (fun z=>[(6,.n z.1)]) (fun z=>[(7,.cells ((U.set i z.2).map Lock.c).flatten (decide (0<s.locks.length)))]) (fun z=>z.1) (10) (fun z=>(z.2=zdA (nth p.routes i) q z.1 (nth s.locks i))) (0,nth s.locks i) ?_;rintro ⟨m,l9⟩ ⟨hk,hl⟩;(try dsimp only at hk hl |-);rcases Nat.lt_or_ge m 10 with hlt|hge
  ·have hm9:m<10:=by assumption
   have cs:=hSi m
   rw[<-hl]at cs
   generalize hn9:zdA (nth p.routes i) q (m+1) (nth s.locks i)=nx at *
   have fa:zcx ((U.set i l9).map Lock.c).flatten (i*4) (some 4)=some (.agg l9.c):=by
    rw[zeV (c:=Lock.c) (l:=U.set i l9) (k:=i) (by simpa using hkU) (by omega),zev hkU]
   have fc:zb2 4 s.locks.length ((U.set i l9).map Lock.c).flatten=(U.set i l9).map Lock.c:=by
    have:=zcI (c:=Lock.c) (U.set i l9)
    rw[List.length_set,hlen]at this
    exact this
   clear hSi hS hitF
   (have hX:=zA @fa (zA @fc (zA @hlen (zA (zhr hkU) (zA (zbA hkU) (zA (zbz hkU) (zby hkU))))));(repeat' first|refine zaa [0,1,2,3,4,5,6,13,17] fun K hK=>?_|(refine hK.go ?_;clear hK K)|with_reducible exact wT|refine wA ?_|(refine wB (fun h=>?_) (fun h=>?_)<;>first|exact wN h|subst (h:(_:Bool)=_)|skip)|(refine wR ?_;clear hQ hR hE hM)|refine wP cs ?_|refine wS cs ?_|fail);all_goals clear hX)
   all_goals first|(exfalso;contradiction)|exact ⟨(m+1,nx),by dsimp only;omega,⟨by dsimp only;omega,hn9.symm⟩,by dsimp only;omega,rfl⟩
  ·obtain rfl:m=10:=by omega
   have hfin:U.set i l9=zdT F (i+1) s.locks:=by rw[hl,<-hitF];exact e1'
   clear hSi hS hitF
   (repeat' first|refine zaa [0,1,2,3,4,5,6,13,17] fun K hK=>?_|(refine hK.go ?_;clear hK K)|with_reducible exact wT|refine wA ?_|(refine wB (fun h=>?_) (fun h=>?_)<;>first|exact wN h|subst (h:(_:Bool)=_)|skip)|(refine wR ?_;clear hQ hR hE hM)|fail)
   all_goals first|(exfalso;contradiction)|exact ⟨i+1,by omega,by omega,by omega,by rw[hfin]⟩
 ·rw[zfx _ (by omega),hEE]
  clear hS hit2 hEE
  (repeat' first|refine zaa [0,1,2,3,4,5,6,13,17] fun K hK=>?_|(refine hK.go ?_;clear hK K)|with_reducible exact wT|refine wA ?_|(refine wB (fun h=>?_) (fun h=>?_)<;>first|exact wN h|subst (h:(_:Bool)=_)|skip)|(refine wR ?_;clear hQ hR hE hM)|fail)
  all_goals (left;unfold zdD zdE;rw[e1,e2,hLl];constructor)
  all_goals (refine wD ?_;try with_reducible exact wT)
theorem of_ar {n:Nat} {e:Sh} {d:D} (h:Sh.ok (.ar n e) d):∃ l,d=.l l/\l.length=n/\∀ x∈l,Sh.ok e x:=by
 cases d with
 |l l=>exact ⟨l,rfl,by simpa only[Sh.ok] using h⟩
 |t _=>exact h.elim
 |n _=>exact h.elim
theorem arg_arr2 {d:D} (h:Sh.ok (.ar 2 (.i .i64)) d):∃ a b:Int,Sh.arg (.ar 2 (.i .i64)) d=.agg [.n a,.n b]:=by
 obtain ⟨l,rfl,hl,h⟩:=of_ar h
 match l,hl,h with
 |[x,y],_,h =>
  obtain ⟨a,rfl,_⟩:=zbr (h x (by simp))
  obtain ⟨b,rfl,_⟩:=zbr (h y (by simp))
  exact ⟨a,b,rfl⟩
theorem arg_bool {d:D} (h:Sh.ok .b d):∃ t,Sh.arg .b d=.b t:=by
 cases d with
 |t t=>exact ⟨t,rfl⟩
 |l _=>exact h.elim
 |n _=>exact h.elim
def planB:Pln:=⟨1,0,[⟨1,0,[⟨0,0⟩,⟨2,0⟩]⟩,⟨2,5,[⟨1,1⟩,⟨3,0⟩,⟨4,0⟩]⟩,⟨3,0,[⟨2,1⟩,⟨0,0⟩]⟩,⟨4,0,[⟨2,2⟩,⟨0,0⟩]⟩],[⟨5,2⟩],[⟨1,1,1⟩],[⟨1,1,0,[2,3],[],[],3⟩]⟩
def stB:State:=⟨[⟨1,2⟩,⟨2,2⟩,⟨3,2⟩,⟨4,2⟩],[⟨5,0,0⟩],[⟨1,0,0,0⟩]⟩
def stB2:State:=⟨[⟨1,2⟩,⟨2,0⟩,⟨3,2⟩,⟨4,2⟩],[⟨5,0,0⟩],[⟨1,0,0,0⟩]⟩
def stB3:State:=⟨[⟨1,2⟩,⟨2,0⟩,⟨3,2⟩,⟨4,2⟩],[⟨5,0,2⟩],[⟨1,0,0,0⟩]⟩
theorem tr_u8 {s:State} (hs:s.ok):∀ t∈s.tracks,0<=t.is:=fun t ht=>(hs.1.2 t ht).2.1
end Go.Lev
namespace Go.Eng
open Go.RowKit
mutual
/-- Numbers,truth values,names: nothing that lies in memory nobody names. -/
def nmV:AV->Bool
 |.agg cs=>nmL cs
 |.tup cs=>nmL cs
 |.i _ _=>true|.b _=>true|.v _=>true|.u=>true|.s0 _=>true|.ptr _ _ _=>true|.sm _ _ _ _ _=>true
 |.sl _ _=>false|.ip _ _ _ _=>false|.fn _ _=>false|.mp _=>false|.top=>false
def nmL:List AV->Bool
 |[]=>true
 |x::xs=>nmV x&&nmL xs
end
mutual
theorem zqu {c c':Ctx} (hS:c'.S=c.S):∀ (x:AV) (y:Value),nmV x=true->rel c x y->rel c' x y
 |.agg cs,y,s,r=>by
  simp only[rel]at r |-
  obtain ⟨xs,e,r⟩:=r
  exact ⟨xs,e,zkl hS cs _ (by simpa only[nmV] using s) r⟩
 |.tup cs,y,s,r=>by
  simp only[rel]at r |-
  obtain ⟨xs,e,r⟩:=r
  exact ⟨xs,e,zqw hS cs _ (by simpa only[nmV] using s) r⟩
 |.i _ _,_,_,r=>by simpa only[rel] using r
 |.b _,_,_,r=>by simpa only[rel] using r
 |.v _,_,_,r=>by simpa only[rel] using r
 |.u,_,_,r=>by simpa only[rel] using r
 |.s0 _,_,_,r=>by simpa only[rel] using r
 |.ptr _ _ _,_,_,r=>by simpa only[rel,hS] using r
 |.sm _ _ _ _ _,_,_,r=>by simpa only[rel,hS] using r
 |.sl _ _,_,s,_=>by simp[nmV]at s
 |.ip _ _ _ _,_,s,_=>by simp[nmV]at s
 |.fn _ _,_,s,_=>by simp[nmV]at s
 |.mp _,_,s,_=>by simp[nmV]at s
 |.top,_,s,_=>by simp[nmV]at s
theorem zqw {c c':Ctx} (hS:c'.S=c.S):∀ (xs:List AV) (ys:List Value),nmL xs=true->zbZ c xs ys->zbZ c' xs ys
 |[],ys,_,r=>by simpa only[zbZ] using r
 |x::xs,ys,s,r=>by
  simp only[nmL,Bool.and_eq_true]at s
  simp only[zbZ]at r |-
  obtain ⟨y,ys',e,r1,r2⟩:=r
  exact ⟨y,ys',e,zqu hS x y s.1 r1,zqw hS xs ys' s.2 r2⟩
theorem zkl {c c':Ctx} (hS:c'.S=c.S):∀ (xs:List AV) (ys:List Value),nmL xs=true->relCs c xs ys->relCs c' xs ys
 |[],ys,_,r=>by simpa only[relCs] using r
 |x::xs,ys,s,r=>by
  simp only[nmL,Bool.and_eq_true]at s
  simp only[relCs]at r |-
  obtain ⟨y,ys',e,ho,r1,r2⟩:=r
  exact ⟨y,ys',e,ho,zqu hS x y s.1 r1,zkl hS xs ys' s.2 r2⟩
end
def nmR:List (Nat×AO)->Bool
 |[]=>true
 |(_,.cells cs _)::r=>nmL cs&&nmR r
 |_::r=>nmR r
theorem zqv:∀ {σ:List (Nat×AO)},nmR σ=true->∀ {l:Nat} {cs:List AV} {b:Bool},zaF σ l=some (.cells cs b)->nmL cs=true
 |[],_,l,cs,b,e=>by simp[zaF]at e
 |(k,o)::r,h,l,cs,b,e=>by
  have hr:nmR r=true:=by
   cases o with
   |cells cs' b'=>simp only[nmR,Bool.and_eq_true]at h;exact h.2
   |imap kvs=>exact h
   |rsv=>exact h
  unfold zaF at e
  split at e
  ·simp only[Option.some.injEq]at e
   subst e
   simp only[nmR,Bool.and_eq_true]at h
   exact h.1
  ·exact zqv hr e
section
variable {P:Program} {inv:Nat->Option Nat} {w0:World} {M:Nat->Prop} {n N:Nat} {φ:AF} {σ:AS}
theorem PO.snapK (hM:∀ b,M b->b<w0.heap.size) (k:Nat) {j:Nat} {args args':List AV} {r:AV} {σ0:AS} (h:PO P inv j args' r σ0) (he:zb3 k σ args=args') (hr:nmV r=true) (hs:nmR σ0=true) {K:AV->AS->Prop}
  (hk:K (shV (zaB N φ σ) r) (zkR σ (shS (zaB N φ σ) σ0))):CallK P inv w0 M N φ σ j args K:=by
 obtain ⟨f1,f2,f3⟩:=zbG N φ σ
 refine ⟨zaB N φ σ,f1,f2,fun g hg β w vs hm ha=>?_⟩
 have hf:=zfC hm hM (A':=fun _=>False) (fun _ h=>h.elim) k
 have ha2:=zep hm hM (fun _ h=>h.elim) hf _ _ ha
 rw[show zck (zg9 k σ) args=args' from he]at ha2
 have hle:Ctx.Le ⟨inv,w,fun _=>False,fun _=>none⟩ (ctx inv (fun _=>False) [] (fun _=>0) w):=⟨rfl,Nat.le_refl _,fun _ _ _=>rfl,fun b _ hb=>by
  rcases hb with hb|⟨l,o,e,_⟩
  ·exact hb
  ·simp[zaF]at e⟩
 have hS:(ctx inv (fun _=>False) [] (fun _=>0) w).S=fun _=>Option.none:=by funext l;simp[ctx,zan,zaF]
 refine (h w (fun _=>False) (fun _ h=>h.elim) g hg (fun _=>0) w vs (Mem.none w) (zco (N:=0) hle _ _ (.inr hS) ha2)).mono ?_
 rintro e w' ⟨v,r',σ',β',rfl,⟨rfl,rfl⟩,hm',_,hr'⟩
 have hm2:Mem inv w (avoid M σ β) σ' β' w':=⟨hm'.below,hm'.inj,hm'.own,fun l cs e=>by
  obtain ⟨xs,ty,q1,q2,q3⟩:=hm'.cells l cs e
  exact ⟨xs,ty,q1,q2,zkl (c:=ctx inv (fun _=>False) σ' β' w') (c':=ctx inv (avoid M σ β) σ' β' w') rfl _ _ (zqv hs e) q3⟩,hm'.ghost,hm'.maps⟩
 obtain ⟨j1,j2,j3⟩:=hm.join hm2 (zaB N φ σ) f3
 exact ⟨v,_,_,_,rfl,hk,j1,j2,j3 _ _ (zqu (c:=ctx inv (fun _=>False) σ' β' w') (c':=ctx inv (avoid M σ β) σ' β' w') rfl _ _ hr hr')⟩
end
end Go.Eng
namespace Go.Lev
open Go.Eng
set_option maxRecDepth 10000
set_option maxHeartbeats 4000000
variable {P:Program} {inv:Nat->Option Nat} {w0:World} {M:Nat->Prop}
def pgF (p:Pln) (s:State) (n:Int):Bool×Int :=
 zaL (fun i (st:Bool×Int) za5=>cond (!decide ((nth p.points i).id=n)) (za5 st)
   (zaL (fun k (fr:Bool) next2=>next2 (fr||decide ((nth s.tracks k).id=(nth p.points i).sec)&&decide ((nth s.tracks k).is=0)))
    (fun fr=>za5 (fr,(i:Int))) s.tracks.length 0 st.1))
  (fun st=>st) p.points.length 0 (false,-1)
theorem zlb (hH:HasAll P inv) {a b:State} (h:SmS a) (e:a=b):PC P inv 10 [.agg a.c,.agg b.c] (·=.b true):=by
 have:=zpY hH a b (by have:=h.1;omega) (by have:=h.2.1;omega) (by have:=h.2.2;omega)
 rw[decide_eq_true e]at this
 exact this
def w9 (_:Nat) (t:Switch):Switch:=⟨t.id,t.lie,9⟩
def t9 (_:Nat) (t:Track):Track:=⟨t.id,9⟩
def planC:Pln:=⟨1,0,[⟨1,0,[⟨0,0⟩,⟨2,0⟩]⟩,⟨2,5,[⟨1,1⟩,⟨3,0⟩,⟨4,0⟩]⟩,⟨3,0,[⟨2,1⟩,⟨0,0⟩]⟩,⟨4,0,[⟨2,2⟩,⟨0,0⟩]⟩],[⟨5,2⟩],[⟨1,1,1⟩],[⟨1,1,0,[2,3],[],[],3⟩,⟨2,1,0,[2,4],[],[],4⟩]⟩
def stN:State:=⟨[⟨1,2⟩,⟨2,2⟩,⟨3,2⟩,⟨4,2⟩],[⟨5,0,0⟩],[⟨1,0,0,0⟩,⟨2,0,0,0⟩]⟩
def stQ:State:=⟨[⟨1,0⟩,⟨2,0⟩,⟨3,0⟩,⟨4,0⟩],[⟨5,0,0⟩],[⟨1,0,0,0⟩,⟨2,0,0,0⟩]⟩
def stQ1:State:=⟨[⟨1,0⟩,⟨2,0⟩,⟨3,0⟩,⟨4,0⟩],[⟨5,0,1⟩],[⟨1,1,0,0⟩,⟨2,0,0,0⟩]⟩
def freeT (_:Nat) (t:Track):Track:=⟨t.id,0⟩
def k9 (_:Nat) (l:Lock):Lock:=⟨l.id,9,l.gone,l.left⟩
end Go.Lev
