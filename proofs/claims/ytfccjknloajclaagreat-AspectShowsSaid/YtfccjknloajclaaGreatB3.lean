/-
  A part of the engine that walks the functions' codes, and of the functions' contracts. Conditions: those that each theorem names.
-/
import Derived.Test.YtfccjknloajclaaGreatB2
import Derived.IntWalk
set_option linter.unusedSimpArgs false
set_option linter.unusedVariables false
set_option linter.unusedSectionVars false
namespace Go.Lev
open Go.Eng
set_option maxRecDepth 10000
set_option maxHeartbeats 4000000
variable {P:Program} {inv:Nat→Option Nat} {w0:World} {M:Nat→Prop}
theorem zpJ (hH:HasAll P inv) {a b:State} (h:SmS a) (e:a=b):PC P inv 10 [.agg a.c,.agg b.c] (·=.b true):=by
 have:=zpK hH a b (by have:=h.1;omega) (by have:=h.2.1;omega) (by have:=h.2.2;omega)
 rw[decide_eq_true e]at this
 exact this
theorem znD {p:Pln} {s:State} (h:zac p s=0) {q:Nat} (hq:q<s.switches.length):zoD s (nth s.switches q).id=(nth s.switches q).lie:=by
 have hno:(s.switches.map Switch.id).Nodup:=by rw[zcJ (zae h).2.1];exact zcc (zap h)
 unfold zoD
 rw[zkm Switch.id hno hq rfl]
theorem lieT_of {p:Pln} {s:State} (h:zac p s=0) {a:AskR} (ha:zh9 p a.pnt=true):zpd s a=decide (zoD s a.pnt=a.lie):=by
 obtain ⟨m,hm,em⟩:=znF ha
 have hpa:=(zae h).2.1
 have hms:m<s.switches.length:=by have:=zan hpa;omega
 have es:(nth s.switches m).id=a.pnt:=by rw[zjI hpa hms,em]
 rw[Bool.eq_iff_iff,decide_eq_true_eq,zmA h ha,←es,znD h hms]
 constructor
 ·intro g;exact g m hms rfl
 ·intro g k hk ek
  have hno:(s.switches.map Switch.id).Nodup:=by rw[zcJ hpa];exact zcc (zap h)
  rw[zj4 Switch.id hno hk hms ek];exact g
theorem zjc (hH:HasAll P inv) (p:Pln) (hp:Sm p) (s:State) (hs:SmS s) (hst:zac p s=0) {k:Nat} (hk:k<p.routes.length):PC P inv 352 [.agg p.c,.agg s.c,.n k] (·=.b (zaS p s (nth p.routes k))):=by
 have ho:=zap hst
 have hpa:=(zae hst).2.1
 have hpl:=zan hpa
 have hks:k<s.locks.length:=by omega
 have hl3:=hs.2.2
 have hl2:=hs.2.1
 by_cases hph:(nth s.locks k).phase=1
 ·have c3:=zhk hH p hp (zae hst).1 hk
  have hwl:=zbI ho (zab hk)
  have hwp:=zbo ((zaD (zae hst).1).2.1 _ (zab hk))
  have cS:∀ x∈zbj p k,PC P inv 335 [.agg p.c,.agg s.c,.n x] (·=.i .u8 (zdx s x)):=fun x hx=>by
   unfold zbj at hx
   rw[hwp.1,hwp.2.1]at hx
   obtain ⟨q,hq,e⟩:=(zcx ho (zab hk)).1 x hx
   exact is17_ref hH p hp s hs hst (List.any_eq_true.2 ⟨q,hq,by simpa using e⟩)
  have cA:∀ a∈za1 p k,∃ q:Nat,q<s.switches.length∧PC P inv 294 [.agg p.c,.n a.pnt] (·=.n q)∧zoD s a.pnt=(nth s.switches q).lie:=fun a ha=>by
   obtain ⟨q,_,h2,h3,_,h5⟩:=ask_ix hH hp hst hk ha
   exact ⟨q,h2,h3,by rw[←h5];exact znD hst h2⟩
  obtain ⟨X,hF⟩:∃ X,rpvF s (zah p (nth p.routes k)).1.path (zah p (nth p.routes k)).1.over (za1 p k) (fun a=>zoD s a.pnt)=X:=⟨_,rfl⟩
  rw[←rpvF_eq hst hk hph (L:=fun a=>zoD s a.pnt) fun a ha=>lieT_of hst (zh8 ho (zab hk) ha),hF]
  have hasl:(za1 p k).length≤1000:=hwl.1
  have hask:(zah p (nth p.routes k)).1.asks=za1 p k:=rfl
  have cP:∀ x∈(zah p (nth p.routes k)).1.path,PC P inv 335 [.agg p.c,.agg s.c,.n x] (·=.i .u8 (zdx s x)):=fun x hx=>cS x (List.mem_append.2 (.inl hx))
  have cO:∀ x∈(zah p (nth p.routes k)).1.over,PC P inv 335 [.agg p.c,.agg s.c,.n x] (·=.i .u8 (zdx s x)):=fun x hx=>cS x (List.mem_append.2 (.inr hx))
  clear cS hwp ho hpa hpl hst
  unfold rpvF at hF
  generalize za1 p k=asl9 at *
  generalize (zah p (nth p.routes k)).1=w at *
  obtain ⟨wp,wo,wa,wn⟩:=w
  dsimp only at c3 hwl hask cP cO hF
  subst hask
  refine PC.fn hH cd352 fun w0 M Q hM hE hQ hR=>?_;dsimp only[cd352,qm,ql,qf,qi,qb,qc,qp,qv,qN,qT,qF,qt]at hQ ⊢
  skip
  (repeat' first|refine zaa [0,1,2,3,4,6,7,8,9,10,17,25,35,36,41,51,52,57,79] fun K hK=>?_|(refine hK.go ?_;clear hK K)|with_reducible exact wT|refine wA ?_|(refine wE (fun h0 h=>?_) (fun h0 h=>?_)<;>first|exact wN h|((try replace hF:=wX hF);clear h0;first|exact hF.elim|((try subst (h:(_:Bool)=_));try replace hF:=wX hF)))|(refine wQ ?_;clear hQ hR hE hM)|refine wC c3 ?_|fail)
  all_goals first|(exfalso;contradiction)|skip
  refine zaJ hF fun Bd Ed hBd hEd hF=>?_;refine zai (ι:=Nat) [3,4,6,7,8] (fun z=>[(8,.n z)]) (fun _=>[]) (fun z=>z) (wp.length) (fun z=>(zaB Bd Ed (wp.length-z) z ()=X)) (0) ?_;rintro i ⟨hk,hF⟩;(try dsimp only at hk hF ⊢);rcases Nat.lt_or_ge i wp.length with hlt|hge
  ·rw[zar hBd hlt]at hF;(try dsimp only at hF)
   have d1:=cP _ (zab (show i<wp.length by assumption))
   have d0:=znH (show i<wp.length by assumption)
   generalize zdx s (nth wp i)=iv at *
   (have hX:=@d0;(repeat' first|refine zaa [0,1,2,3,4,6,7,8,9,10,17,25,35,36,41,51,52,57,79] fun K hK=>?_|(refine hK.go ?_;clear hK K)|with_reducible exact wT|refine wA ?_|(refine wE (fun h0 h=>?_) (fun h0 h=>?_)<;>first|exact wN h|((try replace hF:=wX hF);clear h0;first|exact hF.elim|((try subst (h:(_:Bool)=_));try replace hF:=wX hF)))|(refine wQ ?_;clear hQ hR hE hM)|refine wC d1 ?_|fail);all_goals clear hX)
   all_goals first|exact hF|(exfalso;contradiction)|exact congrArg AV.b hF|exact nX (i+1)
  ·rw[zaI hge,hEd]at hF;(try dsimp only at hF)
   (repeat' first|refine zaa [0,1,2,3,4,6,7,8,9,10,17,25,35,36,41,51,52,57,79] fun K hK=>?_|(refine hK.go ?_;clear hK K)|with_reducible exact wT|refine wA ?_|(refine wE (fun h0 h=>?_) (fun h0 h=>?_)<;>first|exact wN h|((try replace hF:=wX hF);clear h0;first|exact hF.elim|((try subst (h:(_:Bool)=_));try replace hF:=wX hF)))|(refine wQ ?_;clear hQ hR hE hM)|fail)
   refine zaJ hF fun Bd Ed hBd hEd hF=>?_;refine zai (ι:=Nat) [3,4,6,7,9] (fun z=>[(9,.n z)]) (fun _=>[]) (fun z=>z) (wo.length) (fun z=>(zaB Bd Ed (wo.length-z) z ()=X)) (0) ?_;rintro j ⟨hk,hF⟩;(try dsimp only at hk hF ⊢);rcases Nat.lt_or_ge j wo.length with hlt|hge
   ·rw[zar hBd hlt]at hF;(try dsimp only at hF)
    have d1:=cO _ (zab (show j<wo.length by assumption))
    have d0:=znH (show j<wo.length by assumption)
    generalize zdx s (nth wo j)=iv at *
    (have hX:=@d0;(repeat' first|refine zaa [0,1,2,3,4,6,7,8,9,10,17,25,35,36,41,51,52,57,79] fun K hK=>?_|(refine hK.go ?_;clear hK K)|with_reducible exact wT|refine wA ?_|(refine wE (fun h0 h=>?_) (fun h0 h=>?_)<;>first|exact wN h|((try replace hF:=wX hF);clear h0;first|exact hF.elim|((try subst (h:(_:Bool)=_));try replace hF:=wX hF)))|(refine wQ ?_;clear hQ hR hE hM)|refine wC d1 ?_|fail);all_goals clear hX)
    all_goals first|exact hF|(exfalso;contradiction)|exact congrArg AV.b hF|exact nX (j+1)
   ·rw[zaI hge,hEd]at hF;(try dsimp only at hF)
    (repeat' first|refine zaa [0,1,2,3,4,6,7,8,9,10,17,25,35,36,41,51,52,57,79] fun K hK=>?_|(refine hK.go ?_;clear hK K)|with_reducible exact wT|refine wA ?_|(refine wE (fun h0 h=>?_) (fun h0 h=>?_)<;>first|exact wN h|((try replace hF:=wX hF);clear h0;first|exact hF.elim|((try subst (h:(_:Bool)=_));try replace hF:=wX hF)))|(refine wQ ?_;clear hQ hR hE hM)|fail)
    refine zaJ hF fun Bd Ed hBd hEd hF=>?_;refine zai (ι:=Nat) [3,4,6,7,10] (fun z=>[(10,.n z)]) (fun _=>[]) (fun z=>z) (wa.length) (fun z=>(zaB Bd Ed (wa.length-z) z ()=X)) (0) ?_;rintro m ⟨hk,hF⟩;(try dsimp only at hk hF ⊢);rcases Nat.lt_or_ge m wa.length with hlt|hge
    ·rw[zar hBd hlt]at hF;(try dsimp only at hF)
     obtain ⟨q,hq2,d3,e3⟩:=cA _ (zab (show m<wa.length by assumption))
     simp only[e3]at hF
     (have hX:=@Int.toNat_natCast;(repeat' first|refine zaa [0,1,2,3,4,6,7,8,9,10,17,25,35,36,41,51,52,57,79] fun K hK=>?_|(refine hK.go ?_;clear hK K)|with_reducible exact wT|refine wA ?_|(refine wE (fun h0 h=>?_) (fun h0 h=>?_)<;>first|exact wN h|((try replace hF:=wX hF);clear h0;first|exact hF.elim|((try subst (h:(_:Bool)=_));try replace hF:=wX hF)))|(refine wQ ?_;clear hQ hR hE hM)|refine wC d3 ?_|refine wU d3 ?_|fail);all_goals clear hX)
     all_goals first|exact hF|(exfalso;contradiction)|exact congrArg AV.b hF|exact nX (m+1)
    ·rw[zaI hge,hEd]at hF;(try dsimp only at hF)
     (repeat' first|refine zaa [0,1,2,3,4,6,7,8,9,10,17,25,35,36,41,51,52,57,79] fun K hK=>?_|(refine hK.go ?_;clear hK K)|with_reducible exact wT|refine wA ?_|(refine wE (fun h0 h=>?_) (fun h0 h=>?_)<;>first|exact wN h|((try replace hF:=wX hF);clear h0;first|exact hF.elim|((try subst (h:(_:Bool)=_));try replace hF:=wX hF)))|(refine wQ ?_;clear hQ hR hE hM)|fail)
     all_goals first|exact hF|exact congrArg AV.b hF|trace_state
 ·rw[prv_ph hst hk hph]
  clear hst ho hpa hpl
  refine PC.fn hH cd352 fun w0 M Q hM hE hQ hR=>?_;dsimp only[cd352,qm,ql,qf,qi,qb,qc,qp,qv,qN,qT,qF,qt]at hQ ⊢
  (repeat' first|refine zaa [0,1,2,3,4,6,7,8,9,10,17,25,35,36,41,51,52,57,79] fun K hK=>?_|(refine hK.go ?_;clear hK K)|with_reducible exact wT|refine wA ?_|(refine wB (fun h=>?_) (fun h=>?_)<;>first|exact wN h|subst (h:(_:Bool)=_)|skip)|(refine wQ ?_;clear hQ hR hE hM)|fail)
  all_goals first|rfl|(exfalso;contradiction)|trace_state
theorem zgr (hH:HasAll P inv) (p:Pln) (hp:Sm p) (s:State) (hs:SmS s) (hst:zac p s=0) (n:Int):PC P inv 353 [.agg p.c,.agg s.c,.n n] (·=.n (goX p (zaS p s) n)):=by
 have hc:=fun k (hk:k<p.routes.length)=>zjc hH p hp s hs hst hk
 have hrl:=hp.rte
 unfold goX
 generalize zaS p s=f at *
 clear hst
 refine PC.fn hH cd353 fun w0 M Q hM hE hQ hR=>?_;dsimp only[cd353,qm,ql,qf,qi,qb,qc,qp,qv,qN,qT,qF,qt]at hQ ⊢
 (repeat' first|refine zaa [0,1,2,3,4,6,7,12,28] fun K hK=>?_|(refine hK.go ?_;clear hK K)|with_reducible exact wT|refine wA ?_|(refine wB (fun h=>?_) (fun h=>?_)<;>first|exact wN h|subst (h:(_:Bool)=_)|skip)|(refine wQ ?_;clear hQ hR hE hM)|fail)
 refine zai (ι:=Nat) [2,3,4,6,7] (fun z=>[(7,.n z)]) (fun _=>[]) (fun z=>z) (p.routes.length) (fun z=>(zaW (fun r=>decide (Rte.entry r=n)&&f r) z (p.routes.drop z)=zaW (fun r=>decide (Rte.entry r=n)&&f r) 0 p.routes)) (0) ?_;rintro k ⟨hk,hg⟩;(try dsimp only at hk hg ⊢);rcases Nat.lt_or_ge k p.routes.length with hlt|hge
 ·have c1:=hc k hlt
  rw[zad hlt,zaW]at hg
  generalize f (nth p.routes k)=fk at *
  by_cases h1:(nth p.routes k).entry=n
  ·rw[decide_eq_true h1]at hg
   have h2:decide ((nth p.routes k).entry=n)=true:=decide_eq_true h1
   (have hX:=@h2;(repeat' first|refine zaa [0,1,2,3,4,6,7,12,28] fun K hK=>?_|(refine hK.go ?_;clear hK K)|with_reducible exact wT|refine wA ?_|(refine wB (fun h=>?_) (fun h=>?_)<;>first|exact wN h|subst (h:(_:Bool)=_)|skip)|(refine wQ ?_;clear hQ hR hE hM)|refine wC c1 ?_|fail);all_goals clear hX)
   all_goals first|(exfalso;contradiction)|(simpa using hg)|exact ⟨k+1,by omega,⟨by omega,by simpa using hg⟩,by omega⟩|trace_state
  ·rw[decide_eq_false h1]at hg
   have h2:decide ((nth p.routes k).entry=n)=false:=decide_eq_false h1
   (have hX:=@h2;(repeat' first|refine zaa [0,1,2,3,4,6,7,12,28] fun K hK=>?_|(refine hK.go ?_;clear hK K)|with_reducible exact wT|refine wA ?_|(refine wB (fun h=>?_) (fun h=>?_)<;>first|exact wN h|subst (h:(_:Bool)=_)|skip)|(refine wQ ?_;clear hQ hR hE hM)|refine wC c1 ?_|fail);all_goals clear hX)
   all_goals first|(exfalso;contradiction)|exact ⟨k+1,by omega,⟨by omega,by simpa using hg⟩,by omega⟩|trace_state
 ·rw[List.drop_eq_nil_of_le hge,zaW]at hg
  (repeat' first|refine zaa [0,1,2,3,4,6,7,12,28] fun K hK=>?_|(refine hK.go ?_;clear hK K)|with_reducible exact wT|refine wA ?_|(refine wB (fun h=>?_) (fun h=>?_)<;>first|exact wN h|subst (h:(_:Bool)=_)|skip)|(refine wQ ?_;clear hQ hR hE hM)|fail)
  all_goals first|(rw[←hg];done)|(rw[←hg];rfl)|trace_state
theorem zmn (hH:HasAll P inv) (p:Pln) (hp:Sm p) (s:State) (hs:SmS s) (n:Int):PC P inv 344 [.agg p.c,.agg s.c,.n n] (·=.tup [.b (decide (prC p s n=0)&&prR p s n),.n (prC p s n)]):=by
 have c1:=zdY hH p hp s hs
 unfold prC prR
 by_cases hst:zac p s=0
 ·rw[hst]at c1
  simp only[if_pos hst]
  have c2:=rteR_ref hH p (by have:=hp.rte;omega) n
  rw[show zaW (fun x=>decide (Rte.id x=n)) 0 p.routes=zoi p n from rfl]at c2
  rcases zaP Rte.id n p.routes with ⟨h4,_⟩|⟨k,hk,h4,h5⟩
  ·rw[show zoi p n=-1 from h4]at c2 ⊢
   clear hst
   refine PC.fn hH cd344 fun w0 M Q hM hE hQ hR=>?_;dsimp only[cd344,qm,ql,qf,qi,qb,qc,qp,qv,qN,qT,qF,qt]at hQ ⊢
   (repeat' first|refine zaa [0,1,2,3,4,6,7,8,9,14,20] fun K hK=>?_|(refine hK.go ?_;clear hK K)|with_reducible exact wT|refine wA ?_|(refine wB (fun h=>?_) (fun h=>?_)<;>first|exact wN h|subst (h:(_:Bool)=_)|skip)|(refine wQ ?_;clear hQ hR hE hM)|refine wC c1 ?_|refine wC c2 ?_|fail)
   all_goals first|rfl|(exfalso;contradiction)|trace_state
  ·have c3:=zjc hH p hp s hs hst hk
   rw[show zoi p n=(k:Int) from h4]at c2 ⊢
   rw[if_neg (show ¬((k:Nat):Int)<0 by omega),if_neg (show ¬((k:Nat):Int)<0 by omega),Int.toNat_natCast]
   generalize zaS p s (nth p.routes k)=b at *
   clear hst h4 h5
   refine PC.fn hH cd344 fun w0 M Q hM hE hQ hR=>?_;dsimp only[cd344,qm,ql,qf,qi,qb,qc,qp,qv,qN,qT,qF,qt]at hQ ⊢
   (repeat' first|refine zaa [0,1,2,3,4,6,7,8,9,14,20] fun K hK=>?_|(refine hK.go ?_;clear hK K)|with_reducible exact wT|refine wA ?_|(refine wB (fun h=>?_) (fun h=>?_)<;>first|exact wN h|subst (h:(_:Bool)=_)|skip)|(refine wQ ?_;clear hQ hR hE hM)|refine wC c1 ?_|refine wC c2 ?_|refine wC c3 ?_|fail)
   all_goals first|rfl|(exfalso;contradiction)|(exfalso;omega)|(simp;done)|trace_state
 ·simp only[if_neg hst]
  rw[show decide (zac p s=0)=false from decide_eq_false hst]
  generalize zac p s=e at *
  refine PC.fn hH cd344 fun w0 M Q hM hE hQ hR=>?_;dsimp only[cd344,qm,ql,qf,qi,qb,qc,qp,qv,qN,qT,qF,qt]at hQ ⊢
  (repeat' first|refine zaa [0,1,2,3,4,6,7,8,9,14,20] fun K hK=>?_|(refine hK.go ?_;clear hK K)|with_reducible exact wT|refine wA ?_|(refine wB (fun h=>?_) (fun h=>?_)<;>first|exact wN h|subst (h:(_:Bool)=_)|skip)|(refine wQ ?_;clear hQ hR hE hM)|refine wC c1 ?_|fail)
  all_goals first|rfl|(exfalso;contradiction)|trace_state
theorem zkK (hH:HasAll P inv) (p:Pln) (hp:Sm p) (s:State) (hs:SmS s) (n:Int):PC P inv 345 [.agg p.c,.agg s.c,.n n] (·=.tup [.b (decide (sgC p s n=0)&&goB p s n),.n (sgC p s n)]):=by
 have c1:=zdY hH p hp s hs
 have hsl:=hp.sgn
 unfold sgC
 by_cases hst:zac p s=0
 ·rw[hst]at c1
  simp only[if_pos hst]
  have c2:=zgr hH p hp s hs hst n
  have e1:decide (0≤goX p (zaS p s) n)=goB p s n:=by rw[Bool.eq_iff_iff,decide_eq_true_eq];exact zmK p s n
  generalize goX p (zaS p s) n=g at *
  generalize goB p s n=b at *
  clear hst
  refine PC.fn hH cd345 fun w0 M Q hM hE hQ hR=>?_;dsimp only[cd345,qm,ql,qf,qi,qb,qc,qp,qv,qN,qT,qF,qt]at hQ ⊢
  (repeat' first|refine zaa [0,1,2,3,4,6,7,8,9,14,20,30] fun K hK=>?_|(refine hK.go ?_;clear hK K)|with_reducible exact wT|refine wA ?_|(refine wB (fun h=>?_) (fun h=>?_)<;>first|exact wN h|subst (h:(_:Bool)=_)|skip)|(refine wQ ?_;clear hQ hR hE hM)|refine wC c1 ?_|fail)
  all_goals first|(exfalso;contradiction)|skip
  refine zai (ι:=Nat) [2,3,4,6,7,9] (fun z=>[(9,.n z)]) (fun _=>[]) (fun z=>z) (p.signals.length) (fun z=>(((p.signals.drop z).any fun x=>decide (x.id=n))=ziS p n)) (0) ?_;rintro k ⟨hk,hg⟩;(try dsimp only at hk hg ⊢);rcases Nat.lt_or_ge k p.signals.length with hlt|hge
  ·rw[zad hlt,List.any_cons]at hg
   by_cases h1:(nth p.signals k).id=n
   ·have h2:decide ((nth p.signals k).id=n)=true:=decide_eq_true h1
    rw[h2,Bool.true_or]at hg
    (have hX:=@h2;(repeat' first|refine zaa [0,1,2,3,4,6,7,8,9,14,20,30] fun K hK=>?_|(refine hK.go ?_;clear hK K)|with_reducible exact wT|refine wA ?_|(refine wB (fun h=>?_) (fun h=>?_)<;>first|exact wN h|subst (h:(_:Bool)=_)|skip)|(refine wQ ?_;clear hQ hR hE hM)|refine wC c2 ?_|fail);all_goals clear hX)
    all_goals first|(exfalso;contradiction)|(rw[←e1,←hg];simp;done)|trace_state
   ·have h2:decide ((nth p.signals k).id=n)=false:=decide_eq_false h1
    rw[h2,Bool.false_or]at hg
    (have hX:=@h2;(repeat' first|refine zaa [0,1,2,3,4,6,7,8,9,14,20,30] fun K hK=>?_|(refine hK.go ?_;clear hK K)|with_reducible exact wT|refine wA ?_|(refine wB (fun h=>?_) (fun h=>?_)<;>first|exact wN h|subst (h:(_:Bool)=_)|skip)|(refine wQ ?_;clear hQ hR hE hM)|fail);all_goals clear hX)
    all_goals first|(exfalso;contradiction)|exact ⟨k+1,by omega,⟨by omega,hg⟩,by omega⟩|trace_state
  ·rw[List.drop_eq_nil_of_le hge,List.any_nil]at hg
   (repeat' first|refine zaa [0,1,2,3,4,6,7,8,9,14,20,30] fun K hK=>?_|(refine hK.go ?_;clear hK K)|with_reducible exact wT|refine wA ?_|(refine wB (fun h=>?_) (fun h=>?_)<;>first|exact wN h|subst (h:(_:Bool)=_)|skip)|(refine wQ ?_;clear hQ hR hE hM)|fail)
   all_goals first|(rw[←hg];rfl)|(exfalso;contradiction)|trace_state
 ·simp only[if_neg hst]
  rw[show decide (zac p s=0)=false from decide_eq_false hst]
  generalize zac p s=e at *
  refine PC.fn hH cd345 fun w0 M Q hM hE hQ hR=>?_;dsimp only[cd345,qm,ql,qf,qi,qb,qc,qp,qv,qN,qT,qF,qt]at hQ ⊢
  (repeat' first|refine zaa [0,1,2,3,4,6,7,8,9,14,20,30] fun K hK=>?_|(refine hK.go ?_;clear hK K)|with_reducible exact wT|refine wA ?_|(refine wB (fun h=>?_) (fun h=>?_)<;>first|exact wN h|subst (h:(_:Bool)=_)|skip)|(refine wQ ?_;clear hQ hR hE hM)|refine wC c1 ?_|fail)
  all_goals first|rfl|(exfalso;contradiction)|trace_state
end Go.Lev
namespace Go.Lev
open Go.Eng
set_option maxRecDepth 10000
set_option maxHeartbeats 4000000
variable {P:Program} {inv:Nat→Option Nat} {w0:World} {M:Nat→Prop}
theorem proveTells_pc (hH:HasAll P inv) (hI:HasIds P inv) (p:Pln) (hp:Pln.ok p) (s:State) (n:Int):PC P inv 336 [.agg p.c,.agg s.c,.n n] (·=.b true):=by
 have c1:=zbO hH p
 have c2:=zcX hH s
 cases g1:zeo p with
 |true =>
  rw[g1]at c1
  refine PC.fn hH cd336 fun w0 M Q hM hE hQ hR=>?_;dsimp only[cd336,qm,ql,qf,qi,qb,qc,qp,qv,qN,qT,qF,qt]at hQ ⊢
  (repeat' first|refine zaa [0,1,2,3,4,6,7,8,9,10,11,12,13,14,15,21] fun K hK=>?_|(refine hK.go ?_;clear hK K)|with_reducible exact wT|refine wA ?_|(refine wB (fun h=>?_) (fun h=>?_)<;>first|exact wN h|subst (h:(_:Bool)=_)|skip)|(refine wQ ?_;clear hQ hR hE hM)|refine wC c1 ?_|fail)
 |false =>
  rw[g1]at c1
  cases g2:zfU s with
  |true =>
   rw[g2]at c2
   refine PC.fn hH cd336 fun w0 M Q hM hE hQ hR=>?_;dsimp only[cd336,qm,ql,qf,qi,qb,qc,qp,qv,qN,qT,qF,qt]at hQ ⊢
   (repeat' first|refine zaa [0,1,2,3,4,6,7,8,9,10,11,12,13,14,15,21] fun K hK=>?_|(refine hK.go ?_;clear hK K)|with_reducible exact wT|refine wA ?_|(refine wB (fun h=>?_) (fun h=>?_)<;>first|exact wN h|subst (h:(_:Bool)=_)|skip)|(refine wQ ?_;clear hQ hR hE hM)|refine wC c1 ?_|refine wC c2 ?_|fail)
  |false =>
   rw[g2]at c2
   have sp:=zmc hp g1
   have ss:=zhp g2
   have c3:=zpH hH s ss
   have c4:=zbr hH hI p sp s ss n
   have c5:=zmn hH p sp s ss n
   have c6:=zcy hH hI p sp s ss n
   have c7:=zkK hH p sp s ss n
   have c8:=zpJ hH ss (rfl:s=s)
   unfold stV stR at c3
   generalize (decide (prC p s n=0)&&prR p s n)=b1 at *
   generalize prC p s n=e1 at *
   generalize (decide (sgC p s n=0)&&goB p s n)=b2 at *
   generalize sgC p s n=e2 at *
   have hl1:=ss.1
   have hl2:=ss.2.1
   have hl3:=ss.2.2
   refine PC.fn hH cd336 fun w0 M Q hM hE hQ hR=>?_;dsimp only[cd336,qm,ql,qf,qi,qb,qc,qp,qv,qN,qT,qF,qt]at hQ ⊢
   (repeat' first|refine zaa [0,1,2,3,4,6,7,8,9,10,11,12,13,14,15,21] fun K hK=>?_|(refine hK.go ?_;clear hK K)|with_reducible exact wT|refine wA ?_|(refine wB (fun h=>?_) (fun h=>?_)<;>first|exact wN h|subst (h:(_:Bool)=_)|skip)|(refine wQ ?_;clear hQ hR hE hM)|refine wC c1 ?_|refine wC c2 ?_|refine wO c3 ?_|refine wS c4 ?_|refine wP c4 ?_|refine wC c5 ?_|refine wS c6 ?_|refine wP c6 ?_|refine wC c7 ?_|refine wS c8 ?_|fail)
   all_goals first|rfl|(exfalso;contradiction)|(simp;done)|trace_state
end Go.Lev
namespace Go.Lev
open Go.Eng
set_option maxRecDepth 10000
set_option maxHeartbeats 4000000
variable {P:Program} {inv:Nat→Option Nat} {w0:World} {M:Nat→Prop}
theorem zrp (hH:HasAll P inv) (p:Pln) (hp:Sm p) (s:State) (hs:SmS s) (hst:zac p s=0) (n:Int):PC P inv 356 [.agg p.c,.agg s.c,.n n] (·=.i .u8 (ziD p (zaS p s) n)):=by
 have c1:=zgr hH p hp s hs hst n
 have hrl:=hp.rte
 unfold ziD
 rcases goX_sp p (zaS p s) n with e|⟨i,hi,e,_,_⟩
 ·rw[e]at c1 ⊢
  rw[if_pos (by decide)]
  clear hst
  refine PC.fn hH cd356 fun w0 M Q hM hE hQ hR=>?_;dsimp only[cd356,qm,ql,qf,qi,qb,qc,qp,qv,qN,qT,qF,qt]at hQ ⊢
  (repeat' first|refine zaa [0,1,2,3,4,6,7,13,30,32] fun K hK=>?_|(refine hK.go ?_;clear hK K)|with_reducible exact wT|refine wA ?_|(refine wB (fun h=>?_) (fun h=>?_)<;>first|exact wN h|subst (h:(_:Bool)=_)|skip)|(refine wQ ?_;clear hQ hR hE hM)|refine wC c1 ?_|fail)
  all_goals first|rfl|(exfalso;contradiction)|trace_state
 ·rw[e]at c1 ⊢
  rw[if_neg (by omega),Int.toNat_natCast]
  have c2:=zgr hH p hp s hs hst (nth p.routes i).exit
  generalize goX p (zaS p s) (nth p.routes i).exit=g at *
  have hi0:¬(i:Int)<0:=by omega
  clear hst e
  by_cases hc:(nth p.routes i).exit≠0∧0≤g
  ·rw[if_pos hc]
   obtain ⟨h1,h2⟩:=hc
   refine PC.fn hH cd356 fun w0 M Q hM hE hQ hR=>?_;dsimp only[cd356,qm,ql,qf,qi,qb,qc,qp,qv,qN,qT,qF,qt]at hQ ⊢
   (have hX:=@Int.toNat_natCast;(repeat' first|refine zaa [0,1,2,3,4,6,7,13,30,32] fun K hK=>?_|(refine hK.go ?_;clear hK K)|with_reducible exact wT|refine wA ?_|(refine wB (fun h=>?_) (fun h=>?_)<;>first|exact wN h|subst (h:(_:Bool)=_)|skip)|(refine wQ ?_;clear hQ hR hE hM)|refine wC c1 ?_|refine wC c2 ?_|fail);all_goals clear hX)
   all_goals first|rfl|(exfalso;contradiction)|(exfalso;omega)|trace_state
  ·rw[if_neg hc]
   refine PC.fn hH cd356 fun w0 M Q hM hE hQ hR=>?_;dsimp only[cd356,qm,ql,qf,qi,qb,qc,qp,qv,qN,qT,qF,qt]at hQ ⊢
   (have hX:=@Int.toNat_natCast;(repeat' first|refine zaa [0,1,2,3,4,6,7,13,30,32] fun K hK=>?_|(refine hK.go ?_;clear hK K)|with_reducible exact wT|refine wA ?_|(refine wB (fun h=>?_) (fun h=>?_)<;>first|exact wN h|subst (h:(_:Bool)=_)|skip)|(refine wQ ?_;clear hQ hR hE hM)|refine wC c1 ?_|refine wC c2 ?_|fail);all_goals clear hX)
   all_goals first|rfl|(exfalso;contradiction)|(exfalso;omega)|(exact absurd ⟨by assumption,by omega⟩ hc)|trace_state
theorem zrw (hH:HasAll P inv) (p:Pln) (hp:Sm p) (s:State) (hs:SmS s) (hst:zac p s=0):PC P inv 354 [.agg p.c,.agg s.c] (·=.sl 2 ((shwL p s).map Shw.c)):=by
 have c1:=fun n=>zrp hH p hp s hs hst n
 unfold shwL
 have hsl:=hp.sgn
 generalize ziD p (zaS p s)=q at *
 clear hst
 refine PC.fn hH cd354 fun w0 M Q hM hE hQ hR=>?_;dsimp only[cd354,qm,ql,qf,qi,qb,qc,qp,qv,qN,qT,qF,qt]at hQ ⊢
 (repeat' first|refine zaa [0,1,2,3,4,5,6,11,32] fun K hK=>?_|(refine hK.go ?_;clear hK K)|with_reducible exact wT|refine wA ?_|(refine wB (fun h=>?_) (fun h=>?_)<;>first|exact wN h|subst (h:(_:Bool)=_)|skip)|(refine wQ ?_;clear hQ hR hE hM)|fail)
 refine AWp.empty 5 4 2 rfl (Nat.zero_le _) (by (refine no_implicit_lambda% (st ?_);try with_reducible exact wT)) (by (refine no_implicit_lambda% (st ?_);try with_reducible exact wT)) ?_
 (refine no_implicit_lambda% (st ?_);try with_reducible exact wT)
 refine zai (ι:=Nat×(List Shw)) [2,3,4,5,6] (fun z=>[(5,.sm 4 (z.2.length*2) 0 z.2.length 2),(6,.n z.1)]) (fun z=>[(4,.cells (z.2.map Shw.c).flatten (decide (0<z.2.length)))]) (fun z=>z.1) (p.signals.length) (fun z=>(z.2.length=z.1)∧(z.2++(p.signals.drop z.1).map (fun x=>(⟨x.id,q x.id⟩:Shw))=p.signals.map (fun x=>(⟨x.id,q x.id⟩:Shw)))) (0,([]:List Shw)) ?_;rintro ⟨k,xs⟩ ⟨hk,hl,hg⟩;(try dsimp only at hk hl hg ⊢);rcases Nat.lt_or_ge k p.signals.length with hlt|hge
 ·rw[zad hlt,List.map_cons]at hg
  have c2:=c1 (nth p.signals k).id
  (repeat' first|refine zaa [0,1,2,3,4,5,6,11,32] fun K hK=>?_|(refine hK.go ?_;clear hK K)|with_reducible exact wT|refine wA ?_|(refine wB (fun h=>?_) (fun h=>?_)<;>first|exact wN h|subst (h:(_:Bool)=_)|skip)|(refine wQ ?_;clear hQ hR hE hM)|refine wC c2 ?_|fail)
  refine ⟨(k+1,xs++[⟨(nth p.signals k).id,q (nth p.signals k).id⟩]),by dsimp only;omega,⟨by dsimp only;omega,by dsimp only;simp[hl],by dsimp only;rw[←hg];simp⟩,⟨by dsimp only;simp,by dsimp only;omega⟩,by dsimp only;simp[Shw.c]⟩
 ·rw[List.drop_eq_nil_of_le hge,List.map_nil,List.append_nil]at hg
  (repeat' first|refine zaa [0,1,2,3,4,5,6,11,32] fun K hK=>?_|(refine hK.go ?_;clear hK K)|with_reducible exact wT|refine wA ?_|(refine wB (fun h=>?_) (fun h=>?_)<;>first|exact wN h|subst (h:(_:Bool)=_)|skip)|(refine wQ ?_;clear hQ hR hE hM)|fail)
  rw[hg]
theorem zlL (hH:HasAll P inv) (s:State) (hs:SmS s):PC P inv 355 [.agg s.c] (·=.sl 2 ((zlN s).map Flk.c)):=by
 unfold zlN
 have hl2:=hs.2.1
 refine PC.fn hH cd355 fun w0 M Q hM hE hQ hR=>?_;dsimp only[cd355,qm,ql,qf,qi,qb,qc,qp,qv,qN,qT,qF,qt]at hQ ⊢
 (repeat' first|refine zaa [0,1,2,3,4,9,18,34] fun K hK=>?_|(refine hK.go ?_;clear hK K)|with_reducible exact wT|refine wA ?_|(refine wB (fun h=>?_) (fun h=>?_)<;>first|exact wN h|subst (h:(_:Bool)=_)|skip)|(refine wQ ?_;clear hQ hR hE hM)|fail)
 refine AWp.empty 3 2 2 rfl (Nat.zero_le _) (by (refine no_implicit_lambda% (st ?_);try with_reducible exact wT)) (by (refine no_implicit_lambda% (st ?_);try with_reducible exact wT)) ?_
 (refine no_implicit_lambda% (st ?_);try with_reducible exact wT)
 refine zai (ι:=Nat×(List Flk)) [1,2,3,4] (fun z=>[(3,.sm 2 (z.2.length*2) 0 z.2.length 2),(4,.n z.1)]) (fun z=>[(2,.cells (z.2.map Flk.c).flatten (decide (0<z.2.length)))]) (fun z=>z.1) (s.switches.length) (fun z=>(z.2.length≤z.1)∧(z.2++((s.switches.drop z.1).filter fun x=>!decide (x.call=0)).map (fun x=>(⟨x.id,x.call⟩:Flk))=(s.switches.filter fun x=>!decide (x.call=0)).map (fun x=>(⟨x.id,x.call⟩:Flk)))) (0,([]:List Flk)) ?_;rintro ⟨k,xs⟩ ⟨hk,hl,hg⟩;(try dsimp only at hk hl hg ⊢);rcases Nat.lt_or_ge k s.switches.length with hlt|hge
 ·rw[zad hlt]at hg
  by_cases h1:(nth s.switches k).call=0
  ·rw[List.filter_cons_of_neg (by simp[h1])]at hg
   have h2:decide ((nth s.switches k).call=0)=true:=decide_eq_true h1
   (have hX:=@h2;(repeat' first|refine zaa [0,1,2,3,4,9,18,34] fun K hK=>?_|(refine hK.go ?_;clear hK K)|with_reducible exact wT|refine wA ?_|(refine wB (fun h=>?_) (fun h=>?_)<;>first|exact wN h|subst (h:(_:Bool)=_)|skip)|(refine wQ ?_;clear hQ hR hE hM)|fail);all_goals clear hX)
   all_goals first|(exfalso;contradiction)|(refine ⟨(k+1,xs),by dsimp only;omega,⟨by dsimp only;omega,by dsimp only;omega,hg⟩,⟨by dsimp only,by dsimp only;omega⟩,by dsimp only⟩)
  ·rw[List.filter_cons_of_pos (by simp[h1]),List.map_cons]at hg
   have h2:decide ((nth s.switches k).call=0)=false:=decide_eq_false h1
   (have hX:=@h2;(repeat' first|refine zaa [0,1,2,3,4,9,18,34] fun K hK=>?_|(refine hK.go ?_;clear hK K)|with_reducible exact wT|refine wA ?_|(refine wB (fun h=>?_) (fun h=>?_)<;>first|exact wN h|subst (h:(_:Bool)=_)|skip)|(refine wQ ?_;clear hQ hR hE hM)|fail);all_goals clear hX)
   all_goals first|(exfalso;contradiction)|(refine ⟨(k+1,xs++[⟨(nth s.switches k).id,(nth s.switches k).call⟩]),by dsimp only;omega,⟨by dsimp only;omega,by dsimp only;simp;omega,by dsimp only;rw[←hg];simp⟩,⟨by dsimp only;simp,by dsimp only;omega⟩,by dsimp only;simp[Flk.c]⟩)
 ·rw[List.drop_eq_nil_of_le hge,List.filter_nil,List.map_nil,List.append_nil]at hg
  (repeat' first|refine zaa [0,1,2,3,4,9,18,34] fun K hK=>?_|(refine hK.go ?_;clear hK K)|with_reducible exact wT|refine wA ?_|(refine wB (fun h=>?_) (fun h=>?_)<;>first|exact wN h|subst (h:(_:Bool)=_)|skip)|(refine wQ ?_;clear hQ hR hE hM)|fail)
  rw[hg]
theorem zmf (hH:HasAll P inv) (p:Pln) (hp:Sm p) (s:State) (hs:SmS s):PC P inv 346 [.agg p.c,.agg s.c] (·=.tup [.sl 2 ((zdj p s).map Shw.c),.n (zac p s)]):=by
 have c0:=zdY hH p hp s hs
 unfold zdj
 by_cases hst:zac p s=0
 ·have c1:=zrw hH p hp s hs hst
  rw[hst]at c0 ⊢
  rw[if_pos rfl]
  generalize shwL p s=L at *
  clear hst
  refine PC.fn hH cd346 fun w0 M Q hM hE hQ hR=>?_;dsimp only[cd346,qm,ql,qf,qi,qb,qc,qp,qv,qN,qT,qF,qt]at hQ ⊢
  (repeat' first|refine zaa [0,1,2,3,4,5,6,11] fun K hK=>?_|(refine hK.go ?_;clear hK K)|with_reducible exact wT|refine wA ?_|(refine wB (fun h=>?_) (fun h=>?_)<;>first|exact wN h|subst (h:(_:Bool)=_)|skip)|(refine wQ ?_;clear hQ hR hE hM)|refine wC c0 ?_|refine wC c1 ?_|fail)
  all_goals first|rfl|(exfalso;contradiction)|trace_state
 ·rw[if_neg hst]
  generalize zac p s=e at *
  refine PC.fn hH cd346 fun w0 M Q hM hE hQ hR=>?_;dsimp only[cd346,qm,ql,qf,qi,qb,qc,qp,qv,qN,qT,qF,qt]at hQ ⊢
  (repeat' first|refine zaa [0,1,2,3,4,5,6,11] fun K hK=>?_|(refine hK.go ?_;clear hK K)|with_reducible exact wT|refine wA ?_|(refine wB (fun h=>?_) (fun h=>?_)<;>first|exact wN h|subst (h:(_:Bool)=_)|skip)|(refine wQ ?_;clear hQ hR hE hM)|refine wC c0 ?_|fail)
  all_goals first|rfl|(exfalso;contradiction)|trace_state
theorem zmR (hH:HasAll P inv) (p:Pln) (hp:Sm p) (s:State) (hs:SmS s):PC P inv 347 [.agg p.c,.agg s.c] (·=.tup [.sl 2 ((zd0 p s).map Flk.c),.n (zac p s)]):=by
 have c0:=zdY hH p hp s hs
 unfold zd0
 have c1:=zlL hH s hs
 generalize zlN s=L at *
 by_cases hst:zac p s=0
 ·rw[hst]at c0 ⊢
  rw[if_pos rfl]
  clear hst
  refine PC.fn hH cd347 fun w0 M Q hM hE hQ hR=>?_;dsimp only[cd347,qm,ql,qf,qi,qb,qc,qp,qv,qN,qT,qF,qt]at hQ ⊢
  (repeat' first|refine zaa [0,1,2,3,4,5,6,11] fun K hK=>?_|(refine hK.go ?_;clear hK K)|with_reducible exact wT|refine wA ?_|(refine wB (fun h=>?_) (fun h=>?_)<;>first|exact wN h|subst (h:(_:Bool)=_)|skip)|(refine wQ ?_;clear hQ hR hE hM)|refine wC c0 ?_|refine wC c1 ?_|fail)
  all_goals first|rfl|(exfalso;contradiction)|trace_state
 ·rw[if_neg hst]
  generalize zac p s=e at *
  refine PC.fn hH cd347 fun w0 M Q hM hE hQ hR=>?_;dsimp only[cd347,qm,ql,qf,qi,qb,qc,qp,qv,qN,qT,qF,qt]at hQ ⊢
  (repeat' first|refine zaa [0,1,2,3,4,5,6,11] fun K hK=>?_|(refine hK.go ?_;clear hK K)|with_reducible exact wT|refine wA ?_|(refine wB (fun h=>?_) (fun h=>?_)<;>first|exact wN h|subst (h:(_:Bool)=_)|skip)|(refine wQ ?_;clear hQ hR hE hM)|refine wC c0 ?_|fail)
  all_goals first|rfl|(exfalso;contradiction)|trace_state
theorem zoh (hH:HasAll P inv) (L:List Shw) (hl:L.length≤1000000000):PC P inv 348 [.sl 2 (L.map Shw.c),.sl 2 (L.map Shw.c)] (·=.b true):=by
 refine PC.fn hH cd348 fun w0 M Q hM hE hQ hR=>?_;dsimp only[cd348,qm,ql,qf,qi,qb,qc,qp,qv,qN,qT,qF,qt]at hQ ⊢
 (repeat' first|refine zaa [0,1,4,5,10,14,25] fun K hK=>?_|(refine hK.go ?_;clear hK K)|with_reducible exact wT|refine wA ?_|(refine wB (fun h=>?_) (fun h=>?_)<;>first|exact wN h|subst (h:(_:Bool)=_)|skip)|(refine wQ ?_;clear hQ hR hE hM)|fail)
 all_goals first|(exfalso;contradiction)|skip
 refine zai (ι:=Nat) [0,1,4,5] (fun z=>[(5,.n z)]) (fun _=>[]) (fun z=>z) (L.length) (fun _=>True) (0) ?_;rintro k ⟨hk,-⟩;(try dsimp only at hk ⊢);rcases Nat.lt_or_ge k L.length with hlt|hge
 ·(repeat' first|refine zaa [0,1,4,5,10,14,25] fun K hK=>?_|(refine hK.go ?_;clear hK K)|with_reducible exact wT|refine wA ?_|(refine wB (fun h=>?_) (fun h=>?_)<;>first|exact wN h|subst (h:(_:Bool)=_)|skip)|(refine wQ ?_;clear hQ hR hE hM)|fail)
  all_goals first|(exfalso;contradiction)|exact ⟨k+1,by omega,by omega,by omega⟩|trace_state
 ·(repeat' first|refine zaa [0,1,4,5,10,14,25] fun K hK=>?_|(refine hK.go ?_;clear hK K)|with_reducible exact wT|refine wA ?_|(refine wB (fun h=>?_) (fun h=>?_)<;>first|exact wN h|subst (h:(_:Bool)=_)|skip)|(refine wQ ?_;clear hQ hR hE hM)|fail)
  all_goals first|rfl|(exfalso;contradiction)|trace_state
theorem zml (hH:HasAll P inv) (L:List Flk) (hl:L.length≤1000000000):PC P inv 349 [.sl 2 (L.map Flk.c),.sl 2 (L.map Flk.c)] (·=.b true):=by
 refine PC.fn hH cd349 fun w0 M Q hM hE hQ hR=>?_;dsimp only[cd349,qm,ql,qf,qi,qb,qc,qp,qv,qN,qT,qF,qt]at hQ ⊢
 (repeat' first|refine zaa [0,1,4,5,10,14,25] fun K hK=>?_|(refine hK.go ?_;clear hK K)|with_reducible exact wT|refine wA ?_|(refine wB (fun h=>?_) (fun h=>?_)<;>first|exact wN h|subst (h:(_:Bool)=_)|skip)|(refine wQ ?_;clear hQ hR hE hM)|fail)
 all_goals first|(exfalso;contradiction)|skip
 refine zai (ι:=Nat) [0,1,4,5] (fun z=>[(5,.n z)]) (fun _=>[]) (fun z=>z) (L.length) (fun _=>True) (0) ?_;rintro k ⟨hk,-⟩;(try dsimp only at hk ⊢);rcases Nat.lt_or_ge k L.length with hlt|hge
 ·(repeat' first|refine zaa [0,1,4,5,10,14,25] fun K hK=>?_|(refine hK.go ?_;clear hK K)|with_reducible exact wT|refine wA ?_|(refine wB (fun h=>?_) (fun h=>?_)<;>first|exact wN h|subst (h:(_:Bool)=_)|skip)|(refine wQ ?_;clear hQ hR hE hM)|fail)
  all_goals first|(exfalso;contradiction)|exact ⟨k+1,by omega,by omega,by omega⟩|trace_state
 ·(repeat' first|refine zaa [0,1,4,5,10,14,25] fun K hK=>?_|(refine hK.go ?_;clear hK K)|with_reducible exact wT|refine wA ?_|(refine wB (fun h=>?_) (fun h=>?_)<;>first|exact wN h|subst (h:(_:Bool)=_)|skip)|(refine wQ ?_;clear hQ hR hE hM)|fail)
  all_goals first|rfl|(exfalso;contradiction)|trace_state
theorem aspectShows_pc (hH:HasAll P inv) (hI:HasIds P inv) (p:Pln) (hp:Pln.ok p) (s:State):PC P inv 337 [.agg p.c,.agg s.c] (·=.b true):=by
 have c1:=zbO hH p
 have c2:=zcX hH s
 cases g1:zeo p with
 |true =>
  rw[g1]at c1
  refine PC.fn hH cd337 fun w0 M Q hM hE hQ hR=>?_;dsimp only[cd337,qm,ql,qf,qi,qb,qc,qp,qv,qN,qT,qF,qt]at hQ ⊢
  (repeat' first|refine zaa [0,1,2,3,4,5,6,7,8,9,10,11,12,13,19] fun K hK=>?_|(refine hK.go ?_;clear hK K)|with_reducible exact wT|refine wA ?_|(refine wB (fun h=>?_) (fun h=>?_)<;>first|exact wN h|subst (h:(_:Bool)=_)|skip)|(refine wQ ?_;clear hQ hR hE hM)|refine wC c1 ?_|fail)
 |false =>
  rw[g1]at c1
  cases g2:zfU s with
  |true =>
   rw[g2]at c2
   refine PC.fn hH cd337 fun w0 M Q hM hE hQ hR=>?_;dsimp only[cd337,qm,ql,qf,qi,qb,qc,qp,qv,qN,qT,qF,qt]at hQ ⊢
   (repeat' first|refine zaa [0,1,2,3,4,5,6,7,8,9,10,11,12,13,19] fun K hK=>?_|(refine hK.go ?_;clear hK K)|with_reducible exact wT|refine wA ?_|(refine wB (fun h=>?_) (fun h=>?_)<;>first|exact wN h|subst (h:(_:Bool)=_)|skip)|(refine wQ ?_;clear hQ hR hE hM)|refine wC c1 ?_|refine wC c2 ?_|fail)
  |false =>
   rw[g2]at c2
   have sp:=zmc hp g1
   have ss:=zhp g2
   have c3:=zpI hH s (by have:=ss.1;omega) (by have:=ss.2.1;omega) (by have:=ss.2.2;omega)
   have c4:=zdK hH hI p sp s ss
   have c5:=zmf hH p sp s ss
   have c6:=zkx hH hI p sp s ss
   have c7:=zmR hH p sp s ss
   have c8:=zpJ hH ss (rfl:s=s)
   have hsl:=sp.sgn
   have hl1:=ss.1
   have hl2:=ss.2.1
   have hl3:=ss.2.2
   have c9:=zoh hH (zdj p s) (by unfold zdj shwL;split<;>simp<;>omega)
   have c10:=zml hH (zd0 p s) (by
    unfold zd0 zlN
    split
    ·rw[List.length_map]
     have:=List.length_filter_le (fun x:Switch=>!decide (x.call=0)) s.switches
     omega
    ·simp)
   generalize zdj p s=L1 at *
   generalize zd0 p s=L2 at *
   generalize zac p s=e at *
   refine PC.fn hH cd337 fun w0 M Q hM hE hQ hR=>?_;dsimp only[cd337,qm,ql,qf,qi,qb,qc,qp,qv,qN,qT,qF,qt]at hQ ⊢
   (repeat' first|refine zaa [0,1,2,3,4,5,6,7,8,9,10,11,12,13,19] fun K hK=>?_|(refine hK.go ?_;clear hK K)|with_reducible exact wT|refine wA ?_|(refine wB (fun h=>?_) (fun h=>?_)<;>first|exact wN h|subst (h:(_:Bool)=_)|skip)|(refine wQ ?_;clear hQ hR hE hM)|refine wC c1 ?_|refine wC c2 ?_|refine wC c3 ?_|refine wC c4 ?_|refine wC c5 ?_|refine wC c6 ?_|refine wC c7 ?_|refine wC c8 ?_|refine wC c9 ?_|refine wC c10 ?_|fail)
   all_goals first|rfl|(exfalso;contradiction)|trace_state
end Go.Lev
