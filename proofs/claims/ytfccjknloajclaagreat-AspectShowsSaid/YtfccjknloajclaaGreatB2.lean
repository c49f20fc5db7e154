/-
  A part of the engine that walks the functions' codes, and of the functions' contracts. Conditions: those that each theorem names.
-/
import Derived.Test.YtfccjknloajclaaGreatB1
import Derived.IntWalk
set_option linter.unusedSimpArgs false
set_option linter.unusedVariables false
set_option linter.unusedSectionVars false
namespace Go.Lev
open Go.Eng
set_option maxRecDepth 10000
set_option maxHeartbeats 4000000
variable {P:Program} {inv:Nat→Option Nat} {w0:World} {M:Nat→Prop}
theorem zpM (hH:HasAll P inv) (p:Pln) (hp:Sm p) (h:zbU p.sections=true) (hg:SgsP p) (r:Rte) (hr:r.path.length≤9223372036854775807∧r.over.length≤9223372036854775807∧r.flanks.length≤9223372036854775807):PC P inv 307 [.agg p.c,.agg r.c] (·=.b (zcj p r (ends p.sections))):=by
 have hl1:=hp.sec
 have hl2:=hp.sgn
 have hl3:=hp.pts
 have c1:=zfx hH p.signals (by omega) r.entry
 have c2:=zfx hH p.signals (by omega) r.exit
 have cA:=fun n=>zlS hH p.sections n (by omega)
 have cK:=fun n=>zp3 hH p.points (by omega) n
 obtain ⟨X,hF⟩:∃ X,rrF p r (zaW (fun x=>decide (Sgn.id x=r.entry)) 0 p.signals) (zaW (fun x=>decide (Sgn.id x=r.exit)) 0 p.signals) (r.path++r.over)=X:=⟨_,rfl⟩
 rw[←rrF_eq h hg r,hF]
 have hb:zaW (fun x=>decide (Sgn.id x=r.entry)) 0 p.signals=-1∨(0≤zaW (fun x=>decide (Sgn.id x=r.entry)) 0 p.signals∧zaW (fun x=>decide (Sgn.id x=r.entry)) 0 p.signals<p.signals.length):=by
  rcases zaP Sgn.id r.entry p.signals with ⟨e,_⟩|⟨k,hk,e,_⟩
  ·exact .inl e
  ·exact .inr ⟨by omega,by omega⟩
 generalize zaW (fun x=>decide (Sgn.id x=r.entry)) 0 p.signals=k0 at *
 generalize zaW (fun x=>decide (Sgn.id x=r.exit)) 0 p.signals=kx at *
 clear h hg
 by_cases hT2:rrT2 r=true
 ·unfold rrF at hF
  rw[hT2,cond_true]at hF
  have hXX:X=false:=by rw[←hF];cases rrT1 p r k0 kx<;>rfl
  subst hXX
  clear hF
  unfold rrT2 at hT2
  simp only[Bool.or_eq_true,decide_eq_true_eq]at hT2
  refine PC.fn hH cd307 fun w0 M Q hM hE hQ hR=>?_;dsimp only[cd307,qm,ql,qf,qi,qb,qc,qp,qv,qN,qT,qF,qt]at hQ ⊢
  (repeat' first|refine zaa [0,1,2,3,4,5,6,7,8,9,10,48,80,86,95,109,112,123,128,140,167] fun K hK=>?_|(refine hK.go ?_;clear hK K)|with_reducible exact wT|refine wA ?_|(refine wB (fun h=>?_) (fun h=>?_)<;>first|exact wN h|subst (h:(_:Bool)=_)|skip)|(refine wQ ?_;clear hQ hR hE hM)|refine wC c1 ?_|refine wC c2 ?_|fail)
  all_goals first|rfl|(exfalso;contradiction)|(exfalso;omega)|trace_state
 have hT2':=hT2
 unfold rrT2 at hT2'
 simp only[Bool.or_eq_true,decide_eq_true_eq,not_or]at hT2'
 have c3:=zjO hH r (by omega) (by omega)
 have hall:(r.path++r.over).length≤2000:=by rw[List.length_append];omega
 generalize r.path++r.over=all at *
 clear hT2 hT2'
 unfold rrF rrT1 rrT2 rrS rrK at hF
 refine PC.fn hH cd307 fun w0 M Q hM hE hQ hR=>?_;dsimp only[cd307,qm,ql,qf,qi,qb,qc,qp,qv,qN,qT,qF,qt]at hQ ⊢
 skip
 (repeat' first|refine zaa [0,1,2,3,4,5,6,7,8,9,10,48,80,86,95,109,112,123,128,140,167] fun K hK=>?_|(refine hK.go ?_;clear hK K)|with_reducible exact wT|refine wA ?_|(refine wE (fun h0 h=>?_) (fun h0 h=>?_)<;>first|exact wN h|((try replace hF:=wX hF);clear h0;first|exact hF.elim|((try subst (h:(_:Bool)=_));try replace hF:=wX hF)))|(refine wQ ?_;clear hQ hR hE hM)|refine wC c1 ?_|refine wC c2 ?_|refine wC c3 ?_|fail)
 all_goals first|exact hF|(exfalso;contradiction)|skip
 all_goals
  refine zaJ hF fun Bd Ed hBd hEd hF=>?_;refine zai (ι:=Nat) [2,3,4,5,6,7] (fun z=>[(7,.n z)]) (fun _=>[]) (fun z=>z) (all.length) (fun z=>(zaB Bd Ed (all.length-z) z ()=X)) (0) ?_;rintro i ⟨hk,hF⟩;(try dsimp only at hk hF ⊢);rcases Nat.lt_or_ge i all.length with hlt|hge
  ·rw[zar hBd hlt]at hF;(try dsimp only at hF)
   have c4:=cA (nth all i)
   generalize zdE (nth all i) 0 p.sections=a at *
   (repeat' first|refine zaa [0,1,2,3,4,5,6,7,8,9,10,48,80,86,95,109,112,123,128,140,167] fun K hK=>?_|(refine hK.go ?_;clear hK K)|with_reducible exact wT|refine wA ?_|(refine wE (fun h0 h=>?_) (fun h0 h=>?_)<;>first|exact wN h|((try replace hF:=wX hF);clear h0;first|exact hF.elim|((try subst (h:(_:Bool)=_));try replace hF:=wX hF)))|(refine wQ ?_;clear hQ hR hE hM)|refine wC c4 ?_|fail)
   all_goals first|exact hF|(exfalso;contradiction)|skip
   refine zaJ hF fun Bd Ed hBd hEd hF=>?_;refine zai (ι:=Nat) [2,3,4,5,6,7,8] (fun z=>[(8,.n z)]) (fun _=>[]) (fun z=>z) (i) (fun z=>(zaB Bd Ed (i-z) z ()=X)) (0) ?_;rintro m ⟨hk,hF⟩;(try dsimp only at hk hF ⊢);rcases Nat.lt_or_ge m i with hlt|hge
   ·rw[zar hBd hlt]at hF;(try dsimp only at hF)
    (repeat' first|refine zaa [0,1,2,3,4,5,6,7,8,9,10,48,80,86,95,109,112,123,128,140,167] fun K hK=>?_|(refine hK.go ?_;clear hK K)|with_reducible exact wT|refine wA ?_|(refine wE (fun h0 h=>?_) (fun h0 h=>?_)<;>first|exact wN h|((try replace hF:=wX hF);clear h0;first|exact hF.elim|((try subst (h:(_:Bool)=_));try replace hF:=wX hF)))|(refine wQ ?_;clear hQ hR hE hM)|fail)
    all_goals first|exact hF|(exfalso;contradiction)|exact nX (m+1)
   ·rw[zaI hge,hEd]at hF;(try dsimp only at hF)
    (repeat' first|refine zaa [0,1,2,3,4,5,6,7,8,9,10,48,80,86,95,109,112,123,128,140,167] fun K hK=>?_|(refine hK.go ?_;clear hK K)|with_reducible exact wT|refine wA ?_|(refine wE (fun h0 h=>?_) (fun h0 h=>?_)<;>first|exact wN h|((try replace hF:=wX hF);clear h0;first|exact hF.elim|((try subst (h:(_:Bool)=_));try replace hF:=wX hF)))|(refine wQ ?_;clear hQ hR hE hM)|fail)
    all_goals exact nX (i+1)
  ·rw[zaI hge,hEd]at hF;(try dsimp only at hF)
   (repeat' first|refine zaa [0,1,2,3,4,5,6,7,8,9,10,48,80,86,95,109,112,123,128,140,167] fun K hK=>?_|(refine hK.go ?_;clear hK K)|with_reducible exact wT|refine wA ?_|(refine wE (fun h0 h=>?_) (fun h0 h=>?_)<;>first|exact wN h|((try replace hF:=wX hF);clear h0;first|exact hF.elim|((try subst (h:(_:Bool)=_));try replace hF:=wX hF)))|(refine wQ ?_;clear hQ hR hE hM)|fail)
   refine zaJ hF fun Bd Ed hBd hEd hF=>?_;refine zai (ι:=Nat) [2,3,4,9] (fun z=>[(9,.n z)]) (fun _=>[]) (fun z=>z) (r.flanks.length) (fun z=>(zaB Bd Ed (r.flanks.length-z) z ()=X)) (0) ?_;rintro i ⟨hk,hF⟩;(try dsimp only at hk hF ⊢);rcases Nat.lt_or_ge i r.flanks.length with hlt|hge
   ·rw[zar hBd hlt]at hF;(try dsimp only at hF)
    have c5:=cK (nth r.flanks i).pnt
    generalize zaW (fun x=>decide (Pnt.id x=(nth r.flanks i).pnt)) 0 p.points=a at *
    have hi1:((i:Int)-1).toNat=i-1:=by omega
    (have hX:=@hi1;(repeat' first|refine zaa [0,1,2,3,4,5,6,7,8,9,10,48,80,86,95,109,112,123,128,140,167] fun K hK=>?_|(refine hK.go ?_;clear hK K)|with_reducible exact wT|refine wA ?_|(refine wE (fun h0 h=>?_) (fun h0 h=>?_)<;>first|exact wN h|((try replace hF:=wX hF);clear h0;first|exact hF.elim|((try subst (h:(_:Bool)=_));try replace hF:=wX hF)))|(refine wQ ?_;clear hQ hR hE hM)|refine wC c5 ?_|fail);all_goals clear hX)
    all_goals first|exact hF|(exfalso;contradiction)|exact nX (i+1)
   ·rw[zaI hge,hEd]at hF;(try dsimp only at hF)
    (repeat' first|refine zaa [0,1,2,3,4,5,6,7,8,9,10,48,80,86,95,109,112,123,128,140,167] fun K hK=>?_|(refine hK.go ?_;clear hK K)|with_reducible exact wT|refine wA ?_|(refine wE (fun h0 h=>?_) (fun h0 h=>?_)<;>first|exact wN h|((try replace hF:=wX hF);clear h0;first|exact hF.elim|((try subst (h:(_:Bool)=_));try replace hF:=wX hF)))|(refine wQ ?_;clear hQ hR hE hM)|fail)
    all_goals first|exact hF|exact congrArg AV.b hF|(rw[←hF];done)|trace_state
end Go.Lev
namespace Go.Lev
open Go.Eng
set_option maxRecDepth 10000
set_option maxHeartbeats 4000000
variable {P:Program} {inv:Nat→Option Nat} {w0:World} {M:Nat→Prop}
theorem rmay_pc2 (hH:HasAll P inv) (l:List Section) (hl:l.length≤1000000000) (he:∀ s∈l,s.ends.length≤9223372036854775807):PC P inv 48 [.sl 3 (l.map Section.c)] (·=.b (zbU l)):=by
 refine PC.fn hH cd48 fun w0 M Q hM hE hQ hR=>?_;dsimp only[cd48,qm,ql,qf,qi,qb,qc,qp,qv,qN,qT,qF,qt]at hQ ⊢
 (repeat' first|refine zaa [0,2,3,4,5,6,7,10,14,33,36,61,65,75,85] fun K hK=>?_|(refine hK.go ?_;clear hK K)|with_reducible exact wT|refine wA ?_|(refine wB (fun h=>?_) (fun h=>?_)<;>first|exact wN h|subst (h:(_:Bool)=_)|skip)|(refine wQ ?_;clear hQ hR hE hM)|fail)
 ·simp[zbU,h]
 refine zbW (fun k=>[(0,.sl 3 (l.map Section.c)),(3,.n k)]) (fun k=>[]) (l.length) (fun k=>zgY (l.take k) (l.drop k)=zgY [] l) ?_;rintro k ⟨hk,hg⟩;rcases Nat.lt_or_ge k l.length with hlt|hge
 ·rw[zad hlt]at hg
  rw[zgY,zjH hlt]at hg
  have hs:=he _ (zab hlt)
  (repeat' first|refine zaa [0,2,3,4,5,6,7,10,14,33,36,61,65,75,85] fun K hK=>?_|(refine hK.go ?_;clear hK K)|with_reducible exact wT|refine wA ?_|(refine wB (fun h=>?_) (fun h=>?_)<;>first|exact wN h|subst (h:(_:Bool)=_)|skip)|(refine wQ ?_;clear hQ hR hE hM)|(refine zas hM (zoj hH _) ?_;try (refine no_implicit_lambda% (st ?_);try with_reducible exact wT))|fail)
  iterate 3 (grind[zbU,rOk])
  have h1:¬(nth l k).id<1:=by assumption
  have h2:¬99<(nth l k).id:=by assumption
  have h3:zbt (nth l k)=true:=by assumption
  refine zcH (fun j:Nat=>[(0,.sl 3 (l.map Section.c)),(3,.n k),(4,.ptr 0 3 0),(5,.n j)]) (fun _=>[(0,.cells (nth l k).c true)]) (fun j=>j≤k∧((l.take k).drop j).all (fun x=>!zjb (nth l k) x)=(l.take k).all fun x=>!zjb (nth l k) x) (fun j=>k-j) 0 ⟨Nat.zero_le _,rfl⟩ (by (try dsimp only);(refine no_implicit_lambda% (st ?_);try with_reducible exact wT)<;>omega) (by (try dsimp only);(refine no_implicit_lambda% (st ?_);try with_reducible exact wT)<;>omega) ?_
  rintro j ⟨hj,hi⟩
  have hkl:(l.take k).length=k:=by simp;omega
  rcases Nat.lt_or_ge j k with hjk|hjk
  ·rw[zad (by omega),List.all_cons,zjG hjk]at hi
   have hs:=he _ (zab (Nat.lt_trans hjk hlt))
   (repeat' first|refine zaa [0,2,3,4,5,6,7,10,14,33,36,61,65,75,85] fun K hK=>?_|(refine hK.go ?_;clear hK K)|with_reducible exact wT|refine wA ?_|(refine wB (fun h=>?_) (fun h=>?_)<;>first|exact wN h|subst (h:(_:Bool)=_)|skip)|(refine wQ ?_;clear hQ hR hE hM)|fail)
   all_goals (first|(refine ⟨j+1,by omega,⟨by omega,by grind[zbU,rOk,zjb]⟩,(by (try dsimp only);(first|omega|(simp;done)|(simp;omega)))⟩)|(grind[zbU,rOk,zjb]))
  ·rw[List.drop_eq_nil_of_le (by omega),List.all_nil]at hi
   (repeat' first|refine zaa [0,2,3,4,5,6,7,10,14,33,36,61,65,75,85] fun K hK=>?_|(refine hK.go ?_;clear hK K)|with_reducible exact wT|refine wA ?_|(refine wB (fun h=>?_) (fun h=>?_)<;>first|exact wN h|subst (h:(_:Bool)=_)|skip)|(refine wQ ?_;clear hQ hR hE hM)|fail)
   all_goals (first|(refine ⟨k+1,by omega,⟨by omega,by grind[zbU,rOk]⟩,(by (try dsimp only);(first|omega|(simp;done)|(simp;omega)))⟩)|(grind[zbU,rOk]))
 ·rw[List.drop_eq_nil_of_le hge,zgY]at hg
  (repeat' first|refine zaa [0,2,3,4,5,6,7,10,14,33,36,61,65,75,85] fun K hK=>?_|(refine hK.go ?_;clear hK K)|with_reducible exact wT|refine wA ?_|(refine wB (fun h=>?_) (fun h=>?_)<;>first|exact wN h|subst (h:(_:Bool)=_)|skip)|(refine wQ ?_;clear hQ hR hE hM)|fail)
  refine zbW (fun k=>[(0,.sl 3 (l.map Section.c)),(6,.n k)]) (fun k=>[]) (l.length) (fun k=>(l.drop k).all (fun s=>zbQ (zcq l s) 0 s.ends.length)=zoq l) ?_;rintro k ⟨hk,hg⟩;rcases Nat.lt_or_ge k l.length with hlt|hge
  ·rw[zad hlt]at hg
   rw[List.all_cons]at hg
   have hs:=he _ (zab hlt)
   (repeat' first|refine zaa [0,2,3,4,5,6,7,10,14,33,36,61,65,75,85] fun K hK=>?_|(refine hK.go ?_;clear hK K)|with_reducible exact wT|refine wA ?_|(refine wB (fun h=>?_) (fun h=>?_)<;>first|exact wN h|subst (h:(_:Bool)=_)|skip)|(refine wQ ?_;clear hQ hR hE hM)|fail)
   refine zcH (fun j:Nat=>[(0,.sl 3 (l.map Section.c)),(6,.n k),(7,.n j)]) (fun _=>[]) (fun j=>j≤(nth l k).ends.length∧zbQ (zcq l (nth l k)) j ((nth l k).ends.length-j)=zbQ (zcq l (nth l k)) 0 (nth l k).ends.length) (fun j=>(nth l k).ends.length-j) 0 ⟨Nat.zero_le _,rfl⟩ (by (try dsimp only);(refine no_implicit_lambda% (st ?_);try with_reducible exact wT)<;>omega) (by (try dsimp only);(refine no_implicit_lambda% (st ?_);try with_reducible exact wT)<;>omega) ?_
   rintro j ⟨hj,hi⟩
   rcases Nat.lt_or_ge j (nth l k).ends.length with hjk|hjk
   ·rw[zgW hjk]at hi
    (repeat' first|refine zaa [0,2,3,4,5,6,7,10,14,33,36,61,65,75,85] fun K hK=>?_|(refine hK.go ?_;clear hK K)|with_reducible exact wT|refine wA ?_|(refine wB (fun h=>?_) (fun h=>?_)<;>first|exact wN h|subst (h:(_:Bool)=_)|skip)|(refine wQ ?_;clear hQ hR hE hM)|refine wC (zol hH l (nth l k) j hjk hl) ?_|fail)
    all_goals (first|(refine ⟨j+1,by omega,⟨by omega,by grind[zbU]⟩,(by (try dsimp only);(first|omega|(simp;done)|(simp;omega)))⟩)|(grind[zbU]))
   ·rw[ziK hjk]at hi
    (repeat' first|refine zaa [0,2,3,4,5,6,7,10,14,33,36,61,65,75,85] fun K hK=>?_|(refine hK.go ?_;clear hK K)|with_reducible exact wT|refine wA ?_|(refine wB (fun h=>?_) (fun h=>?_)<;>first|exact wN h|subst (h:(_:Bool)=_)|skip)|(refine wQ ?_;clear hQ hR hE hM)|fail)
    all_goals (first|(refine ⟨k+1,by omega,⟨by omega,by grind[zbU]⟩,(by (try dsimp only);(first|omega|(simp;done)|(simp;omega)))⟩)|(grind[zbU]))
  ·rw[List.drop_eq_nil_of_le hge,List.all_nil]at hg
   (repeat' first|refine zaa [0,2,3,4,5,6,7,10,14,33,36,61,65,75,85] fun K hK=>?_|(refine hK.go ?_;clear hK K)|with_reducible exact wT|refine wA ?_|(refine wB (fun h=>?_) (fun h=>?_)<;>first|exact wN h|subst (h:(_:Bool)=_)|skip)|(refine wQ ?_;clear hQ hR hE hM)|fail)
   all_goals (first|rfl|(grind[zbU])|(simp[zbU, *];done)|(simp_all [zbU];done)|(simp_all [zbU]<;>first|omega|((repeat' split)<;>first|rfl|(exfalso;omega))))
theorem may_ref (hH:HasAll P inv) (p:Pln) (hp:Sm p):PC P inv 300 [.agg p.c] (·=.b (zbB p)):=by
 have hl1:=hp.sec
 have hl2:=hp.rte
 have c1:=rmay_pc2 hH p.sections (by omega) hp.ends
 obtain ⟨X,hF⟩:∃ X,rmF p (zbU p.sections) (points p) (signals p (ends p.sections)) (fun r=>zcj p r (ends p.sections))=X:=⟨_,rfl⟩
 rw[←rmF_eq p,hF]
 by_cases hm:zbU p.sections=true
 ·have c2:=zot hH p hp hm
  have c3:=zmd hH p hp hm
  rw[hm]at c1 hF
  by_cases hs:signals p (ends p.sections)=true
  ·have c4:∀ i,i<p.routes.length→PC P inv 307 [.agg p.c,.agg (nth p.routes i).c] (·=.b (zcj p (nth p.routes i) (ends p.sections))):=fun i hi=>zpM hH p hp hm ((zhq hm).1 hs) (nth p.routes i) (hp.rtes _ (zab hi))
   rw[hs]at c3 hF
   generalize points p=pts at *
   clear hm hs
   unfold rmF rmT rmR at hF
   generalize hrt:(fun r=>zcj p r (ends p.sections))=rt at hF
   replace c4:∀ i,i<p.routes.length→PC P inv 307 [.agg p.c,.agg (nth p.routes i).c] (·=.b (rt (nth p.routes i))):=by subst hrt;exact c4
   clear hrt
   refine PC.fn hH cd300 fun w0 M Q hM hE hQ hR=>?_;dsimp only[cd300,qm,ql,qf,qi,qb,qc,qp,qv,qN,qT,qF,qt]at hQ ⊢
   skip
   (repeat' first|refine zaa [0,1,2,3,4,30,44,49,84,86] fun K hK=>?_|(refine hK.go ?_;clear hK K)|with_reducible exact wT|refine wA ?_|(refine wE (fun h0 h=>?_) (fun h0 h=>?_)<;>first|exact wN h|((try replace hF:=wX hF);clear h0;first|exact hF.elim|((try subst (h:(_:Bool)=_));try replace hF:=wX hF)))|(refine wQ ?_;clear hQ hR hE hM)|refine wC c1 ?_|refine wC c2 ?_|refine wC c3 ?_|fail)
   all_goals first|exact hF|(exfalso;contradiction)|skip
   refine zaJ hF fun Bd Ed hBd hEd hF=>?_;refine zai (ι:=Nat) [1,2,3] (fun z=>[(3,.n z)]) (fun _=>[]) (fun z=>z) (p.routes.length) (fun z=>(zaB Bd Ed (p.routes.length-z) z ()=X)) (0) ?_;rintro i ⟨hk,hF⟩;(try dsimp only at hk hF ⊢);rcases Nat.lt_or_ge i p.routes.length with hlt|hge
   ·rw[zar hBd hlt]at hF;(try dsimp only at hF)
    have c5:=c4 i (by assumption)
    have hi1:((i:Int)-1).toNat=i-1:=by omega
    generalize rt (nth p.routes i)=b at *
    (have hX:=@hi1;(repeat' first|refine zaa [0,1,2,3,4,30,44,49,84,86] fun K hK=>?_|(refine hK.go ?_;clear hK K)|with_reducible exact wT|refine wA ?_|(refine wE (fun h0 h=>?_) (fun h0 h=>?_)<;>first|exact wN h|((try replace hF:=wX hF);clear h0;first|exact hF.elim|((try subst (h:(_:Bool)=_));try replace hF:=wX hF)))|(refine wQ ?_;clear hQ hR hE hM)|refine wC c5 ?_|fail);all_goals clear hX)
    all_goals first|exact hF|(exfalso;contradiction)|exact nX (i+1)
   ·rw[zaI hge,hEd]at hF;(try dsimp only at hF)
    (repeat' first|refine zaa [0,1,2,3,4,30,44,49,84,86] fun K hK=>?_|(refine hK.go ?_;clear hK K)|with_reducible exact wT|refine wA ?_|(refine wE (fun h0 h=>?_) (fun h0 h=>?_)<;>first|exact wN h|((try replace hF:=wX hF);clear h0;first|exact hF.elim|((try subst (h:(_:Bool)=_));try replace hF:=wX hF)))|(refine wQ ?_;clear hQ hR hE hM)|fail)
    all_goals first|exact hF|exact congrArg AV.b hF|(rw[←hF];done)|trace_state
  ·have hs:signals p (ends p.sections)=false:=by simpa using hs
   rw[hs]at c3 hF
   generalize points p=pts at *
   unfold rmF rmT at hF
   refine PC.fn hH cd300 fun w0 M Q hM hE hQ hR=>?_;dsimp only[cd300,qm,ql,qf,qi,qb,qc,qp,qv,qN,qT,qF,qt]at hQ ⊢
   skip
   (repeat' first|refine zaa [0,1,2,3,4,30,44,49,84,86] fun K hK=>?_|(refine hK.go ?_;clear hK K)|with_reducible exact wT|refine wA ?_|(refine wE (fun h0 h=>?_) (fun h0 h=>?_)<;>first|exact wN h|((try replace hF:=wX hF);clear h0;first|exact hF.elim|((try subst (h:(_:Bool)=_));try replace hF:=wX hF)))|(refine wQ ?_;clear hQ hR hE hM)|refine wC c1 ?_|refine wC c2 ?_|refine wC c3 ?_|fail)
   all_goals first|exact hF|(exfalso;contradiction)|(rw[←hF];simp;done)|trace_state
 ·have hm:zbU p.sections=false:=by simpa using hm
  rw[hm]at c1 hF
  unfold rmF rmT at hF
  refine PC.fn hH cd300 fun w0 M Q hM hE hQ hR=>?_;dsimp only[cd300,qm,ql,qf,qi,qb,qc,qp,qv,qN,qT,qF,qt]at hQ ⊢
  skip
  (repeat' first|refine zaa [0,1,2,3,4,30,44,49,84,86] fun K hK=>?_|(refine hK.go ?_;clear hK K)|with_reducible exact wT|refine wA ?_|(refine wE (fun h0 h=>?_) (fun h0 h=>?_)<;>first|exact wN h|((try replace hF:=wX hF);clear h0;first|exact hF.elim|((try subst (h:(_:Bool)=_));try replace hF:=wX hF)))|(refine wQ ?_;clear hQ hR hE hM)|refine wC c1 ?_|fail)
  all_goals first|exact hF|(exfalso;contradiction)|(rw[←hF];simp;done)|trace_state
end Go.Lev
namespace Go.Lev
open Go.Eng
set_option maxRecDepth 10000
set_option maxHeartbeats 4000000
variable {P:Program} {inv:Nat→Option Nat} {w0:World} {M:Nat→Prop}
theorem zpl (hH:HasAll P inv) (r:Rte) (h:r.path.length≤1000000∧r.over.length≤1000000∧r.flanks.length≤1000000):PC P inv 318 [.agg r.c] (·=.agg r.c):=by
 refine PC.fn hH cd318 fun w0 M Q hM hE hQ hR=>?_;dsimp only[cd318,qm,ql,qf,qi,qb,qc,qp,qv,qN,qT,qF,qt]at hQ ⊢
 (repeat' first|refine zaa [0,1,2,3] fun K hK=>?_|(refine hK.go ?_;clear hK K)|with_reducible exact wT|refine wA ?_|(refine wB (fun h=>?_) (fun h=>?_)<;>first|exact wN h|subst (h:(_:Bool)=_)|skip)|(refine wQ ?_;clear hQ hR hE hM)|fail)
 all_goals first|rfl|trace_state
theorem outF_eq {p:Pln} {r:Rte} {all:List Int} {i:Nat} {s:Section} {f:Int} (hs:zbt s=true):outF p r all i s f=outI (outW p r all i s f):=by
 unfold outF outW
 refine zaU (·=outI (zaO s f (zl1 p r all i s) 0 s.ends)) (fun k _=>zaO s f (zl1 p r all i s) k (s.ends.drop k)=zaO s f (zl1 p r all i s) 0 s.ends) rfl ?_ ?_
 ·intro k _ za0 hk hK hn
  rw[zad hk,zaO]at hK
  have hth:(za9 s f (k:Int)).2=0↔¬zhS s f (k:Int)<0:=by
   unfold za9
   rw[if_pos hs]
   split
   ·rename_i h1
    exact ⟨fun h=>(by cases h),fun h=>absurd h1 h⟩
   ·rename_i h1
    exact ⟨fun _=>h1,fun _=>rfl⟩
  by_cases h1:zhS s f (k:Int)<0
  ·rw[decide_eq_true h1,cond_true]
   rw[if_neg (fun h=>(hth.1 h.1) h1)]at hK
   exact hn () hK
  ·rw[decide_eq_false h1,cond_false]
   have hR:zl1 p r all i s (k:Int) (nth s.ends k)=cond (decide ((i:Int)=(r.path.length:Int)-1)) (decide (r.exit=0)&&decide ((nth s.ends k).to=0)||!decide (r.exit=0)&&decide (zob p s.id (k:Int)=r.exit)) (decide ((nth s.ends k).to=nth all (i+1))):=by
    unfold zl1
    by_cases h2:(i:Int)=(r.path.length:Int)-1
    ·rw[if_pos h2,decide_eq_true h2,cond_true]
    ·rw[if_neg h2,decide_eq_false h2,cond_false]
   have fin:∀ b:Bool,zl1 p r all i s (k:Int) (nth s.ends k)=b→cond b (k:Int) (za0 ())=outI (zaO s f (zl1 p r all i s) 0 s.ends):=fun b hb=>by
    cases b with
    |true =>
     rw[if_pos ⟨hth.2 h1,hb⟩]at hK
     rw[←hK];rfl
    |false =>
     rw[if_neg (fun h=>by rw[hb]at h;cases h.2)]at hK
     exact hn () hK
   by_cases h2:(i:Int)=(r.path.length:Int)-1
   ·rw[decide_eq_true h2,cond_true]at hR ⊢
    exact fin _ hR
   ·rw[decide_eq_false h2,cond_false]at hR ⊢
    exact fin _ hR
 ·intro _ hK
  rw[List.drop_eq_nil_of_le (Nat.le_refl _),zaO]at hK
  rw[←hK]
  rfl
theorem zjP {p:Pln} (hs:zbU p.sections=true) {n:Int} (h:∃ s∈p.sections,s.id=n):∃ q:Nat,q<p.sections.length∧zdE n 0 p.sections=(q:Int)∧zde p n=nth p.sections q:=by
 rcases zcF n p.sections 0 with ⟨_,h4⟩|⟨q,hq,e,_⟩
 ·obtain ⟨s,hs1,e⟩:=h
  obtain ⟨k,hk,rfl⟩:=zbb hs1
  exact absurd e (h4 k hk)
 ·have e2:zdE n 0 p.sections=(q:Int):=by omega
  exact ⟨q,hq,e2,by unfold zde;rw[e2,Int.toNat_natCast]⟩
theorem out_ref (hH:HasAll P inv) (p:Pln) (hp:Sm p) (hs:zbU p.sections=true) (r:Rte) (hr:r.path.length≤1000) (all:List Int) (ha:all.length≤10000) (i:Nat) (hi:i<all.length) (hn:¬(i:Int)=(r.path.length:Int)-1→i+1<all.length) (h:∃ s∈p.sections,s.id=nth all i) (f:Int) :
  PC P inv 317 [.agg p.c,.agg r.c,.sl 1 (all.map zck),.n i,.n f] (·=.n (outI (outW p r all i (zde p (nth all i)) f))):=by
 obtain ⟨q,hq,hat,hA⟩:=zjP hs h
 obtain ⟨hm,hid,_⟩:=zfd hs h
 have hsh:=zkM hs hm
 have he3:=(zbd hs _ hm).2.2.2.2
 have hl1:=hp.sec
 have hl2:=hp.sgn
 obtain ⟨X,hF⟩:∃ X,outF p r all i (zde p (nth all i)) f=X:=⟨_,rfl⟩
 rw[←outF_eq hsh,hF]
 have c1:=zlS hH p.sections (nth all i) (by omega)
 rw[hat]at c1
 rw[hA]at hF he3
 have cL:=fun k:Nat=>zpO hH (nth p.sections q) f (k:Int)
 have cA:=fun k:Nat=>at_ref hH p (by omega) (nth p.sections q).id (k:Int)
 have hi1:((i:Int)+1).toNat=i+1:=by omega
 clear hsh hA hm hid hs
 unfold outF at hF
 refine PC.fn hH cd317 fun w0 M Q hM hE hQ hR=>?_;dsimp only[cd317,qm,ql,qf,qi,qb,qc,qp,qv,qN,qT,qF,qt]at hQ ⊢
 skip
 (have hX:=@Int.toNat_natCast;(repeat' first|refine zaa [0,1,2,3,4,5,6,10,11,12,28,35,41,68,81] fun K hK=>?_|(refine hK.go ?_;clear hK K)|with_reducible exact wT|refine wA ?_|(refine wE (fun h0 h=>?_) (fun h0 h=>?_)<;>first|exact wN h|((try replace hF:=wX hF);clear h0;first|exact hF.elim|((try subst (h:(_:Bool)=_));try replace hF:=wX hF)))|(refine wQ ?_;clear hQ hR hE hM)|refine wU c1 ?_|fail);all_goals clear hX)
 refine zaJ hF fun Bd Ed hBd hEd hF=>?_;refine zai (ι:=Nat) [2,3,4,5,6,10,11,12] (fun z=>[(12,.n z)]) (fun _=>[]) (fun z=>z) ((nth p.sections q).ends.length) (fun z=>(zaB Bd Ed ((nth p.sections q).ends.length-z) z ()=X)) (0) ?_;rintro k ⟨hk,hF⟩;(try dsimp only at hk hF ⊢);rcases Nat.lt_or_ge k (nth p.sections q).ends.length with hlt|hge
 ·rw[zar hBd hlt]at hF;(try dsimp only at hF)
  have c2:=cL k
  have c3:=cA k
  generalize zhS (nth p.sections q) f (k:Int)=lie at *
  by_cases hk1:(i:Int)=(r.path.length:Int)-1
  ·(repeat' first|refine zaa [0,1,2,3,4,5,6,10,11,12,28,35,41,68,81] fun K hK=>?_|(refine hK.go ?_;clear hK K)|with_reducible exact wT|refine wA ?_|(refine wE (fun h0 h=>?_) (fun h0 h=>?_)<;>first|exact wN h|((try replace hF:=wX hF);clear h0;first|exact hF.elim|((try subst (h:(_:Bool)=_));try replace hF:=wX hF)))|(refine wQ ?_;clear hQ hR hE hM)|refine wC c2 ?_|refine wC c3 ?_|refine wU c3 ?_|fail)
   all_goals first|exact hF|(exfalso;contradiction)|(exfalso;omega)|exact congrArg AV.n hF|exact nX (k+1)
  ·have hn:=hn hk1
   (have hX:=@hi1;(repeat' first|refine zaa [0,1,2,3,4,5,6,10,11,12,28,35,41,68,81] fun K hK=>?_|(refine hK.go ?_;clear hK K)|with_reducible exact wT|refine wA ?_|(refine wE (fun h0 h=>?_) (fun h0 h=>?_)<;>first|exact wN h|((try replace hF:=wX hF);clear h0;first|exact hF.elim|((try subst (h:(_:Bool)=_));try replace hF:=wX hF)))|(refine wQ ?_;clear hQ hR hE hM)|refine wC c2 ?_|fail);all_goals clear hX)
   all_goals first|exact hF|(exfalso;contradiction)|(exfalso;omega)|exact congrArg AV.n hF|exact nX (k+1)
 ·rw[zaI hge,hEd]at hF;(try dsimp only at hF)
  (repeat' first|refine zaa [0,1,2,3,4,5,6,10,11,12,28,35,41,68,81] fun K hK=>?_|(refine hK.go ?_;clear hK K)|with_reducible exact wT|refine wA ?_|(refine wE (fun h0 h=>?_) (fun h0 h=>?_)<;>first|exact wN h|((try replace hF:=wX hF);clear h0;first|exact hF.elim|((try subst (h:(_:Bool)=_));try replace hF:=wX hF)))|(refine wQ ?_;clear hQ hR hE hM)|fail)
  all_goals first|exact hF|(exact congrArg AV.n hF)|(rw[←hF];done)|trace_state
end Go.Lev
namespace Go.Lev
open Go.Eng
set_option maxRecDepth 10000
set_option maxHeartbeats 4000000
variable {P:Program} {inv:Nat→Option Nat} {w0:World} {M:Nat→Prop}
theorem znU (hH:HasAll P inv) (p:Pln) (hp:Sm p) (hs:zbU p.sections=true) (hg:SgsP p) (r:Rte) (hr:RteP p r):PC P inv 308 [.agg p.c,.agg r.c] (·=zq5 (ziX p r)):=by
 obtain ⟨k,hk,h1,h2,h3⟩:=zis hs hg hr
 obtain ⟨sE,hsE1,hsE2,hsE3,hsE4⟩:=hg.sec _ (zab hk)
 obtain ⟨qE,hqE,hatE,hAE⟩:=zjP hs ⟨sE,hsE1,hsE2⟩
 have hsE5:=zfd hs ⟨sE,hsE1,hsE2⟩
 have hsE6:zde p (nth p.signals k).sec=sE:=by
  have:=zil Section.id (zeJ (zkT hs)) hsE1
  rw[hsE2,hsE5.2.2]at this
  exact Option.some.inj this
 have hlen:=hr.lens
 have c0:=zfx hH p.signals (by have:=hp.sgn;omega) r.entry
 rw[h1]at c0
 have c1:=zlS hH p.sections (nth p.signals k).sec (by have:=hp.sec;omega)
 rw[hatE]at c1
 have c2:=zjO hH r (by omega) (by omega)
 have hEJ:zjs p r=nth (nth p.sections qE).ends (nth p.signals k).ed.toNat:=by
  unfold zjs
  rw[h1,Int.toNat_natCast,hAE]
 rw[←hsE6,hAE]at hsE4
 have hsec:∀ i,i<(r.path++r.over).length→∃ s∈p.sections,s.id=nth (r.path++r.over) i:=fun i hi=>(hr.secs _ (zab hi)).1
 have hal:(r.path++r.over).length=r.path.length+r.over.length:=List.length_append
 have hend3:∀ n,(∃ s∈p.sections,s.id=n)→(zde p n).ends.length≤3:=fun n hn=>(zbd hs _ (zfd hs hn).1).2.2.2.2
 have cO:=fun (i:Nat) (hi:i<(r.path++r.over).length) (hn:¬(i:Int)=(r.path.length:Int)-1→i+1<(r.path++r.over).length) (f:Int)=>out_ref hH p hp hs r (by omega) (r.path++r.over) (by omega) i hi hn (hsec i hi) f
 have cT:=fun n=>zlS hH p.sections n (by have:=hp.sec;omega)
 have hl1:=hp.sec
 have hl2:=hp.sgn
 have hix:=fun n hn=>zjP (p:=p) (n:=n) hs hn
 obtain ⟨V,hV⟩:∃ V,ziX p r=V:=⟨_,rfl⟩
 rw[hV]
 unfold ziX at hV
 rw[hEJ]at hV
 clear h1 h2 h3 hEJ hsE6 hsE5 hAE hatE hs hg hr
 generalize r.path++r.over=all at *
 refine PC.fn hH cd308 fun w0 M Q hM hE hQ hR=>?_;dsimp only[cd308,qm,ql,qf,qi,qb,qc,qp,qv,qN,qT,qF,qt]at hQ ⊢
 (have hX:=@Int.toNat_natCast;(repeat' first|refine zaa [0,1,2,3,4,5,6,7,8,9,10,11,12,13,42,51,67,80] fun K hK=>?_|(refine hK.go ?_;clear hK K)|with_reducible exact wT|refine wA ?_|(refine wB (fun h=>?_) (fun h=>?_)<;>first|exact wN h|subst (h:(_:Bool)=_)|skip)|(refine wQ ?_;clear hQ hR hE hM)|refine wU c0 ?_|refine wU c1 ?_|refine wC c2 ?_|fail);all_goals clear hX)
 refine AWp.empty 10 4 1 rfl (Nat.zero_le _) (by (refine no_implicit_lambda% (st ?_);try with_reducible exact wT)) (by (refine no_implicit_lambda% (st ?_);try with_reducible exact wT)) ?_
 refine AWp.empty 11 5 1 rfl (Nat.zero_le _) (by (refine no_implicit_lambda% (st ?_);try with_reducible exact wT)) (by (refine no_implicit_lambda% (st ?_);try with_reducible exact wT)) ?_
 (refine no_implicit_lambda% (st ?_);try with_reducible exact wT)
 refine zai (ι:=Nat×Join×(List Int)×(List Int)) [2,3,4,5,6,8,9,10,11,12] (fun z=>[(10,.sm 4 z.2.2.1.length 0 z.2.2.1.length 1),(11,.sm 5 z.2.2.2.length 0 z.2.2.2.length 1),(12,.n z.1)]) (fun z=>[(3,.cells z.2.1.c true),(4,.cells (z.2.2.1.map zck).flatten (decide (0<z.2.2.1.length))),(5,.cells (z.2.2.2.map zck).flatten (decide (0<z.2.2.2.length)))]) (fun z=>z.1) (all.length) (fun z=>(z.2.2.1.length=z.1)∧(z.2.2.2.length=z.1)∧(zg3 p r all z.1 z.2.1 z.2.2.1 z.2.2.2 (all.drop z.1)=V)) (0,(nth (nth p.sections qE).ends (nth p.signals k).ed.toNat),([]:List Int),([]:List Int)) ?_;rintro ⟨i,j,I,O⟩ ⟨hk,hI,hO,hgo⟩;(try dsimp only at hk hI hO hgo ⊢);rcases Nat.lt_or_ge i all.length with hlt|hge
 ·rw[zad hlt,zg3]at hgo
  have hs1:=hsec i hlt
  obtain ⟨q,hq,hat,hA⟩:=hix _ hs1
  have he3:=hend3 _ hs1
  have c4:=cT (nth all i)
  rw[hat]at c4
  by_cases hj:j.to=nth all i
  ·rw[if_pos hj]at hgo
   by_cases hst:i+1=all.length∧0<r.over.length
   ·rw[if_pos hst]at hgo
    obtain ⟨I2,hI2⟩:∃ I2,I++[j.ed]=I2:=⟨_,rfl⟩
    obtain ⟨O2,hO2⟩:∃ O2,O++[-1]=O2:=⟨_,rfl⟩
    have gI:(I.map zck).flatten++[AV.n j.ed]=(I2.map zck).flatten:=by rw[←hI2];simp[zck]
    have gO:(O.map zck).flatten++[AV.i .i64 (-1)]=(O2.map zck).flatten:=by rw[←hO2];simp[zck]
    have lI:I.length+1=I2.length:=by rw[←hI2];simp
    have lO:O.length+1=O2.length:=by rw[←hO2];simp
    rw[hI2,hO2]at hgo
    clear hI2 hO2
    (have hX:=zA @gI (zA @gO (zA @lI @lO));(repeat' first|refine zaa [0,1,2,3,4,5,6,7,8,9,10,11,12,13,42,51,67,80] fun K hK=>?_|(refine hK.go ?_;clear hK K)|with_reducible exact wT|refine wA ?_|(refine wB (fun h=>?_) (fun h=>?_)<;>first|exact wN h|subst (h:(_:Bool)=_)|skip)|(refine wQ ?_;clear hQ hR hE hM)|fail);all_goals clear hX)
    all_goals first|(exfalso;omega)|(rw[←hgo];rfl)|trace_state
   ·rw[if_neg hst]at hgo
    have c3:=cO i hlt (fun hn=>by omega) j.ed
    cases ho:outW p r all i (zde p (nth all i)) j.ed with
    |none =>
     rw[ho]at hgo c3
     dsimp only[outI]at hgo c3
     (repeat' first|refine zaa [0,1,2,3,4,5,6,7,8,9,10,11,12,13,42,51,67,80] fun K hK=>?_|(refine hK.go ?_;clear hK K)|with_reducible exact wT|refine wA ?_|(refine wB (fun h=>?_) (fun h=>?_)<;>first|exact wN h|subst (h:(_:Bool)=_)|skip)|(refine wQ ?_;clear hQ hR hE hM)|refine wC c3 ?_|fail)
     all_goals first|(exfalso;omega)|(rw[←hgo];rfl)|trace_state
    |some v =>
     rw[ho]at hgo c3
     dsimp only[outI]at hgo c3
     have hpe:=zeG _ 0 ho
     rw[Nat.sub_zero]at hpe
     have hv1:=hpe.2.1
     have hv2:=hpe.2.2.1
     rw[hA]at hv1 hv2 he3
     rw[hv2]at hgo
     clear hpe ho hv2
     obtain ⟨v1,v2,v3⟩:=v
     dsimp only at hgo c3 hv1
     (have hX:=@Int.toNat_natCast;(repeat' first|refine zaa [0,1,2,3,4,5,6,7,8,9,10,11,12,13,42,51,67,80] fun K hK=>?_|(refine hK.go ?_;clear hK K)|with_reducible exact wT|refine wA ?_|(refine wB (fun h=>?_) (fun h=>?_)<;>first|exact wN h|subst (h:(_:Bool)=_)|skip)|(refine wQ ?_;clear hQ hR hE hM)|refine wC c3 ?_|refine wC c4 ?_|refine wU c4 ?_|fail);all_goals clear hX)
     all_goals first|(exfalso;omega)|(exact nY (i+1,nth (nth p.sections q).ends v1,I++[j.ed],O++[(v1:Int)]) ⟨by (try dsimp only);omega,by (try dsimp only);simp[hI],by (try dsimp only);simp[hO],hgo⟩;done)|trace_state
  ·rw[if_neg hj]at hgo
   (repeat' first|refine zaa [0,1,2,3,4,5,6,7,8,9,10,11,12,13,42,51,67,80] fun K hK=>?_|(refine hK.go ?_;clear hK K)|with_reducible exact wT|refine wA ?_|(refine wB (fun h=>?_) (fun h=>?_)<;>first|exact wN h|subst (h:(_:Bool)=_)|skip)|(refine wQ ?_;clear hQ hR hE hM)|fail)
   all_goals first|(exfalso;contradiction)|(exfalso;omega)|(rw[←hgo];rfl)|trace_state
 ·rw[List.drop_eq_nil_of_le hge,zg3]at hgo
  (repeat' first|refine zaa [0,1,2,3,4,5,6,7,8,9,10,11,12,13,42,51,67,80] fun K hK=>?_|(refine hK.go ?_;clear hK K)|with_reducible exact wT|refine wA ?_|(refine wB (fun h=>?_) (fun h=>?_)<;>first|exact wN h|subst (h:(_:Bool)=_)|skip)|(refine wQ ?_;clear hQ hR hE hM)|fail)
  all_goals first|(rw[←hgo];simp[zq5];done)|(rw[←hgo];rfl)|trace_state
end Go.Lev
namespace Go.Lev
open Go.Eng
set_option maxRecDepth 10000
set_option maxHeartbeats 4000000
variable {P:Program} {inv:Nat→Option Nat} {w0:World} {M:Nat→Prop}
theorem znC (hH:HasAll P inv) (p:Pln) (hp:Sm p) (hs:zbU p.sections=true) (hg:SgsP p) (hpt:PtsP p) {m:Nat} (hm:m<p.routes.length) (hr:RteP p (nth p.routes m)) {I O:List Int} (hV:ziX p (nth p.routes m)=some (I,O)) :
  PC P inv 309 [.agg p.c,.n m] (·=.agg (zah p (nth p.routes m)).1.c):=by
 have hw:=zhi hs hg hpt hr
 rw[hV]at hw
 obtain ⟨hI,hO,hw⟩:=hw
 dsimp only at hI hO hw
 have hw1:(zah p (nth p.routes m)).1=⟨(nth p.routes m).path,(nth p.routes m).over,asksV p (nth p.routes m) I O,(sig p (nth p.routes m).entry).sec⟩:=by rw[hw]
 rw[hw1]
 obtain ⟨k,hk,h1,h2,h3⟩:=zis hs hg hr
 have hlen:=hr.lens
 have c1:=zpl hH (nth p.routes m) (by omega)
 have c2:=znU hH p hp hs hg (nth p.routes m) hr
 rw[hV]at c2
 unfold zq5 at c2
 dsimp only at c2
 have c3:=zjO hH (nth p.routes m) (by omega) (by omega)
 have c4:=zfx hH p.signals (by have:=hp.sgn;omega) (nth p.routes m).entry
 rw[h1]at c4
 rw[h3]
 have hsec:∀ i,i<((nth p.routes m).path++(nth p.routes m).over).length→∃ s∈p.sections,s.id=nth ((nth p.routes m).path++(nth p.routes m).over) i:=fun i hi=>(hr.secs _ (zab hi)).1
 have hal:((nth p.routes m).path++(nth p.routes m).over).length=(nth p.routes m).path.length+(nth p.routes m).over.length:=List.length_append
 have cT:=fun n=>zlS hH p.sections n (by have:=hp.sec;omega)
 have hix:=fun n hn=>zjP (p:=p) (n:=n) hs hn
 have cL:=fun s f t=>zpO hH s f t
 have hl1:=hp.rte
 unfold asksV
 obtain ⟨W,hW⟩:∃ W,zh7 p 0 ((nth p.routes m).path++(nth p.routes m).over) I O=W:=⟨_,rfl⟩
 rw[hW]
 clear hw hw1 h1 h2 h3 hs hg hpt hr hV
 generalize (nth p.routes m).path++(nth p.routes m).over=all at *
 refine PC.fn hH cd309 fun w0 M Q hM hE hQ hR=>?_;dsimp only[cd309,qm,ql,qf,qi,qb,qc,qp,qv,qN,qT,qF,qt]at hQ ⊢
 (have hX:=@Int.toNat_natCast;(repeat' first|refine zaa [0,1,2,4,5,6,7,9,10,11,12,13,14,48,64,73,83,85,100,119] fun K hK=>?_|(refine hK.go ?_;clear hK K)|with_reducible exact wT|refine wA ?_|(refine wB (fun h=>?_) (fun h=>?_)<;>first|exact wN h|subst (h:(_:Bool)=_)|skip)|(refine wQ ?_;clear hQ hR hE hM)|refine wC c1 ?_|refine wC c2 ?_|refine wC c3 ?_|refine wU c4 ?_|fail);all_goals clear hX)
 refine zcV 3 2 4 3 rfl rfl (Nat.zero_le _) (by (refine no_implicit_lambda% (st ?_);try with_reducible exact wT)) (by (refine no_implicit_lambda% (st ?_);try with_reducible exact wT)) ?_
 (refine no_implicit_lambda% (st ?_);try with_reducible exact wT)
 refine zai (ι:=Nat×(List AskR)) [2,4,5,6,7,9,10,11] (fun z=>[(11,.n z.1)]) (fun z=>[(3,.cells [.sl 1 (List.map zck (nth p.routes m).path),.sl 1 (List.map zck (nth p.routes m).over),.sm 4 (z.2.length*3) 0 z.2.length 3,.n (nth p.signals k).sec] true),(4,.cells (z.2.map AskR.c).flatten (decide (0<z.2.length)))]) (fun z=>z.1) (all.length) (fun z=>(z.2.length≤z.1)∧(z.2++zh7 p z.1 (all.drop z.1) (I.drop z.1) (O.drop z.1)=W)) (0,([]:List AskR)) ?_;rintro ⟨i,A⟩ ⟨hk,hA,hgo⟩;(try dsimp only at hk hA hgo ⊢);rcases Nat.lt_or_ge i all.length with hlt|hge
 ·rw[zad hlt,zad (l:=I) (by omega),zad (l:=O) (by omega),zh7]at hgo
  obtain ⟨q,hq,hat,hAq⟩:=hix _ (hsec i hlt)
  unfold zrq at hgo
  rw[hAq]at hgo
  have c5:=cT (nth all i)
  rw[hat]at c5
  have c6:=cL (nth p.sections q) (nth I i) (nth O i)
  by_cases hp0:(nth p.sections q).pt=0
  ·rw[if_pos hp0,List.nil_append]at hgo
   (have hX:=@Int.toNat_natCast;(repeat' first|refine zaa [0,1,2,4,5,6,7,9,10,11,12,13,14,48,64,73,83,85,100,119] fun K hK=>?_|(refine hK.go ?_;clear hK K)|with_reducible exact wT|refine wA ?_|(refine wB (fun h=>?_) (fun h=>?_)<;>first|exact wN h|subst (h:(_:Bool)=_)|skip)|(refine wQ ?_;clear hQ hR hE hM)|refine wU c5 ?_|fail);all_goals clear hX)
   all_goals first|(exfalso;contradiction)|(exact nY (i+1,A) ⟨by (try dsimp only);omega,by (try dsimp only);omega,hgo⟩;done)|trace_state
  ·rw[if_neg hp0]at hgo
   by_cases hb:0≤nth O i
   ·rw[if_pos hb]at hgo
    generalize zhS (nth p.sections q) (nth I i) (nth O i)=lie at *
    by_cases hl:0<lie
    ·rw[if_pos hl]at hgo
     (have hX:=@Int.toNat_natCast;(repeat' first|refine zaa [0,1,2,4,5,6,7,9,10,11,12,13,14,48,64,73,83,85,100,119] fun K hK=>?_|(refine hK.go ?_;clear hK K)|with_reducible exact wT|refine wA ?_|(refine wB (fun h=>?_) (fun h=>?_)<;>first|exact wN h|subst (h:(_:Bool)=_)|skip)|(refine wQ ?_;clear hQ hR hE hM)|refine wU c5 ?_|refine wC c6 ?_|fail);all_goals clear hX)
     all_goals first|(exfalso;contradiction)|(exfalso;omega)|(exact nY (i+1,A++[⟨(nth p.sections q).pt,lie,(i:Int)⟩]) ⟨by (try dsimp only);omega,by (try dsimp only);simp;omega,by (try dsimp only);rw[←hgo];simp⟩;done)|trace_state
    ·rw[if_neg hl,List.nil_append]at hgo
     (have hX:=@Int.toNat_natCast;(repeat' first|refine zaa [0,1,2,4,5,6,7,9,10,11,12,13,14,48,64,73,83,85,100,119] fun K hK=>?_|(refine hK.go ?_;clear hK K)|with_reducible exact wT|refine wA ?_|(refine wB (fun h=>?_) (fun h=>?_)<;>first|exact wN h|subst (h:(_:Bool)=_)|skip)|(refine wQ ?_;clear hQ hR hE hM)|refine wU c5 ?_|refine wC c6 ?_|fail);all_goals clear hX)
     all_goals first|(exfalso;contradiction)|(exfalso;omega)|(exact nY (i+1,A) ⟨by (try dsimp only);omega,by (try dsimp only);omega,hgo⟩;done)|trace_state
   ·rw[if_neg hb]at hgo
    by_cases hl:0<nth I i
    ·rw[if_pos hl]at hgo
     (have hX:=@Int.toNat_natCast;(repeat' first|refine zaa [0,1,2,4,5,6,7,9,10,11,12,13,14,48,64,73,83,85,100,119] fun K hK=>?_|(refine hK.go ?_;clear hK K)|with_reducible exact wT|refine wA ?_|(refine wB (fun h=>?_) (fun h=>?_)<;>first|exact wN h|subst (h:(_:Bool)=_)|skip)|(refine wQ ?_;clear hQ hR hE hM)|refine wU c5 ?_|refine wC c6 ?_|fail);all_goals clear hX)
     all_goals first|(exfalso;contradiction)|(exfalso;omega)|(exact nY (i+1,A++[⟨(nth p.sections q).pt,nth I i,(i:Int)⟩]) ⟨by (try dsimp only);omega,by (try dsimp only);simp;omega,by (try dsimp only);rw[←hgo];simp⟩;done)|trace_state
    ·rw[if_neg hl,List.nil_append]at hgo
     (have hX:=@Int.toNat_natCast;(repeat' first|refine zaa [0,1,2,4,5,6,7,9,10,11,12,13,14,48,64,73,83,85,100,119] fun K hK=>?_|(refine hK.go ?_;clear hK K)|with_reducible exact wT|refine wA ?_|(refine wB (fun h=>?_) (fun h=>?_)<;>first|exact wN h|subst (h:(_:Bool)=_)|skip)|(refine wQ ?_;clear hQ hR hE hM)|refine wU c5 ?_|refine wC c6 ?_|fail);all_goals clear hX)
     all_goals first|(exfalso;contradiction)|(exfalso;omega)|(exact nY (i+1,A) ⟨by (try dsimp only);omega,by (try dsimp only);omega,hgo⟩;done)|trace_state
 ·rw[List.drop_eq_nil_of_le hge,zh7,List.append_nil]at hgo
  ·subst hgo
   (repeat' first|refine zaa [0,1,2,4,5,6,7,9,10,11,12,13,14,48,64,73,83,85,100,119] fun K hK=>?_|(refine hK.go ?_;clear hK K)|with_reducible exact wT|refine wA ?_|(refine wB (fun h=>?_) (fun h=>?_)<;>first|exact wN h|subst (h:(_:Bool)=_)|skip)|(refine wQ ?_;clear hQ hR hE hM)|fail)
   refine zai (ι:=Nat×(List AskR)) [4,5,10,14] (fun z=>[(14,.n z.1)]) (fun z=>[(3,.cells [.sl 1 (List.map zck (nth p.routes m).path),.sl 1 (List.map zck (nth p.routes m).over),.sm 4 (z.2.length*3) 0 z.2.length 3,.n (nth p.signals k).sec] true),(4,.cells (z.2.map AskR.c).flatten (decide (0<z.2.length)))]) (fun z=>z.1) ((nth p.routes m).flanks.length) (fun z=>(z.2.length≤i+z.1)∧(z.2++((nth p.routes m).flanks.drop z.1).map (fun x=>(⟨x.pnt,x.lie,-1⟩:AskR))=A++(nth p.routes m).flanks.map (fun x=>(⟨x.pnt,x.lie,-1⟩:AskR)))) (0,A) ?_;rintro ⟨k2,B⟩ ⟨hk,hB,hgb⟩;(try dsimp only at hk hB hgb ⊢);rcases Nat.lt_or_ge k2 (nth p.routes m).flanks.length with hlt|hge
   ·rw[zad (by assumption),List.map_cons]at hgb
    (repeat' first|refine zaa [0,1,2,4,5,6,7,9,10,11,12,13,14,48,64,73,83,85,100,119] fun K hK=>?_|(refine hK.go ?_;clear hK K)|with_reducible exact wT|refine wA ?_|(refine wB (fun h=>?_) (fun h=>?_)<;>first|exact wN h|subst (h:(_:Bool)=_)|skip)|(refine wQ ?_;clear hQ hR hE hM)|fail)
    all_goals first|(exfalso;contradiction)|(exact nY (k2+1,B++[⟨(nth (nth p.routes m).flanks k2).pnt,(nth (nth p.routes m).flanks k2).lie,-1⟩]) ⟨by (try dsimp only);omega,by (try dsimp only);simp;omega,by (try dsimp only);rw[←hgb];simp⟩;done)|trace_state
   ·rw[List.drop_eq_nil_of_le (by assumption),List.map_nil,List.append_nil]at hgb
    (repeat' first|refine zaa [0,1,2,4,5,6,7,9,10,11,12,13,14,48,64,73,83,85,100,119] fun K hK=>?_|(refine hK.go ?_;clear hK K)|with_reducible exact wT|refine wA ?_|(refine wB (fun h=>?_) (fun h=>?_)<;>first|exact wN h|subst (h:(_:Bool)=_)|skip)|(refine wQ ?_;clear hQ hR hE hM)|fail)
    all_goals first|(subst hgb;rfl)|trace_state
  ·intro a b c d e f h
   cases h
end Go.Lev
namespace Go.Lev
open Go.Eng
set_option maxRecDepth 10000
set_option maxHeartbeats 4000000
variable {P:Program} {inv:Nat→Option Nat} {w0:World} {M:Nat→Prop}
theorem zru {p:Pln} (h:zbB p=true):AllP p:=by
 have ho:=zgR h
 have hg:=(zhq ho.sec).1 ho.sgn
 exact ⟨ho,ho.sec,hg,(znu ho.sec).1 ho.pts,fun r hr=>(zpN ho.sec hg r).1 (ho.rte r hr)⟩
theorem zoI {p:Pln} (ho:OkP p) {m:Nat} (hm:m<p.routes.length):zaW (fun x=>decide (Rte.id x=(nth p.routes m).id)) 0 p.routes=(m:Int):=by
 rcases zaP Rte.id (nth p.routes m).id p.routes with ⟨_,h4⟩|⟨k,hk,h4,h5⟩
 ·exact absurd rfl (h4 _ (zab hm))
 ·rw[h4,zj4 Rte.id (zfD ho) hk hm h5]
theorem zpq (hH:HasAll P inv) (p:Pln) (hp:Sm p) (h:AllP p) {m:Nat} (hm:m<p.routes.length):PC P inv 301 [.agg p.c,.agg (nth p.routes m).c] (·=.b (sndB p (nth p.routes m))):=by
 have hr:=h.rte _ (zab hm)
 have c1:=znU hH p hp h.sec h.sgn (nth p.routes m) hr
 have hw:=zhi h.sec h.sgn h.pts hr
 unfold sndB
 cases hV:ziX p (nth p.routes m) with
 |none =>
  rw[hV]at c1 hw
  unfold zq5 at c1
  dsimp only at c1 hw
  rw[hw,show (decide ((90:Int)=0)&&zbw p (nth p.routes m))=false from rfl]
  refine PC.fn hH cd301 fun w0 M Q hM hE hQ hR=>?_;dsimp only[cd301,qm,ql,qf,qi,qb,qc,qp,qv,qN,qT,qF,qt]at hQ ⊢
  (repeat' first|refine zaa [0,1,2,3,4,6,7,8,9,10,11,12,21,33,38,53,58,71,95] fun K hK=>?_|(refine hK.go ?_;clear hK K)|with_reducible exact wT|refine wA ?_|(refine wB (fun h=>?_) (fun h=>?_)<;>first|exact wN h|subst (h:(_:Bool)=_)|skip)|(refine wQ ?_;clear hQ hR hE hM)|refine wC c1 ?_|fail)
  all_goals first|rfl|(exfalso;contradiction)|trace_state
 |some v =>
  obtain ⟨I,O⟩:=v
  have c3:=znC hH p hp h.sec h.sgn h.pts hm hr hV
  rw[hV]at c1 hw
  unfold zq5 at c1
  dsimp only at c1 hw
  have hlen:=hr.lens
  have hO:O.length=(nth p.routes m).path.length+(nth p.routes m).over.length:=by rw[hw.2.1,List.length_append]
  have h0:(zah p (nth p.routes m)).2.2=0:=by rw[hw.2.2]
  rw[h0,show (decide ((0:Int)=0)&&zbw p (nth p.routes m))=zbw p (nth p.routes m) from rfl]
  have c2:=zpG hH p.routes (by have:=hp.rte;omega) (nth p.routes m).id
  rw[zoI h.ok hm]at c2
  have hal:=(zbI h.ok (zab hm)).1
  obtain ⟨X,hF⟩:∃ X,sndF p (nth p.routes m) (zah p (nth p.routes m)).1.asks O=X:=⟨_,rfl⟩
  rw[←snd_eq h.ok h.sec h.sgn h.pts (zab hm) hr hV,hF]
  have cA:=fun (a b:Int)=>at_ref hH p (by have:=hp.sgn;omega) a b
  unfold sndF sndT at hF
  generalize (zah p (nth p.routes m)).1=w at *
  clear h hr hw h0
  refine PC.fn hH cd301 fun w0 M Q hM hE hQ hR=>?_;dsimp only[cd301,qm,ql,qf,qi,qb,qc,qp,qv,qN,qT,qF,qt]at hQ ⊢
  skip
  (repeat' first|refine zaa [0,1,2,3,4,6,7,8,9,10,11,12,21,33,38,53,58,71,95] fun K hK=>?_|(refine hK.go ?_;clear hK K)|with_reducible exact wT|refine wA ?_|(refine wE (fun h0 h=>?_) (fun h0 h=>?_)<;>first|exact wN h|((try replace hF:=wX hF);clear h0;first|exact hF.elim|((try subst (h:(_:Bool)=_));try replace hF:=wX hF)))|(refine wQ ?_;clear hQ hR hE hM)|refine wC c1 ?_|refine wU c2 ?_|refine wU c3 ?_|fail)
  all_goals first|(exfalso;contradiction)|skip
  refine zaJ hF fun Bd Ed hBd hEd hF=>?_;refine zai (ι:=Nat) [2,3,4,6,8,9] (fun z=>[(9,.n z)]) (fun _=>[]) (fun z=>z) (w.asks.length) (fun z=>(zaB Bd Ed (w.asks.length-z) z ()=X)) (0) ?_;rintro i ⟨hk,hF⟩;(try dsimp only at hk hF ⊢);rcases Nat.lt_or_ge i w.asks.length with hlt|hge
  ·rw[zar hBd hlt]at hF;(try dsimp only at hF)
   (repeat' first|refine zaa [0,1,2,3,4,6,7,8,9,10,11,12,21,33,38,53,58,71,95] fun K hK=>?_|(refine hK.go ?_;clear hK K)|with_reducible exact wT|refine wA ?_|(refine wE (fun h0 h=>?_) (fun h0 h=>?_)<;>first|exact wN h|((try replace hF:=wX hF);clear h0;first|exact hF.elim|((try subst (h:(_:Bool)=_));try replace hF:=wX hF)))|(refine wQ ?_;clear hQ hR hE hM)|fail)
   refine zaJ hF fun Bd Ed hBd hEd hF=>?_;refine zai (ι:=Nat) [2,3,4,6,8,9,10] (fun z=>[(10,.n z)]) (fun _=>[]) (fun z=>z) (i) (fun z=>(zaB Bd Ed (i-z) z ()=X)) (0) ?_;rintro k ⟨hk,hF⟩;(try dsimp only at hk hF ⊢);rcases Nat.lt_or_ge k i with hlt|hge
   ·rw[zar hBd hlt]at hF;(try dsimp only at hF)
    (repeat' first|refine zaa [0,1,2,3,4,6,7,8,9,10,11,12,21,33,38,53,58,71,95] fun K hK=>?_|(refine hK.go ?_;clear hK K)|with_reducible exact wT|refine wA ?_|(refine wE (fun h0 h=>?_) (fun h0 h=>?_)<;>first|exact wN h|((try replace hF:=wX hF);clear h0;first|exact hF.elim|((try subst (h:(_:Bool)=_));try replace hF:=wX hF)))|(refine wQ ?_;clear hQ hR hE hM)|fail)
    all_goals first|exact hF|(exfalso;contradiction)|exact congrArg AV.b hF|exact nX (k+1)
   ·rw[zaI hge,hEd]at hF;(try dsimp only at hF)
    (repeat' first|refine zaa [0,1,2,3,4,6,7,8,9,10,11,12,21,33,38,53,58,71,95] fun K hK=>?_|(refine hK.go ?_;clear hK K)|with_reducible exact wT|refine wA ?_|(refine wE (fun h0 h=>?_) (fun h0 h=>?_)<;>first|exact wN h|((try replace hF:=wX hF);clear h0;first|exact hF.elim|((try subst (h:(_:Bool)=_));try replace hF:=wX hF)))|(refine wQ ?_;clear hQ hR hE hM)|fail)
    all_goals exact nX (i+1)
  ·rw[zaI hge,hEd]at hF;(try dsimp only at hF)
   (repeat' first|refine zaa [0,1,2,3,4,6,7,8,9,10,11,12,21,33,38,53,58,71,95] fun K hK=>?_|(refine hK.go ?_;clear hK K)|with_reducible exact wT|refine wA ?_|(refine wE (fun h0 h=>?_) (fun h0 h=>?_)<;>first|exact wN h|((try replace hF:=wX hF);clear h0;first|exact hF.elim|((try subst (h:(_:Bool)=_));try replace hF:=wX hF)))|(refine wQ ?_;clear hQ hR hE hM)|fail)
   refine zaJ hF fun Bd Ed hBd hEd hF=>?_;refine zai (ι:=Nat) [2,3,4,6,11] (fun z=>[(11,.n z)]) (fun _=>[]) (fun z=>z) ((nth p.routes m).path.length) (fun z=>(zaB Bd Ed ((nth p.routes m).path.length-z) z ()=X)) (0) ?_;rintro i ⟨hk,hF⟩;(try dsimp only at hk hF ⊢);rcases Nat.lt_or_ge i (nth p.routes m).path.length with hlt|hge
   ·rw[zar hBd hlt]at hF;(try dsimp only at hF)
    have c4:=cA (nth (nth p.routes m).path i) (nth O i)
    generalize zob p (nth (nth p.routes m).path i) (nth O i)=g at *
    (repeat' first|refine zaa [0,1,2,3,4,6,7,8,9,10,11,12,21,33,38,53,58,71,95] fun K hK=>?_|(refine hK.go ?_;clear hK K)|with_reducible exact wT|refine wA ?_|(refine wE (fun h0 h=>?_) (fun h0 h=>?_)<;>first|exact wN h|((try replace hF:=wX hF);clear h0;first|exact hF.elim|((try subst (h:(_:Bool)=_));try replace hF:=wX hF)))|(refine wQ ?_;clear hQ hR hE hM)|refine wC c4 ?_|fail)
    all_goals first|exact hF|(exfalso;contradiction)|exact congrArg AV.b hF|exact nX (i+1)
   ·rw[zaI hge,hEd]at hF;(try dsimp only at hF)
    (repeat' first|refine zaa [0,1,2,3,4,6,7,8,9,10,11,12,21,33,38,53,58,71,95] fun K hK=>?_|(refine hK.go ?_;clear hK K)|with_reducible exact wT|refine wA ?_|(refine wE (fun h0 h=>?_) (fun h0 h=>?_)<;>first|exact wN h|((try replace hF:=wX hF);clear h0;first|exact hF.elim|((try subst (h:(_:Bool)=_));try replace hF:=wX hF)))|(refine wQ ?_;clear hQ hR hE hM)|fail)
    all_goals first|exact hF|exact congrArg AV.b hF|trace_state
theorem zox (p:Pln):za3 p=(zbB p&&p.routes.all (sndB p)):=by
 unfold za3 zrv sndB
 congr 1
 induction p.routes with
 |nil=>rfl
 |cons r l ih =>
  simp only[List.all_cons]
  rw[←ih]
  cases decide ((zah p r).2.2=0)<;>cases zbw p r<;>simp
theorem zli (hH:HasAll P inv) (p:Pln) (hp:Sm p):PC P inv 295 [.agg p.c] (·=.b (za3 p)):=by
 have c1:=may_ref hH p hp
 have hl:=hp.rte
 rw[zox]
 by_cases hok:zbB p=true
 ·have h:=zru hok
  have cS:=fun (m:Nat) (hm:m<p.routes.length)=>zpq hH p hp h hm
  rw[hok]at c1
  rw[hok,Bool.true_and]
  clear h hok
  refine PC.fn hH cd295 fun w0 M Q hM hE hQ hR=>?_;dsimp only[cd295,qm,ql,qf,qi,qb,qc,qp,qv,qN,qT,qF,qt]at hQ ⊢
  (repeat' first|refine zaa [0,1,2,3,6,11,20,21] fun K hK=>?_|(refine hK.go ?_;clear hK K)|with_reducible exact wT|refine wA ?_|(refine wB (fun h=>?_) (fun h=>?_)<;>first|exact wN h|subst (h:(_:Bool)=_)|skip)|(refine wQ ?_;clear hQ hR hE hM)|refine wC c1 ?_|fail)
  all_goals first|(exfalso;contradiction)|skip
  refine zai (ι:=Nat) [1,2,3] (fun z=>[(3,.n z)]) (fun _=>[]) (fun z=>z) (p.routes.length) (fun z=>((p.routes.drop z).all (sndB p)=p.routes.all (sndB p))) (0) ?_;rintro k ⟨hk,hg⟩;(try dsimp only at hk hg ⊢);rcases Nat.lt_or_ge k p.routes.length with hlt|hge
  ·rw[zad hlt,List.all_cons]at hg
   have c2:=cS k hlt
   cases hb:sndB p (nth p.routes k) with
   |true =>
    rw[hb]at c2 hg
    rw[Bool.true_and]at hg
    (repeat' first|refine zaa [0,1,2,3,6,11,20,21] fun K hK=>?_|(refine hK.go ?_;clear hK K)|with_reducible exact wT|refine wA ?_|(refine wB (fun h=>?_) (fun h=>?_)<;>first|exact wN h|subst (h:(_:Bool)=_)|skip)|(refine wQ ?_;clear hQ hR hE hM)|refine wC c2 ?_|fail)
    all_goals first|(exfalso;contradiction)|exact ⟨k+1,by omega,⟨by omega,hg⟩,by omega⟩|trace_state
   |false =>
    rw[hb]at c2 hg
    rw[Bool.false_and]at hg
    (repeat' first|refine zaa [0,1,2,3,6,11,20,21] fun K hK=>?_|(refine hK.go ?_;clear hK K)|with_reducible exact wT|refine wA ?_|(refine wB (fun h=>?_) (fun h=>?_)<;>first|exact wN h|subst (h:(_:Bool)=_)|skip)|(refine wQ ?_;clear hQ hR hE hM)|refine wC c2 ?_|fail)
    all_goals first|(exfalso;contradiction)|exact congrArg AV.b hg|exact hg|trace_state
  ·rw[List.drop_eq_nil_of_le hge,List.all_nil]at hg
   (repeat' first|refine zaa [0,1,2,3,6,11,20,21] fun K hK=>?_|(refine hK.go ?_;clear hK K)|with_reducible exact wT|refine wA ?_|(refine wB (fun h=>?_) (fun h=>?_)<;>first|exact wN h|subst (h:(_:Bool)=_)|skip)|(refine wQ ?_;clear hQ hR hE hM)|fail)
   all_goals first|exact congrArg AV.b hg|exact hg|trace_state
 ·have hok:zbB p=false:=by simpa using hok
  rw[hok]at c1
  rw[hok,Bool.false_and]
  refine PC.fn hH cd295 fun w0 M Q hM hE hQ hR=>?_;dsimp only[cd295,qm,ql,qf,qi,qb,qc,qp,qv,qN,qT,qF,qt]at hQ ⊢
  (repeat' first|refine zaa [0,1,2,3,6,11,20,21] fun K hK=>?_|(refine hK.go ?_;clear hK K)|with_reducible exact wT|refine wA ?_|(refine wB (fun h=>?_) (fun h=>?_)<;>first|exact wN h|subst (h:(_:Bool)=_)|skip)|(refine wQ ?_;clear hQ hR hE hM)|refine wC c1 ?_|fail)
  all_goals first|rfl|(exfalso;contradiction)|trace_state
end Go.Lev
namespace Go.Lev
open Go.Eng
set_option maxRecDepth 10000
set_option maxHeartbeats 4000000
variable {P:Program} {inv:Nat→Option Nat} {w0:World} {M:Nat→Prop}
theorem zp4 {p:Pln} (h:za3 p=true):zbB p=true:=by unfold za3 at h;rw[Bool.and_eq_true]at h;exact h.1
theorem zhk (hH:HasAll P inv) (p:Pln) (hp:Sm p) (h:za3 p=true) {m:Nat} (hm:m<p.routes.length):PC P inv 312 [.agg p.c,.n m] (·=.agg (zah p (nth p.routes m)).1.c):=by
 have hA:=zru (zp4 h)
 have hr:=hA.rte _ (zab hm)
 have hw:=zhi hA.sec hA.sgn hA.pts hr
 cases hV:ziX p (nth p.routes m) with
 |none =>
  rw[hV]at hw
  have h0:=(zaD h).2.1 _ (zab hm)
  rw[h0]at hw
  cases hw
 |some v =>
  have c1:=znC hH p hp hA.sec hA.sgn hA.pts hm hr hV
  clear hA hr hw hV
  generalize (zah p (nth p.routes m)).1=w at *
  refine PC.fn hH cd312 fun w0 M Q hM hE hQ hR=>?_;dsimp only[cd312,qm,ql,qf,qi,qb,qc,qp,qv,qN,qT,qF,qt]at hQ ⊢
  (repeat' first|refine zaa [0,1,2,4] fun K hK=>?_|(refine hK.go ?_;clear hK K)|with_reducible exact wT|refine wA ?_|(refine wB (fun h=>?_) (fun h=>?_)<;>first|exact wN h|subst (h:(_:Bool)=_)|skip)|(refine wQ ?_;clear hQ hR hE hM)|refine wC c1 ?_|fail)
  all_goals first|rfl|trace_state
theorem held_ref (hH:HasAll P inv) (p:Pln) (hp:Sm p) (h:za3 p=true) {m:Nat} (hm:m<p.routes.length) (l:Lock):PC P inv 302 [.agg p.c,.agg l.c,.n m] (·=.sl 1 ((zbk (zah p (nth p.routes m)).1 l).map zck)):=by
 have c1:=zhk hH p hp h hm
 have hwl:=zbI (zaD h).1 (zab hm)
 generalize (zah p (nth p.routes m)).1=w at *
 clear h
 unfold zbk
 by_cases h0:l.phase=0
 ·rw[if_pos h0]
  refine PC.fn hH cd302 fun w0 M Q hM hE hQ hR=>?_;dsimp only[cd302,qm,ql,qf,qi,qb,qc,qp,qv,qN,qT,qF,qt]at hQ ⊢
  (repeat' first|refine zaa [0,1,2,3,4,6,7,8,9,12,23] fun K hK=>?_|(refine hK.go ?_;clear hK K)|with_reducible exact wT|refine wA ?_|(refine wB (fun h=>?_) (fun h=>?_)<;>first|exact wN h|subst (h:(_:Bool)=_)|skip)|(refine wQ ?_;clear hQ hR hE hM)|fail)
  all_goals first|rfl|(exfalso;contradiction)|trace_state
 ·rw[if_neg h0]
  have hmx:(if l.gone<0 then (0:Int) else l.gone)=((l.gone.toNat:Nat):Int):=by split<;>omega
  generalize l.gone.toNat=g at *
  refine PC.fn hH cd302 fun w0 M Q hM hE hQ hR=>?_;dsimp only[cd302,qm,ql,qf,qi,qb,qc,qp,qv,qN,qT,qF,qt]at hQ ⊢
  (have hX:=@hmx;(repeat' first|refine zaa [0,1,2,3,4,6,7,8,9,12,23] fun K hK=>?_|(refine hK.go ?_;clear hK K)|with_reducible exact wT|refine wA ?_|(refine wB (fun h=>?_) (fun h=>?_)<;>first|exact wN h|subst (h:(_:Bool)=_)|skip)|(refine wQ ?_;clear hQ hR hE hM)|refine wC c1 ?_|fail);all_goals clear hX)
  all_goals first|(exfalso;contradiction)|skip
  refine AWp.empty 8 3 1 rfl (Nat.zero_le _) (by (refine no_implicit_lambda% (st ?_);try with_reducible exact wT)) (by (refine no_implicit_lambda% (st ?_);try with_reducible exact wT)) ?_
  (refine no_implicit_lambda% (st ?_);try with_reducible exact wT)
  refine zai (ι:=Nat×(List Int)) [6,7,8,9] (fun z=>[(8,.sm 3 z.2.length 0 z.2.length 1),(9,.n ((g+z.1:Nat):Int))]) (fun z=>[(3,.cells (z.2.map zck).flatten (decide (0<z.2.length)))]) (fun z=>z.1) ((w.path.length-g)) (fun z=>(z.2.length=z.1)∧(z.2++w.path.drop (g+z.1)=w.path.drop g)) (0,([]:List Int)) ?_;rintro ⟨k,A⟩ ⟨hk,hA,hgo⟩;(try dsimp only at hk hA hgo ⊢);rcases Nat.lt_or_ge k (w.path.length-g) with hlt|hge
  ·have hlt2:g+k<w.path.length:=by omega
   rw[zad hlt2]at hgo
   (have hX:=@Int.toNat_natCast;(repeat' first|refine zaa [0,1,2,3,4,6,7,8,9,12,23] fun K hK=>?_|(refine hK.go ?_;clear hK K)|with_reducible exact wT|refine wA ?_|(refine wB (fun h=>?_) (fun h=>?_)<;>first|exact wN h|subst (h:(_:Bool)=_)|skip)|(refine wQ ?_;clear hQ hR hE hM)|fail);all_goals clear hX)
   all_goals first|(exfalso;omega)|(exact nY (k+1,A++[nth w.path (g+k)]) ⟨by (try dsimp only);omega,by (try dsimp only);simp[hA],by (try dsimp only);rw[←hgo];simp[Nat.add_assoc]⟩;done)|trace_state
  ·rw[List.drop_eq_nil_of_le (show w.path.length≤g+k by omega),List.append_nil]at hgo
   have hgo2:w.path.drop g++w.over=A++w.over:=by rw[hgo]
   have f0:(A.map zck).flatten++(w.over.map zck).flatten=((A++w.over).map zck).flatten:=by simp
   have f1:A.length+w.over.length=(A++w.over).length:=by simp
   generalize A++w.over=all at *
   (have hX:=zA @f0 @f1;(repeat' first|refine zaa [0,1,2,3,4,6,7,8,9,12,23] fun K hK=>?_|(refine hK.go ?_;clear hK K)|with_reducible exact wT|refine wA ?_|(refine wB (fun h=>?_) (fun h=>?_)<;>first|exact wN h|subst (h:(_:Bool)=_)|skip)|(refine wQ ?_;clear hQ hR hE hM)|fail);all_goals clear hX)
   all_goals first|(exfalso;omega)|(rw[hgo2];done)|(rw[hgo2];rfl)|trace_state
theorem asks_ref (hH:HasAll P inv) (p:Pln) (hp:Sm p) (h:za3 p=true) {m:Nat} (hm:m<p.routes.length) (l:Lock):PC P inv 303 [.agg p.c,.agg l.c,.n m] (·=.sl 3 (((zbG (zah p (nth p.routes m)).1 l).filter (zbV l)).map AskR.c)):=by
 have c1:=zhk hH p hp h hm
 have hwl:=zbI (zaD h).1 (zab hm)
 generalize (zah p (nth p.routes m)).1=w at *
 clear h
 unfold zbG
 by_cases h0:l.phase=0
 ·rw[if_pos h0]
  refine PC.fn hH cd303 fun w0 M Q hM hE hQ hR=>?_;dsimp only[cd303,qm,ql,qf,qi,qb,qc,qp,qv,qN,qT,qF,qt]at hQ ⊢
  (repeat' first|refine zaa [0,1,2,3,4,6,7,8,9,12,20,40] fun K hK=>?_|(refine hK.go ?_;clear hK K)|with_reducible exact wT|refine wA ?_|(refine wB (fun h=>?_) (fun h=>?_)<;>first|exact wN h|subst (h:(_:Bool)=_)|skip)|(refine wQ ?_;clear hQ hR hE hM)|fail)
  all_goals first|rfl|(exfalso;contradiction)|trace_state
 ·rw[if_neg h0]
  refine PC.fn hH cd303 fun w0 M Q hM hE hQ hR=>?_;dsimp only[cd303,qm,ql,qf,qi,qb,qc,qp,qv,qN,qT,qF,qt]at hQ ⊢
  (repeat' first|refine zaa [0,1,2,3,4,6,7,8,9,12,20,40] fun K hK=>?_|(refine hK.go ?_;clear hK K)|with_reducible exact wT|refine wA ?_|(refine wB (fun h=>?_) (fun h=>?_)<;>first|exact wN h|subst (h:(_:Bool)=_)|skip)|(refine wQ ?_;clear hQ hR hE hM)|refine wC c1 ?_|fail)
  all_goals first|(exfalso;contradiction)|skip
  refine AWp.empty 8 3 3 rfl (Nat.zero_le _) (by (refine no_implicit_lambda% (st ?_);try with_reducible exact wT)) (by (refine no_implicit_lambda% (st ?_);try with_reducible exact wT)) ?_
  (refine no_implicit_lambda% (st ?_);try with_reducible exact wT)
  refine zai (ι:=Nat×(List AskR)) [4,6,7,8,9] (fun z=>[(8,.sm 3 (z.2.length*3) 0 z.2.length 3),(9,.n z.1)]) (fun z=>[(3,.cells (z.2.map AskR.c).flatten (decide (0<z.2.length)))]) (fun z=>z.1) (w.asks.length) (fun z=>(z.2.length≤z.1)∧(z.2++(w.asks.drop z.1).filter (zbV l)=w.asks.filter (zbV l))) (0,([]:List AskR)) ?_;rintro ⟨k,A⟩ ⟨hk,hA,hgo⟩;(try dsimp only at hk hA hgo ⊢);rcases Nat.lt_or_ge k w.asks.length with hlt|hge
  ·rw[zad hlt,List.filter_cons]at hgo
   by_cases hn:(nth w.asks k).pos<0
   ·rw[if_pos (by unfold zbV;simp[hn])]at hgo
    (repeat' first|refine zaa [0,1,2,3,4,6,7,8,9,12,20,40] fun K hK=>?_|(refine hK.go ?_;clear hK K)|with_reducible exact wT|refine wA ?_|(refine wB (fun h=>?_) (fun h=>?_)<;>first|exact wN h|subst (h:(_:Bool)=_)|skip)|(refine wQ ?_;clear hQ hR hE hM)|fail)
    all_goals first|(exfalso;omega)|(exact nY (k+1,A++[nth w.asks k]) ⟨by (try dsimp only);omega,by (try dsimp only);simp;omega,by (try dsimp only);rw[←hgo];simp⟩;done)|trace_state
   ·by_cases hg:l.gone≤(nth w.asks k).pos
    ·rw[if_pos (by unfold zbV;simp[hg])]at hgo
     (repeat' first|refine zaa [0,1,2,3,4,6,7,8,9,12,20,40] fun K hK=>?_|(refine hK.go ?_;clear hK K)|with_reducible exact wT|refine wA ?_|(refine wB (fun h=>?_) (fun h=>?_)<;>first|exact wN h|subst (h:(_:Bool)=_)|skip)|(refine wQ ?_;clear hQ hR hE hM)|fail)
     all_goals first|(exfalso;omega)|(exact nY (k+1,A++[nth w.asks k]) ⟨by (try dsimp only);omega,by (try dsimp only);simp;omega,by (try dsimp only);rw[←hgo];simp⟩;done)|trace_state
    ·rw[if_neg (by unfold zbV;simp[hn,hg])]at hgo
     (repeat' first|refine zaa [0,1,2,3,4,6,7,8,9,12,20,40] fun K hK=>?_|(refine hK.go ?_;clear hK K)|with_reducible exact wT|refine wA ?_|(refine wB (fun h=>?_) (fun h=>?_)<;>first|exact wN h|subst (h:(_:Bool)=_)|skip)|(refine wQ ?_;clear hQ hR hE hM)|fail)
     all_goals first|(exfalso;omega)|(exact nY (k+1,A) ⟨by (try dsimp only);omega,by (try dsimp only);omega,hgo⟩;done)|trace_state
  ·rw[List.drop_eq_nil_of_le hge,List.filter_nil,List.append_nil]at hgo
   (repeat' first|refine zaa [0,1,2,3,4,6,7,8,9,12,20,40] fun K hK=>?_|(refine hK.go ?_;clear hK K)|with_reducible exact wT|refine wA ?_|(refine wB (fun h=>?_) (fun h=>?_)<;>first|exact wN h|subst (h:(_:Bool)=_)|skip)|(refine wQ ?_;clear hQ hR hE hM)|fail)
   all_goals first|(subst hgo;rfl)|(rw[←hgo];done)|trace_state
end Go.Lev
namespace Go.Lev
open Go.Eng
theorem zkb {n:Nat} {q:Nat→Bool} {fin:Unit→Bool} {X:Bool} (h1:∀ i,i<n→q i=true→false=X) (h2:(∀ i,i<n→q i=false)→fin ()=X):zaB (fun i _ za0=>cond (q i) false (za0 ())) fin n 0 ()=X:=by
 refine zaU (·=X) (fun i _=>∀ j,j<i→q j=false) (fun j hj=>by omega) ?_ fun _ h=>h2 h
 intro i _ za0 hi hI hn
 cases hq:q i with
 |true=>rw[cond_true];exact h1 i hi hq
 |false =>
  rw[cond_false]
  refine hn () fun j hj=>?_
  rcases Nat.lt_or_ge j i with h|h
  ·exact hI j h
  ·obtain rfl:j=i:=by omega
   exact hq
theorem prtF_eq (p:Pln) (s:State):prtF p s=zaj p s:=by
 generalize hX:zaj p s=X
 have t1:∀ x y,trkB x y=!ze9 x y:=fun x y=>by
  unfold trkB ze9
  rw[Bool.not_and]
  congr 1
  rw[Bool.eq_iff_iff]
  simp
 have t2:∀ x y,swtB x y=!zeV x y:=fun x y=>by
  unfold swtB zeV zem
  rw[Bool.eq_iff_iff]
  simp only[Bool.or_eq_true,Bool.not_eq_true',Bool.and_eq_false_imp,decide_eq_true_eq,decide_eq_false_iff_not,Bool.and_eq_true,Bool.not_eq_true,Bool.and_eq_false_imp]
  constructor
  ·rintro (h|h|h|h|h)
   ·intro h1;exact absurd h1 h
   ·intro _ h1;omega
   ·intro _ h1;omega
   ·intro _ _ h1;omega
   ·intro _ _ h1;omega
  ·intro h
   by_cases h1:x.id=y.id
   ·have h2:=h h1
    by_cases h3:0≤x.lie∧x.lie≤2
    ·have h4:=h2 h3
     by_cases h5:0≤x.call
     ·have h6:=h4 h5;omega
     ·omega
    ·omega
   ·exact .inl h1
 have t3:∀ x y,lckB x y=!zcK x y:=fun x y=>by
  unfold lckB zcK
  rw[Bool.not_and]
 have hiff:X=true↔(s.tracks.length=p.sections.length∧∀ i,i<s.tracks.length→ze9 (nth s.tracks i) (nth p.sections i)=true)∧(s.switches.length=p.points.length∧∀ i,i<s.switches.length→zeV (nth s.switches i) (nth p.points i)=true)∧(s.locks.length=p.routes.length∧∀ i,i<s.locks.length→zcK (nth s.locks i) (nth p.routes i)=true):=by
  rw[←hX]
  unfold zaj
  simp only[Bool.and_eq_true,zbf]
 have bad:¬((s.tracks.length=p.sections.length∧∀ i,i<s.tracks.length→ze9 (nth s.tracks i) (nth p.sections i)=true)∧(s.switches.length=p.points.length∧∀ i,i<s.switches.length→zeV (nth s.switches i) (nth p.points i)=true)∧(s.locks.length=p.routes.length∧∀ i,i<s.locks.length→zcK (nth s.locks i) (nth p.routes i)=true))→false=X:=fun h=>by
  cases X with
  |false=>rfl
  |true=>exact absurd (hiff.1 rfl) h
 unfold prtF
 by_cases hl:s.tracks.length=p.sections.length∧s.switches.length=p.points.length∧s.locks.length=p.routes.length
 ·rw[decide_eq_true (show (s.tracks.length:Int)=p.sections.length by omega),decide_eq_true (show (s.switches.length:Int)=p.points.length by omega),decide_eq_true (show (s.locks.length:Int)=p.routes.length by omega)]
  show zaB _ _ _ _ _=X
  refine zkb (fun i hi hq=>bad fun h=>?_) fun h1=>zkb (fun i hi hq=>bad fun h=>?_) fun h2=>zkb (fun i hi hq=>bad fun h=>?_) fun h3=>(hiff.2 ⟨⟨hl.1,fun i hi=>?_⟩,⟨hl.2.1,fun i hi=>?_⟩,hl.2.2,fun i hi=>?_⟩).symm
  ·rw[t1,h.1.2 i hi]at hq;cases hq
  ·rw[t2,h.2.1.2 i hi]at hq;cases hq
  ·rw[t3,h.2.2.2 i hi]at hq;cases hq
  ·have:=h1 i hi;rw[t1]at this;simpa using this
  ·have:=h2 i hi;rw[t2]at this;simpa using this
  ·have:=h3 i hi;rw[t3]at this;simpa using this
 ·have:(!decide ((s.tracks.length:Int)=p.sections.length)||(!decide ((s.switches.length:Int)=p.points.length)||!decide ((s.locks.length:Int)=p.routes.length)))=true:=by
   rw[←Bool.not_eq_false]
   intro hf
   simp only[Bool.or_eq_false_iff,Bool.not_eq_false',decide_eq_true_eq]at hf
   exact hl ⟨by omega,by omega,by omega⟩
  rw[this,cond_true]
  exact bad fun h=>hl ⟨h.1.1,h.2.1.1,h.2.2.1⟩
end Go.Lev
namespace Go.Lev
open Go.Eng
theorem mayF_eq {p:Pln} {s:State} (ho:za3 p=true) (hpa:zaj p s=true):mayF s (zdy p s) (zd8 p s)=decide (zac p s=0):=by
 have hok:=(zaD ho).1
 have hpl:=zan hpa
 have hdr:∀ i,i<s.locks.length→∀ m∈zdy p s i,0≤m∧m≤99:=fun i hi m hm=>by
  have hr:nth p.routes i∈p.routes:=zab (by omega)
  have hwp:=zbo ((zaD ho).2.1 _ hr)
  have h1:m∈(nth p.routes i).path++(nth p.routes i).over:=by
   unfold zdy zbk at hm
   split at hm
   ·cases hm
   ·rw[hwp.1,hwp.2.1]at hm
    rcases List.mem_append.1 hm with h|h
    ·exact List.mem_append.2 (.inl (List.mem_of_mem_drop h))
    ·exact List.mem_append.2 (.inr h)
  obtain ⟨q,hq,e⟩:=(zcx hok hr).1 m h1
  have:=zdr hok hq
  omega
 have hdn:∀ i,i<s.locks.length→(zdy p s i).Nodup:=fun i hi=>by
  have hr:nth p.routes i∈p.routes:=zab (by omega)
  have hwp:=zbo ((zaD ho).2.1 _ hr)
  unfold zdy zbk
  split
  ·exact List.nodup_nil
  ·rw[hwp.1,hwp.2.1]
   exact (zcx hok hr).2.sublist ((List.drop_sublist _ _).append (List.Sublist.refl _))
 have har:∀ i,i<s.locks.length→∀ a∈zd8 p s i,(1≤a.pnt∧a.pnt≤99)∧(a.lie=1∨a.lie=2):=fun i hi a ha=>by
  have hr:nth p.routes i∈p.routes:=zab (by omega)
  have h1:a∈(zah p (nth p.routes i)).1.asks:=by
   unfold zd8 at ha
   have:=(List.mem_filter.1 ha).1
   unfold zbG at this
   split at this
   ·cases this
   ·exact this
  exact (zbi hok hr h1).2
 generalize hX:decide (zac p s=0)=X
 have hiff:X=true↔(∀ i j,i<s.locks.length→j<s.locks.length→i≠j→∀ m∈zdy p s i,m∉zdy p s j)∧∀ i,i<s.locks.length→∀ a∈zd8 p s i,zbs s a.pnt=a.lie:=by
  rw[←hX,decide_eq_true_eq,zcW]
  exact ⟨fun h=>h.2.2,fun h=>⟨ho,hpa,h⟩⟩
 have bad:¬((∀ i j,i<s.locks.length→j<s.locks.length→i≠j→∀ m∈zdy p s i,m∉zdy p s j)∧∀ i,i<s.locks.length→∀ a∈zd8 p s i,zbs s a.pnt=a.lie)→false=X:=fun h=>by
  cases X with
  |false=>rfl
  |true=>exact absurd (hiff.1 rfl) h
 unfold mayF
 refine zaU (·=X) (fun i (st:List Bool×List Int)=>(st.1.length=100∧st.2.length=100)∧(∀ m:Int,0≤m→m≤99→(nth st.1 m.toNat=true↔∃ j,j<i∧m∈zdy p s j))∧(∀ m:Int,0≤m→m≤99→nth st.2 m.toNat=0∨zbs s m=nth st.2 m.toNat) ∧
   (∀ j k,j<i→k<i→j≠k→∀ m∈zdy p s j,m∉zdy p s k)∧∀ j,j<i→∀ a∈zd8 p s j,zbs s a.pnt=a.lie) ?_ ?_ ?_
 ·refine ⟨⟨by simp,by simp⟩,fun m h1 h2=>?_,fun m h1 h2=>.inl (zdg _ _ _ (by omega)),fun j k hj=>by omega,fun j hj=>by omega⟩
  rw[zdg _ _ _ (by omega)]
  exact ⟨fun h=>(by cases h),fun ⟨j,hj,_⟩=>by omega⟩
 ·rintro i ⟨H,A⟩ za0 hi ⟨⟨hHl,hAl⟩,hH,hA,hap,hca⟩ hn
  dsimp only at hHl hAl hH hA ⊢
  refine zaU (·=X) (fun k (H:List Bool)=>H.length=100∧(∀ m:Int,0≤m→m≤99→(nth H m.toNat=true↔(∃ j,j<i∧m∈zdy p s j)∨∃ q,q<k∧nth (zdy p s i) q=m))∧∀ q,q<k→∀ j,j<i→nth (zdy p s i) q∉zdy p s j) ?_ ?_ ?_
  ·exact ⟨hHl,fun m h1 h2=>(hH m h1 h2).trans ⟨fun h=>.inl h,fun h=>h.elim id fun ⟨q,hq,_⟩=>by omega⟩,fun q hq=>by omega⟩
  ·rintro k H next2 hk ⟨hHl,hH,hno⟩ hn2
   have hm:=hdr i hi _ (zab hk)
   have hHk:=hH _ hm.1 hm.2
   cases hb:nth H (nth (zdy p s i) k).toNat with
   |true =>
    rw[cond_true]
    refine bad fun h=>?_
    rcases hHk.1 hb with ⟨j,hj,hmj⟩|⟨q,hq,e⟩
    ·exact h.1 i j hi (by omega) (by omega) _ (zab hk) hmj
    ·have:=zh5.1 (hdn i hi) k hk q hq
     exact this e
   |false =>
    rw[cond_false]
    refine hn2 _ ⟨by simpa using hHl,fun m h1 h2=>?_,fun q hq j hj=>?_⟩
    ·rw[zbe _ _ _ _ (by omega)]
     by_cases e:m=nth (zdy p s i) k
     ·subst e
      rw[if_pos rfl]
      exact ⟨fun _=>.inr ⟨k,by omega,rfl⟩,fun _=>rfl⟩
     ·rw[if_neg (by omega),hH m h1 h2]
      constructor
      ·rintro (h|⟨q,hq,eq⟩)
       ·exact .inl h
       ·exact .inr ⟨q,by omega,eq⟩
      ·rintro (h|⟨q,hq,eq⟩)
       ·exact .inl h
       ·rcases Nat.lt_or_ge q k with h3|h3
        ·exact .inr ⟨q,h3,eq⟩
        ·obtain rfl:q=k:=by omega
         exact absurd eq.symm e
    ·rcases Nat.lt_or_ge q k with h3|h3
     ·exact hno q h3 j hj
     ·obtain rfl:q=k:=by omega
      intro hmj
      have:=hHk.2 (.inl ⟨j,hj,hmj⟩)
      rw[hb]at this
      cases this
  ·rintro H ⟨hHl,hH,hno⟩
   refine zaU (·=X) (fun k (A:List Int)=>A.length=100∧(∀ m:Int,0≤m→m≤99→nth A m.toNat=0∨zbs s m=nth A m.toNat)∧∀ q,q<k→zbs s (nth (zd8 p s i) q).pnt=(nth (zd8 p s i) q).lie) ⟨hAl,hA,fun q hq=>by omega⟩ ?_ ?_
   ·rintro k A next3 hk ⟨hAl,hA,hcq⟩ hn3
    have hm:=har i hi _ (zab hk)
    by_cases hc:zbs s (nth (zd8 p s i) k).pnt=(nth (zd8 p s i) k).lie
    ·have hAk:=hA (nth (zd8 p s i) k).pnt (by omega) (by omega)
     have:(!decide (nth A (nth (zd8 p s i) k).pnt.toNat=0)&&!decide (nth A (nth (zd8 p s i) k).pnt.toNat=(nth (zd8 p s i) k).lie)||!decide (zbs s (nth (zd8 p s i) k).pnt=(nth (zd8 p s i) k).lie))=false:=by
      rcases hAk with h|h
      ·simp[h,hc]
      ·simp[←h,hc]
     rw[this,cond_false]
     refine hn3 _ ⟨by simpa using hAl,fun m h1 h2=>?_,fun q hq=>?_⟩
     ·rw[zbe _ _ _ _ (by omega)]
      by_cases e:m=(nth (zd8 p s i) k).pnt
      ·rw[if_pos (by rw[e]),e]
       exact .inr hc
      ·rw[if_neg (by omega)]
       exact hA m h1 h2
     ·rcases Nat.lt_or_ge q k with h3|h3
      ·exact hcq q h3
      ·obtain rfl:q=k:=by omega
       exact hc
    ·rw[decide_eq_false hc,Bool.not_false,Bool.or_true,cond_true]
     exact bad fun h=>hc (h.2 i hi _ (zab hk))
   ·rintro A ⟨hAl,hA,hcq⟩
    refine hn (H,A) ⟨⟨hHl,hAl⟩,fun m h1 h2=>?_,hA,fun j k hj hk hne m hm=>?_,fun j hj a ha=>?_⟩
    ·rw[hH m h1 h2]
     constructor
     ·rintro (⟨j,hj,h⟩|⟨q,hq,e⟩)
      ·exact ⟨j,by omega,h⟩
      ·exact ⟨i,by omega,by rw[←e];exact zab hq⟩
     ·rintro ⟨j,hj,h⟩
      rcases Nat.lt_or_ge j i with h3|h3
      ·exact .inl ⟨j,h3,h⟩
      ·obtain rfl:j=i:=by omega
       obtain ⟨q,hq,e⟩:=zbb h
       exact .inr ⟨q,hq,e⟩
    ·have hno2:∀ j,j<i→∀ m∈zdy p s i,m∉zdy p s j:=fun j hj m hm=>by
      obtain ⟨q,hq,rfl⟩:=zbb hm
      exact hno q hq j hj
     rcases Nat.lt_or_ge j i with h3|h3
     ·rcases Nat.lt_or_ge k i with h4|h4
      ·exact hap j k h3 h4 hne m hm
      ·obtain rfl:k=i:=by omega
       exact fun hm'=>hno2 j h3 m hm' hm
     ·obtain rfl:j=i:=by omega
      exact hno2 k (by omega) m hm
    ·rcases Nat.lt_or_ge j i with h3|h3
     ·exact hca j h3 a ha
     ·obtain rfl:j=i:=by omega
      obtain ⟨q,hq,rfl⟩:=zbb ha
      exact hcq q hq
 ·rintro st ⟨_,_,_,hap,hca⟩
  exact (hiff.2 ⟨hap,hca⟩).symm
end Go.Lev
namespace Go.Lev
open Go.Eng
set_option maxRecDepth 10000
set_option maxHeartbeats 4000000
variable {P:Program} {inv:Nat→Option Nat} {w0:World} {M:Nat→Prop}
theorem zp6 (hH:HasAll P inv) (p:Pln) (hp:Sm p) (s:State) (hs:SmS s) (hpa:∀ i,i<p.routes.length→(nth p.routes i).path.length≤1000000):PC P inv 304 [.agg p.c,.agg s.c] (·=.b (zaj p s)):=by
 have hl1:=hs.1
 have hl2:=hs.2.1
 have hl3:=hs.2.2
 have hp1:=hp.sec
 have hp2:=hp.pts
 have hp3:=hp.rte
 obtain ⟨X,hF⟩:∃ X,prtF p s=X:=⟨_,rfl⟩
 rw[←prtF_eq,hF]
 have cP:=fun (i:Nat) (hi:i<p.routes.length)=>zp5 hH (nth s.locks i) (nth p.routes i) (hpa i hi)
 clear hs hp
 unfold prtF trkB swtB lckB at hF
 refine PC.fn hH cd304 fun w0 M Q hM hE hQ hR=>?_;dsimp only[cd304,qm,ql,qf,qi,qb,qc,qp,qv,qN,qT,qF,qt]at hQ ⊢
 skip
 (repeat' first|refine zaa [0,1,2,3,4,5,6,7,8,33,38,62,67,103,108,143,145] fun K hK=>?_|(refine hK.go ?_;clear hK K)|with_reducible exact wT|refine wA ?_|(refine wE (fun h0 h=>?_) (fun h0 h=>?_)<;>first|exact wN h|((try replace hF:=wX hF);clear h0;first|exact hF.elim|((try subst (h:(_:Bool)=_));try replace hF:=wX hF)))|(refine wQ ?_;clear hQ hR hE hM)|fail)
 all_goals first|exact hF|(exfalso;contradiction)|(exfalso;omega)|skip
 refine zaJ hF fun Bd Ed hBd hEd hF=>?_;refine zai (ι:=Nat) [2,3,4,5] (fun z=>[(5,.n z)]) (fun _=>[]) (fun z=>z) (s.tracks.length) (fun z=>(zaB Bd Ed (s.tracks.length-z) z ()=X)) (0) ?_;rintro i ⟨hk,hF⟩;(try dsimp only at hk hF ⊢);rcases Nat.lt_or_ge i s.tracks.length with hlt|hge
 ·rw[zar hBd hlt]at hF;(try dsimp only at hF)
  (repeat' first|refine zaa [0,1,2,3,4,5,6,7,8,33,38,62,67,103,108,143,145] fun K hK=>?_|(refine hK.go ?_;clear hK K)|with_reducible exact wT|refine wA ?_|(refine wE (fun h0 h=>?_) (fun h0 h=>?_)<;>first|exact wN h|((try replace hF:=wX hF);clear h0;first|exact hF.elim|((try subst (h:(_:Bool)=_));try replace hF:=wX hF)))|(refine wQ ?_;clear hQ hR hE hM)|fail)
  all_goals first|exact hF|(exfalso;contradiction)|(exfalso;omega)|exact congrArg AV.b hF|exact nX (i+1)
 ·rw[zaI hge,hEd]at hF;(try dsimp only at hF)
  (repeat' first|refine zaa [0,1,2,3,4,5,6,7,8,33,38,62,67,103,108,143,145] fun K hK=>?_|(refine hK.go ?_;clear hK K)|with_reducible exact wT|refine wA ?_|(refine wE (fun h0 h=>?_) (fun h0 h=>?_)<;>first|exact wN h|((try replace hF:=wX hF);clear h0;first|exact hF.elim|((try subst (h:(_:Bool)=_));try replace hF:=wX hF)))|(refine wQ ?_;clear hQ hR hE hM)|fail)
  refine zaJ hF fun Bd Ed hBd hEd hF=>?_;refine zai (ι:=Nat) [2,3,4,6] (fun z=>[(6,.n z)]) (fun _=>[]) (fun z=>z) (s.switches.length) (fun z=>(zaB Bd Ed (s.switches.length-z) z ()=X)) (0) ?_;rintro i ⟨hk,hF⟩;(try dsimp only at hk hF ⊢);rcases Nat.lt_or_ge i s.switches.length with hlt|hge
  ·rw[zar hBd hlt]at hF;(try dsimp only at hF)
   (repeat' first|refine zaa [0,1,2,3,4,5,6,7,8,33,38,62,67,103,108,143,145] fun K hK=>?_|(refine hK.go ?_;clear hK K)|with_reducible exact wT|refine wA ?_|(refine wE (fun h0 h=>?_) (fun h0 h=>?_)<;>first|exact wN h|((try replace hF:=wX hF);clear h0;first|exact hF.elim|((try subst (h:(_:Bool)=_));try replace hF:=wX hF)))|(refine wQ ?_;clear hQ hR hE hM)|fail)
   all_goals first|exact hF|(exfalso;contradiction)|(exfalso;omega)|exact congrArg AV.b hF|exact nX (i+1)
  ·rw[zaI hge,hEd]at hF;(try dsimp only at hF)
   (repeat' first|refine zaa [0,1,2,3,4,5,6,7,8,33,38,62,67,103,108,143,145] fun K hK=>?_|(refine hK.go ?_;clear hK K)|with_reducible exact wT|refine wA ?_|(refine wE (fun h0 h=>?_) (fun h0 h=>?_)<;>first|exact wN h|((try replace hF:=wX hF);clear h0;first|exact hF.elim|((try subst (h:(_:Bool)=_));try replace hF:=wX hF)))|(refine wQ ?_;clear hQ hR hE hM)|fail)
   refine zaJ hF fun Bd Ed hBd hEd hF=>?_;refine zai (ι:=Nat) [2,3,4,8] (fun z=>[(8,.n z)]) (fun _=>[]) (fun z=>z) (s.locks.length) (fun z=>(zaB Bd Ed (s.locks.length-z) z ()=X)) (0) ?_;rintro i ⟨hk,hF⟩;(try dsimp only at hk hF ⊢);rcases Nat.lt_or_ge i s.locks.length with hlt|hge
   ·rw[zar hBd hlt]at hF;(try dsimp only at hF)
    have c1:=cP i (by omega)
    generalize zb3 (nth s.locks i) (nth p.routes i)=b at *
    (repeat' first|refine zaa [0,1,2,3,4,5,6,7,8,33,38,62,67,103,108,143,145] fun K hK=>?_|(refine hK.go ?_;clear hK K)|with_reducible exact wT|refine wA ?_|(refine wE (fun h0 h=>?_) (fun h0 h=>?_)<;>first|exact wN h|((try replace hF:=wX hF);clear h0;first|exact hF.elim|((try subst (h:(_:Bool)=_));try replace hF:=wX hF)))|(refine wQ ?_;clear hQ hR hE hM)|refine wC c1 ?_|fail)
    all_goals first|exact hF|(exfalso;contradiction)|(exfalso;omega)|exact congrArg AV.b hF|exact nX (i+1)
   ·rw[zaI hge,hEd]at hF;(try dsimp only at hF)
    (repeat' first|refine zaa [0,1,2,3,4,5,6,7,8,33,38,62,67,103,108,143,145] fun K hK=>?_|(refine hK.go ?_;clear hK K)|with_reducible exact wT|refine wA ?_|(refine wE (fun h0 h=>?_) (fun h0 h=>?_)<;>first|exact wN h|((try replace hF:=wX hF);clear h0;first|exact hF.elim|((try subst (h:(_:Bool)=_));try replace hF:=wX hF)))|(refine wQ ?_;clear hQ hR hE hM)|fail)
    all_goals first|exact hF|exact congrArg AV.b hF|trace_state
end Go.Lev
namespace Go.Lev
open Go.Eng
set_option maxRecDepth 10000
set_option maxHeartbeats 4000000
variable {P:Program} {inv:Nat→Option Nat} {w0:World} {M:Nat→Prop}
theorem zna {p:Pln} {s:State} (h:¬(za3 p=true∧zaj p s=true)):zmb p s=false:=by
 unfold zmb
 rw[decide_eq_false_iff_not]
 intro e
 have:=zae e
 exact h ⟨this.1,this.2.1⟩
theorem pth_len {p:Pln} (h:za3 p=true) (i:Nat) (hi:i<p.routes.length):(nth p.routes i).path.length≤1000000:=by
 have:=(zc0 (zaD h).1 (zab hi)).2.1
 omega
theorem zqk (hH:HasAll P inv) (p:Pln) (hp:Sm p) (s:State) (hs:SmS s):PC P inv 299 [.agg p.c,.agg s.c] (·=.b (zmb p s)):=by
 have c1:=zli hH p hp
 by_cases ho:za3 p=true
 ·have c2:=zp6 hH p hp s hs (pth_len ho)
  by_cases hpa:zaj p s=true
  ·have hok:=(zaD ho).1
   have hpl:=zan hpa
   have hl3:=hs.2.2
   have hl2:=hs.2.1
   have hl1:=hp.pts
   obtain ⟨X,hF⟩:∃ X,mayF s (zdy p s) (zd8 p s)=X:=⟨_,rfl⟩
   unfold zmb
   rw[←mayF_eq ho hpa,hF]
   have cH:∀ i,i<s.locks.length→PC P inv 302 [.agg p.c,.agg (nth s.locks i).c,.n i] (·=.sl 1 ((zdy p s i).map zck))∧(zdy p s i).length≤1000000∧∀ m∈zdy p s i,0≤m∧m≤99:=fun i hi=>by
    have hm:i<p.routes.length:=by omega
    have hwl:=zbI hok (zab hm)
    refine ⟨held_ref hH p hp ho hm (nth s.locks i), ?_,fun m hm2=>?_⟩
    ·unfold zdy zbk
     split
     ·simp
     ·rw[List.length_append,List.length_drop];omega
    ·have hwp:=zbo ((zaD ho).2.1 _ (zab hm))
     have h1:m∈(nth p.routes i).path++(nth p.routes i).over:=by
      unfold zdy zbk at hm2
      split at hm2
      ·cases hm2
      ·rw[hwp.1,hwp.2.1]at hm2
       rcases List.mem_append.1 hm2 with h|h
       ·exact List.mem_append.2 (.inl (List.mem_of_mem_drop h))
       ·exact List.mem_append.2 (.inr h)
     obtain ⟨q,hq,e⟩:=(zcx hok (zab hm)).1 m h1
     have:=zdr hok hq
     omega
   have cA:∀ i,i<s.locks.length→PC P inv 303 [.agg p.c,.agg (nth s.locks i).c,.n i] (·=.sl 3 ((zd8 p s i).map AskR.c))∧(zd8 p s i).length≤1000000∧∀ a∈zd8 p s i,(1≤a.pnt∧a.pnt≤99)∧∃ q:Nat,q<p.points.length∧q<s.switches.length∧PC P inv 294 [.agg p.c,.n a.pnt] (·=.n q)∧(nth s.switches q).call=zbs s a.pnt:=fun i hi=>by
    have hm:i<p.routes.length:=by omega
    have hwl:=zbI hok (zab hm)
    have hsub:∀ a∈zd8 p s i,a∈(zah p (nth p.routes i)).1.asks:=fun a ha=>by
     unfold zd8 at ha
     have:=(List.mem_filter.1 ha).1
     unfold zbG at this
     split at this
     ·cases this
     ·exact this
    refine ⟨asks_ref hH p hp ho hm (nth s.locks i), ?_,fun a ha=>?_⟩
    ·unfold zd8 zbG
     split
     ·simp
     ·have:=List.length_filter_le (zbV (nth s.locks i)) (zah p (nth p.routes i)).1.asks
      omega
    ·obtain ⟨⟨x,hx,ex⟩,h2,_⟩:=zbi hok (zab hm) (hsub a ha)
     refine ⟨h2, ?_⟩
     have c3:=znv hH p (by omega) a.pnt
     rcases zaP Pnt.id a.pnt p.points with ⟨_,h4⟩|⟨q,hq,h4,h5⟩
     ·exact absurd ex (h4 x hx)
     ·rw[h4]at c3
      refine ⟨q,hq,by omega,c3, ?_⟩
      have hsw:=zjI hpa (show q<s.switches.length by omega)
      rw[←h5,←hsw]
      exact (ziA hok hpa (zab (by omega))).symm
   rw[ho]at c1
   rw[hpa]at c2
   unfold mayF at hF
   obtain ⟨HH,hHH⟩:∃ HH,List.replicate 100 false=HH:=⟨_,rfl⟩
   obtain ⟨AA,hAA⟩:∃ AA,List.replicate 100 (0:Int)=AA:=⟨_,rfl⟩
   rw[hHH,hAA]at hF
   have r0:List.replicate 100 (AV.b false)=HH.map AV.b:=by rw[←hHH,List.map_replicate]
   have r1:List.replicate 100 (AV.i .i64 0)=AA.map AV.n:=by rw[←hAA,List.map_replicate]
   have lHH:HH.length=100:=by rw[←hHH,List.length_replicate]
   have lAA:AA.length=100:=by rw[←hAA,List.length_replicate]
   clear hHH hAA
   generalize zdy p s=hd at *
   generalize zd8 p s=as at *
   clear hpl hok hpa ho
   refine PC.fn hH cd299 fun w0 M Q hM hE hQ hR=>?_;dsimp only[cd299,qm,ql,qf,qi,qb,qc,qp,qv,qN,qT,qF,qt]at hQ ⊢
   skip
   (have hX:=zA @r0 (zA @r1 (zA @lHH @lAA));(repeat' first|refine zaa [0,1,2,3,4,5,6,7,8,9,10,11,12,21,26,36,40,48,61,65,99] fun K hK=>?_|(refine hK.go ?_;clear hK K)|with_reducible exact wT|refine wA ?_|(refine wE (fun h0 h=>?_) (fun h0 h=>?_)<;>first|exact wN h|((try replace hF:=wX hF);clear h0;first|exact hF.elim|((try subst (h:(_:Bool)=_));try replace hF:=wX hF)))|(refine wQ ?_;clear hQ hR hE hM)|refine wC c1 ?_|refine wC c2 ?_|fail);all_goals clear hX)
   all_goals first|(exfalso;contradiction)|skip
   refine zaJ hF fun Bd Ed hBd hEd hF=>?_
   refine zai (ι:=Nat×(List Bool)×(List Int)) [2,3,4,5,6,7] (fun z=>[(7,.n z.1)]) (fun z=>[(2,.cells (z.2.1.map AV.b) true),(3,.cells (z.2.2.map AV.n) true)]) (fun z=>z.1) (s.locks.length) (fun z=>(zaB Bd Ed (s.locks.length-z.1) z.1 (z.2.1,z.2.2)=X)∧(z.2.1.length=100)∧(z.2.2.length=100)) (0,HH,AA) ?_;rintro ⟨i,H,A⟩ ⟨hk,hF,hHl,hAl⟩;(try dsimp only at hk hF hHl hAl ⊢);rcases Nat.lt_or_ge i s.locks.length with hlt|hge
   ·rw[zar hBd hlt]at hF;(try dsimp only at hF)
    obtain ⟨d1,dl1,dr1⟩:=cH i hlt
    obtain ⟨d2,dl2,dr2⟩:=cA i hlt
    generalize hd i=hls at *
    generalize as i=als at *
    (have hX:=zA @hHl @hAl;(repeat' first|refine zaa [0,1,2,3,4,5,6,7,8,9,10,11,12,21,26,36,40,48,61,65,99] fun K hK=>?_|(refine hK.go ?_;clear hK K)|with_reducible exact wT|refine wA ?_|(refine wE (fun h0 h=>?_) (fun h0 h=>?_)<;>first|exact wN h|((try replace hF:=wX hF);clear h0;first|exact hF.elim|((try subst (h:(_:Bool)=_));try replace hF:=wX hF)))|(refine wQ ?_;clear hQ hR hE hM)|refine wC d1 ?_|fail);all_goals clear hX)
    refine zaJ hF fun Bd Ed hBd hEd hF=>?_
    refine zai (ι:=Nat×(List Bool)) [2,3,4,5,6,7,8,9] (fun z=>[(9,.n z.1)]) (fun z=>[(2,.cells (z.2.map AV.b) true)]) (fun z=>z.1) (hls.length) (fun z=>(zaB Bd Ed (hls.length-z.1) z.1 z.2=X)∧(z.2.length=100)) (0,H) ?_;rintro ⟨k,H⟩ ⟨hk,hF,hHl⟩;(try dsimp only at hk hF hHl ⊢);rcases Nat.lt_or_ge k hls.length with hlt|hge
    ·rw[zar hBd hlt]at hF;(try dsimp only at hF)
     have hb:=dr1 _ (zab (show k<hls.length by assumption))
     have hset:(H.map AV.b).set (nth hls k).toNat (.b true)=(H.set (nth hls k).toNat true).map AV.b:=by rw[List.map_set]
     cases hbk:nth H (nth hls k).toNat with
     |true =>
      rw[hbk,cond_true]at hF
      (have hX:=zA @hHl (zA @hAl @hbk);(repeat' first|refine zaa [0,1,2,3,4,5,6,7,8,9,10,11,12,21,26,36,40,48,61,65,99] fun K hK=>?_|(refine hK.go ?_;clear hK K)|with_reducible exact wT|refine wA ?_|(refine wE (fun h0 h=>?_) (fun h0 h=>?_)<;>first|exact wN h|((try replace hF:=wX hF);clear h0;first|exact hF.elim|((try subst (h:(_:Bool)=_));try replace hF:=wX hF)))|(refine wQ ?_;clear hQ hR hE hM)|fail);all_goals clear hX)
      all_goals first|exact hF|(exfalso;contradiction)|exact congrArg AV.b hF|trace_state
     |false =>
      rw[hbk,cond_false]at hF
      (have hX:=zA @hHl (zA @hAl (zA @hbk @hset));(repeat' first|refine zaa [0,1,2,3,4,5,6,7,8,9,10,11,12,21,26,36,40,48,61,65,99] fun K hK=>?_|(refine hK.go ?_;clear hK K)|with_reducible exact wT|refine wA ?_|(refine wE (fun h0 h=>?_) (fun h0 h=>?_)<;>first|exact wN h|((try replace hF:=wX hF);clear h0;first|exact hF.elim|((try subst (h:(_:Bool)=_));try replace hF:=wX hF)))|(refine wQ ?_;clear hQ hR hE hM)|fail);all_goals clear hX)
      all_goals first|(exfalso;contradiction)|(exact nY (k+1,H.set (nth hls k).toNat true) ⟨by (try dsimp only);omega,hF,by (try dsimp only);rw[List.length_set];exact hHl⟩;done)|trace_state
    ·rw[zaI hge,hEd]at hF;(try dsimp only at hF)
     (have hX:=zA @hHl @hAl;(repeat' first|refine zaa [0,1,2,3,4,5,6,7,8,9,10,11,12,21,26,36,40,48,61,65,99] fun K hK=>?_|(refine hK.go ?_;clear hK K)|with_reducible exact wT|refine wA ?_|(refine wE (fun h0 h=>?_) (fun h0 h=>?_)<;>first|exact wN h|((try replace hF:=wX hF);clear h0;first|exact hF.elim|((try subst (h:(_:Bool)=_));try replace hF:=wX hF)))|(refine wQ ?_;clear hQ hR hE hM)|refine wC d2 ?_|fail);all_goals clear hX)
     refine zaJ hF fun Bd Ed hBd hEd hF=>?_
     refine zai (ι:=Nat×(List Int)) [2,3,4,5,6,7,10,11] (fun z=>[(11,.n z.1)]) (fun z=>[(3,.cells (z.2.map AV.n) true)]) (fun z=>z.1) (als.length) (fun z=>(zaB Bd Ed (als.length-z.1) z.1 z.2=X)∧(z.2.length=100)) (0,A) ?_;rintro ⟨q,A⟩ ⟨hk,hF,hAl⟩;(try dsimp only at hk hF hAl ⊢);rcases Nat.lt_or_ge q als.length with hlt|hge
     ·rw[zar hBd hlt]at hF;(try dsimp only at hF)
      obtain ⟨hb,pl,hpl1,hpl2,d3,e3⟩:=dr2 _ (zab (show q<als.length by assumption))
      rw[←e3]at hF
      have hset:(A.map AV.n).set (nth als q).pnt.toNat (.n (nth als q).lie)=(A.set (nth als q).pnt.toNat (nth als q).lie).map AV.n:=by rw[List.map_set]
      clear e3
      (have hX:=zA @hHl (zA @hAl (zA @hset @Int.toNat_natCast));(repeat' first|refine zaa [0,1,2,3,4,5,6,7,8,9,10,11,12,21,26,36,40,48,61,65,99] fun K hK=>?_|(refine hK.go ?_;clear hK K)|with_reducible exact wT|refine wA ?_|(refine wE (fun h0 h=>?_) (fun h0 h=>?_)<;>first|exact wN h|((try replace hF:=wX hF);clear h0;first|exact hF.elim|((try subst (h:(_:Bool)=_));try replace hF:=wX hF)))|(refine wQ ?_;clear hQ hR hE hM)|refine wC d3 ?_|refine wU d3 ?_|fail);all_goals clear hX)
      all_goals first|exact hF|(exfalso;contradiction)|exact congrArg AV.b hF|(exact nY (q+1,A.set (nth als q).pnt.toNat (nth als q).lie) ⟨by (try dsimp only);omega,hF,by (try dsimp only);rw[List.length_set];exact hAl⟩;done)|trace_state
     ·rw[zaI hge,hEd]at hF;(try dsimp only at hF)
      (have hX:=zA @hHl @hAl;(repeat' first|refine zaa [0,1,2,3,4,5,6,7,8,9,10,11,12,21,26,36,40,48,61,65,99] fun K hK=>?_|(refine hK.go ?_;clear hK K)|with_reducible exact wT|refine wA ?_|(refine wE (fun h0 h=>?_) (fun h0 h=>?_)<;>first|exact wN h|((try replace hF:=wX hF);clear h0;first|exact hF.elim|((try subst (h:(_:Bool)=_));try replace hF:=wX hF)))|(refine wQ ?_;clear hQ hR hE hM)|fail);all_goals clear hX)
      all_goals first|(exact nY (i+1,H,A) ⟨by (try dsimp only);omega,hF,hHl,hAl⟩;done)|trace_state
   ·rw[zaI hge,hEd]at hF;(try dsimp only at hF)
    (repeat' first|refine zaa [0,1,2,3,4,5,6,7,8,9,10,11,12,21,26,36,40,48,61,65,99] fun K hK=>?_|(refine hK.go ?_;clear hK K)|with_reducible exact wT|refine wA ?_|(refine wE (fun h0 h=>?_) (fun h0 h=>?_)<;>first|exact wN h|((try replace hF:=wX hF);clear h0;first|exact hF.elim|((try subst (h:(_:Bool)=_));try replace hF:=wX hF)))|(refine wQ ?_;clear hQ hR hE hM)|fail)
    all_goals first|exact hF|exact congrArg AV.b hF|trace_state
  ·have hpa2:zaj p s=false:=by simpa using hpa
   rw[ho]at c1
   rw[hpa2]at c2
   rw[zna fun h=>hpa h.2]
   refine PC.fn hH cd299 fun w0 M Q hM hE hQ hR=>?_;dsimp only[cd299,qm,ql,qf,qi,qb,qc,qp,qv,qN,qT,qF,qt]at hQ ⊢
   (repeat' first|refine zaa [0,1,2,3,4,5,6,7,8,9,10,11,12,21,26,36,40,48,61,65,99] fun K hK=>?_|(refine hK.go ?_;clear hK K)|with_reducible exact wT|refine wA ?_|(refine wB (fun h=>?_) (fun h=>?_)<;>first|exact wN h|subst (h:(_:Bool)=_)|skip)|(refine wQ ?_;clear hQ hR hE hM)|refine wC c1 ?_|refine wC c2 ?_|fail)
   all_goals first|rfl|(exfalso;contradiction)|trace_state
 ·have ho2:za3 p=false:=by simpa using ho
  rw[ho2]at c1
  rw[zna fun h=>ho h.1]
  refine PC.fn hH cd299 fun w0 M Q hM hE hQ hR=>?_;dsimp only[cd299,qm,ql,qf,qi,qb,qc,qp,qv,qN,qT,qF,qt]at hQ ⊢
  (repeat' first|refine zaa [0,1,2,3,4,5,6,7,8,9,10,11,12,21,26,36,40,48,61,65,99] fun K hK=>?_|(refine hK.go ?_;clear hK K)|with_reducible exact wT|refine wA ?_|(refine wB (fun h=>?_) (fun h=>?_)<;>first|exact wN h|subst (h:(_:Bool)=_)|skip)|(refine wQ ?_;clear hQ hR hE hM)|refine wC c1 ?_|fail)
  all_goals first|rfl|(exfalso;contradiction)|trace_state
end Go.Lev
namespace Go.Lev
open Go.Eng
set_option maxRecDepth 10000
set_option maxHeartbeats 4000000
variable {P:Program} {inv:Nat→Option Nat} {w0:World} {M:Nat→Prop}
theorem zdY (hH:HasAll P inv) (p:Pln) (hp:Sm p) (s:State) (hs:SmS s):PC P inv 292 [.agg p.c,.agg s.c] (·=.n (zac p s)):=by
 have c1:=zli hH p hp
 have c2:=zqk hH p hp s hs
 have key:zac p s=if za3 p=true then (if zmb p s=true then 0 else 8) else 100:=by
  unfold zmb zac
  split
  ·split
   ·rfl
   ·rfl
  ·rfl
 rw[key]
 generalize za3 p=a at *
 generalize zmb p s=b at *
 clear key
 cases a with
 |true =>
  cases b with
  |true =>
   refine PC.fn hH cd292 fun w0 M Q hM hE hQ hR=>?_;dsimp only[cd292,qm,ql,qf,qi,qb,qc,qp,qv,qN,qT,qF,qt]at hQ ⊢
   (repeat' first|refine zaa [0,1,2,3,4,7,11] fun K hK=>?_|(refine hK.go ?_;clear hK K)|with_reducible exact wT|refine wA ?_|(refine wB (fun h=>?_) (fun h=>?_)<;>first|exact wN h|subst (h:(_:Bool)=_)|skip)|(refine wQ ?_;clear hQ hR hE hM)|refine wC c1 ?_|refine wC c2 ?_|fail)
   all_goals first|rfl|(exfalso;contradiction)|trace_state
  |false =>
   refine PC.fn hH cd292 fun w0 M Q hM hE hQ hR=>?_;dsimp only[cd292,qm,ql,qf,qi,qb,qc,qp,qv,qN,qT,qF,qt]at hQ ⊢
   (repeat' first|refine zaa [0,1,2,3,4,7,11] fun K hK=>?_|(refine hK.go ?_;clear hK K)|with_reducible exact wT|refine wA ?_|(refine wB (fun h=>?_) (fun h=>?_)<;>first|exact wN h|subst (h:(_:Bool)=_)|skip)|(refine wQ ?_;clear hQ hR hE hM)|refine wC c1 ?_|refine wC c2 ?_|fail)
   all_goals first|rfl|(exfalso;contradiction)|trace_state
 |false =>
  refine PC.fn hH cd292 fun w0 M Q hM hE hQ hR=>?_;dsimp only[cd292,qm,ql,qf,qi,qb,qc,qp,qv,qN,qT,qF,qt]at hQ ⊢
  (repeat' first|refine zaa [0,1,2,3,4,7,11] fun K hK=>?_|(refine hK.go ?_;clear hK K)|with_reducible exact wT|refine wA ?_|(refine wB (fun h=>?_) (fun h=>?_)<;>first|exact wN h|subst (h:(_:Bool)=_)|skip)|(refine wQ ?_;clear hQ hR hE hM)|refine wC c1 ?_|fail)
  all_goals first|rfl|(exfalso;contradiction)|trace_state
end Go.Lev
namespace Go.Lev
open Go.Eng
set_option maxRecDepth 10000
set_option maxHeartbeats 4000000
variable {P:Program} {inv:Nat→Option Nat} {w0:World} {M:Nat→Prop}
theorem is17_ref (hH:HasAll P inv) (p:Pln) (hp:Sm p) (s:State) (hs:SmS s) (hst:zac p s=0) {n:Int} (hn:isSec p n=true):PC P inv 335 [.agg p.c,.agg s.c,.n n] (·=.i .u8 (zdx s n)):=by
 have ho:=zap hst
 have hpa:=(zae hst).2.1
 have hpl:=zan hpa
 have c1:=secR_ref hH p (by have:=hp.sec;omega) n
 obtain ⟨x,hx,ex⟩:=List.any_eq_true.1 hn
 have ex:x.id=n:=by simpa using ex
 rcases zaP Section.id n p.sections with ⟨_,h4⟩|⟨k,hk,h4,h5⟩
 ·exact absurd ex (h4 x hx)
 ·rw[h4]at c1
  have hks:k<s.tracks.length:=by omega
  have h1:=(zbf _ _ _).1 (by simp only[zaj,Bool.and_eq_true]at hpa;exact hpa.1)
  have h2:=h1.2 k hks
  simp only[ze9,Bool.and_eq_true,decide_eq_true_eq]at h2
  have h3:=zkg ho hpa hks
  rw[h2.1,h5]at h3
  rw[h3]
  have hl1:=hs.1
  clear hst ho hpa hpl h1 h2 h3 h5 hn
  refine PC.fn hH cd335 fun w0 M Q hM hE hQ hR=>?_;dsimp only[cd335,qm,ql,qf,qi,qb,qc,qp,qv,qN,qT,qF,qt]at hQ ⊢
  (have hX:=@Int.toNat_natCast;(repeat' first|refine zaa [0,1,2,3,4,6] fun K hK=>?_|(refine hK.go ?_;clear hK K)|with_reducible exact wT|refine wA ?_|(refine wB (fun h=>?_) (fun h=>?_)<;>first|exact wN h|subst (h:(_:Bool)=_)|skip)|(refine wQ ?_;clear hQ hR hE hM)|refine wC c1 ?_|refine wU c1 ?_|fail);all_goals clear hX)
  all_goals first|rfl|(exfalso;omega)|trace_state
theorem zpH (hH:HasAll P inv) (s:State) (hs:SmS s):PO P inv 14 [.agg s.c] (stV s) (stR s):=by
 have h1:=hs.1
 have h2:=hs.2.1
 have h3:=hs.2.2
 unfold stV stR
 refine PO.fn hH cd14 fun w0 M Q hM hE hQ hR=>?_;dsimp only[cd14,qm,ql,qf,qi,qb,qc,qp,qv,qN,qT,qF,qt]at hQ ⊢
 (repeat' first|refine zaa [0,1,2,11] fun K hK=>?_|(refine hK.go ?_;clear hK K)|with_reducible exact wT|refine wA ?_|(refine wB (fun h=>?_) (fun h=>?_)<;>first|exact wN h|subst (h:(_:Bool)=_)|skip)|(refine wR ?_;clear hQ hR hE hM)|fail)
 left
 constructor
 ·(refine no_implicit_lambda% (st ?_);try with_reducible exact wT)
 ·(refine no_implicit_lambda% (st ?_);try with_reducible exact wT)
end Go.Lev
namespace Go.Lev
open Go.Eng
set_option maxRecDepth 10000
set_option maxHeartbeats 4000000
variable {P:Program} {inv:Nat→Option Nat} {w0:World} {M:Nat→Prop}
theorem znH {l:List Int} {k:Nat} (h:k<l.length):(l.map zck).flatten[k]?=some (.n (nth l k)):=by
 have:=zhg (c:=zck) (l:=l) (k:=k) (i:=0) h (by omega)
 rw[Nat.mul_one,Nat.add_zero]at this
 rw[this]
 rfl
theorem ask_ix (hH:HasAll P inv) {p:Pln} (hp:Sm p) {s:State} (hst:zac p s=0) {i:Nat} (hi:i<p.routes.length) {a:AskR} (ha:a∈za1 p i):∃ q:Nat,q<p.points.length∧q<s.switches.length∧PC P inv 294 [.agg p.c,.n a.pnt] (·=.n q)∧(nth s.switches q).call=zbs s a.pnt∧(nth s.switches q).id=a.pnt:=by
 have ho:=zap hst
 have hpa:=(zae hst).2.1
 have hpl:=zan hpa
 obtain ⟨⟨x,hx,ex⟩,_⟩:=zbi ho (zab hi) ha
 have c3:=znv hH p (by have:=hp.pts;omega) a.pnt
 rcases zaP Pnt.id a.pnt p.points with ⟨_,h4⟩|⟨q,hq,h4,h5⟩
 ·exact absurd ex (h4 x hx)
 ·rw[h4]at c3
  have hsw:=zjI hpa (show q<s.switches.length by omega)
  exact ⟨q,hq,by omega,c3,by rw[←h5,←hsw];exact (ziA ho hpa (zab (by omega))).symm,by rw[hsw,h5]⟩
end Go.Lev
namespace Go.Lev
open Go.Eng
theorem zka {R:Type} {n:Nat} {q:Nat→Bool} {r:R} {fin:Unit→R}:zaB (fun k _ za0=>cond (q k) r (za0 ())) fin n 0 ()=cond ((List.range n).any q) r (fin ()):=by
 generalize hX:cond ((List.range n).any q) r (fin ())=X
 refine zaU (·=X) (fun k _=>(List.range k).any q=false) rfl ?_ ?_
 ·intro k _ za0 hk hI hn
  cases hq:q k with
  |true =>
   have:(List.range n).any q=true:=List.any_eq_true.2 ⟨k,List.mem_range.2 hk,hq⟩
   rw[this]at hX
   exact hX
  |false =>
   refine hn () ?_
   rw[List.range_succ,List.any_append,hI]
   simp[hq]
 ·intro _ hI
  rw[hI]at hX
  exact hX
theorem zhQ {α:Type} [Inhabited α] (f:α→Bool) (l:List α):((List.range l.length).any fun k=>f (nth l k))=l.any f:=by
 rw[Bool.eq_iff_iff,List.any_eq_true,List.any_eq_true]
 constructor
 ·rintro ⟨k,hk,e⟩;exact ⟨_,zab (List.mem_range.1 hk),e⟩
 ·rintro ⟨x,hx,e⟩
  obtain ⟨k,hk,rfl⟩:=zbb hx
  exact ⟨k,List.mem_range.2 hk,e⟩
theorem rpvF_eq {p:Pln} {s:State} (h:zac p s=0) {i:Nat} (hi:i<p.routes.length) (hph:(nth s.locks i).phase=1) {L:AskR→Int} (hL:∀ a∈za1 p i,zpd s a=decide (L a=a.lie)) :
  rpvF s (zah p (nth p.routes i)).1.path (zah p (nth p.routes i)).1.over (za1 p i) L=zaS p s (nth p.routes i):=by
 have ho:=zap h
 have hpa:=(zae h).2.1
 have hpl:=zan hpa
 have hset:zmk s (nth p.routes i).id=true:=by
  rw[rt_id hpa (by omega)]
  exact (znj h (by omega)).2 hph
 have e1:∀ l:List Int,(l.any fun m=>!frT s m)=l.any fun x=>!decide (zdx s x=0):=fun l=>by
  congr 1;funext m;rw[zjp ho hpa]
 have e2:((zah p (nth p.routes i)).1.asks.any fun a=>!zpd s a)=(za1 p i).any fun a=>!decide (L a=a.lie):=by
  rw[Bool.eq_iff_iff,List.any_eq_true,List.any_eq_true]
  constructor
  ·rintro ⟨a,ha,e⟩;exact ⟨a,ha,by rw[←hL a ha];exact e⟩
  ·rintro ⟨a,ha,e⟩;exact ⟨a,ha,by rw[hL a ha];exact e⟩
 unfold rpvF zaS zhU
 rw[hset,e1,e1,e2,zka,zka,zka,zhQ (fun x=>!decide (zdx s x=0)),zhQ (fun x=>!decide (zdx s x=0)),zhQ (fun a:AskR=>!decide (L a=a.lie))]
 cases (zah p (nth p.routes i)).1.path.any fun x=>!decide (zdx s x=0)<;>cases (zah p (nth p.routes i)).1.over.any fun x=>!decide (zdx s x=0)<;>cases (za1 p i).any fun a=>!decide (L a=a.lie)<;>rfl
theorem prv_ph {p:Pln} {s:State} (h:zac p s=0) {i:Nat} (hi:i<p.routes.length) (hph:¬(nth s.locks i).phase=1):zaS p s (nth p.routes i)=false:=by
 cases e:zaS p s (nth p.routes i) with
 |false=>rfl
 |true=>exact absurd ((zdQ h hi).1 e).ph hph
end Go.Lev
