/-
  A part of the engine that walks the functions' codes, and of the functions' contracts. Conditions: those that each theorem names.
-/
import Derived.Test.YtibpmipffibbpaaGreatV8
import Derived.IntWalk
set_option linter.unusedSimpArgs false
set_option linter.unusedVariables false
set_option linter.unusedSectionVars false
namespace Go.Lev
open Go.Eng
set_option maxRecDepth 10000
set_option maxHeartbeats 4000000
variable {P:Program} {inv:Nat->Option Nat} {w0:World} {M:Nat->Prop}
theorem zp0 (hH:HasAll P inv) (p:Pln) (hp:Sm p) (h:zcg p.sections=true) (hg:SgsP p) (r:Rte) (hr:r.path.length<=9223372036854775807/\r.over.length<=9223372036854775807/\r.flanks.length<=9223372036854775807):PC P inv 307 [.agg p.c,.agg r.c] (·=.b (zcR p r (ends p.sections))):=by
 have hl1:=hp.sec
 have hl2:=hp.sgn
 have hl3:=hp.pts
 have c1:=zfJ hH p.signals (by omega) r.entry
 have c2:=zfJ hH p.signals (by omega) r.exit
 have cA:=fun n=>zl2 hH p.sections n (by omega)
 have cK:=fun n=>zqf hH p.points (by omega) n
 obtain ⟨X,hF⟩:∃ X,rrF p r (za3 (fun x=>decide (Sgn.id x=r.entry)) 0 p.signals) (za3 (fun x=>decide (Sgn.id x=r.exit)) 0 p.signals) (r.path++r.over)=X:=⟨_,rfl⟩
 rw[<-rrF_eq h hg r,hF]
 have hb:za3 (fun x=>decide (Sgn.id x=r.entry)) 0 p.signals=-1\/(0<=za3 (fun x=>decide (Sgn.id x=r.entry)) 0 p.signals/\za3 (fun x=>decide (Sgn.id x=r.entry)) 0 p.signals<p.signals.length):=by
  rcases zat Sgn.id r.entry p.signals with ⟨e,_⟩|⟨k,hk,e,_⟩
  ·exact .inl e
  ·exact .inr ⟨by omega,by omega⟩
 generalize za3 (fun x=>decide (Sgn.id x=r.entry)) 0 p.signals=k0 at *
 generalize za3 (fun x=>decide (Sgn.id x=r.exit)) 0 p.signals=kx at *
 clear h hg
 by_cases hT2:rrT2 r=true
 ·unfold rrF at hF
  rw[hT2,cond_true]at hF
  have hXX:X=false:=by rw[<-hF];cases rrT1 p r k0 kx<;>rfl
  subst hXX
  clear hF
  unfold rrT2 at hT2
  simp only[Bool.or_eq_true,decide_eq_true_eq]at hT2
  refine PC.fn hH cd307 fun w0 M Q hM hE hQ hR=>?_;dsimp only[cd307,qm,ql,qf,qi,qb,qc,qp,qv,qN,qT,qF,qt]at hQ |-
  (repeat' first|refine zaa [0,1,2,3,4,5,6,7,8,9,10,48,80,86,95,109,112,123,128,140,167] fun K hK=>?_|(refine hK.go ?_;clear hK K)|with_reducible exact wT|refine wA ?_|(refine wB (fun h=>?_) (fun h=>?_)<;>first|exact wN h|subst (h:(_:Bool)=_)|skip)|(refine wQ ?_;clear hQ hR hE hM)|refine wC c1 ?_|refine wC c2 ?_|fail)
  all_goals first|rfl|(exfalso;contradiction)|(exfalso;omega)
 have hT2':=hT2
 unfold rrT2 at hT2'
 simp only[Bool.or_eq_true,decide_eq_true_eq,not_or]at hT2'
 have c3:=zj4 hH r (by omega) (by omega)
 have hall:(r.path++r.over).length<=2000:=by rw[List.length_append];omega
 generalize r.path++r.over=all at *
 clear hT2 hT2'
 unfold rrF rrT1 rrT2 rrS rrK at hF
 refine PC.fn hH cd307 fun w0 M Q hM hE hQ hR=>?_;dsimp only[cd307,qm,ql,qf,qi,qb,qc,qp,qv,qN,qT,qF,qt]at hQ |-
 skip
 (repeat' first|refine zaa [0,1,2,3,4,5,6,7,8,9,10,48,80,86,95,109,112,123,128,140,167] fun K hK=>?_|(refine hK.go ?_;clear hK K)|with_reducible exact wT|refine wA ?_|(refine wE (fun h0 h=>?_) (fun h0 h=>?_)<;>first|exact wN h|((try replace hF:=wX hF);clear h0;first|exact hF.elim|((try subst (h:(_:Bool)=_));try replace hF:=wX hF)))|(refine wQ ?_;clear hQ hR hE hM)|refine wC c1 ?_|refine wC c2 ?_|refine wC c3 ?_|fail)
 all_goals first|exact hF|(exfalso;contradiction)|skip
 all_goals
  refine zaR hF fun Bd Ed hBd hEd hF=>?_;refine zam (ι:=Nat) [2,3,4,5,6,7] (fun z=>[(7,.n z)]) (fun _=>[]) (fun z=>z) (all.length) (fun z=>(zaL Bd Ed (all.length-z) z ()=X)) (0) ?_;rintro i ⟨hk,hF⟩;(try dsimp only at hk hF |-);rcases Nat.lt_or_ge i all.length with hlt|hge
  ·rw[zav hBd hlt]at hF;(try dsimp only at hF)
   have c4:=cA (nth all i)
   generalize zdR (nth all i) 0 p.sections=a at *
   (repeat' first|refine zaa [0,1,2,3,4,5,6,7,8,9,10,48,80,86,95,109,112,123,128,140,167] fun K hK=>?_|(refine hK.go ?_;clear hK K)|with_reducible exact wT|refine wA ?_|(refine wE (fun h0 h=>?_) (fun h0 h=>?_)<;>first|exact wN h|((try replace hF:=wX hF);clear h0;first|exact hF.elim|((try subst (h:(_:Bool)=_));try replace hF:=wX hF)))|(refine wQ ?_;clear hQ hR hE hM)|refine wC c4 ?_|fail)
   all_goals first|exact hF|(exfalso;contradiction)|skip
   refine zaR hF fun Bd Ed hBd hEd hF=>?_;refine zam (ι:=Nat) [2,3,4,5,6,7,8] (fun z=>[(8,.n z)]) (fun _=>[]) (fun z=>z) (i) (fun z=>(zaL Bd Ed (i-z) z ()=X)) (0) ?_;rintro m ⟨hk,hF⟩;(try dsimp only at hk hF |-);rcases Nat.lt_or_ge m i with hlt|hge
   ·rw[zav hBd hlt]at hF;(try dsimp only at hF)
    (repeat' first|refine zaa [0,1,2,3,4,5,6,7,8,9,10,48,80,86,95,109,112,123,128,140,167] fun K hK=>?_|(refine hK.go ?_;clear hK K)|with_reducible exact wT|refine wA ?_|(refine wE (fun h0 h=>?_) (fun h0 h=>?_)<;>first|exact wN h|((try replace hF:=wX hF);clear h0;first|exact hF.elim|((try subst (h:(_:Bool)=_));try replace hF:=wX hF)))|(refine wQ ?_;clear hQ hR hE hM)|fail)
    all_goals first|exact hF|(exfalso;contradiction)|exact nX (m+1)
   ·rw[zaQ hge,hEd]at hF;(try dsimp only at hF)
    (repeat' first|refine zaa [0,1,2,3,4,5,6,7,8,9,10,48,80,86,95,109,112,123,128,140,167] fun K hK=>?_|(refine hK.go ?_;clear hK K)|with_reducible exact wT|refine wA ?_|(refine wE (fun h0 h=>?_) (fun h0 h=>?_)<;>first|exact wN h|((try replace hF:=wX hF);clear h0;first|exact hF.elim|((try subst (h:(_:Bool)=_));try replace hF:=wX hF)))|(refine wQ ?_;clear hQ hR hE hM)|fail)
    all_goals exact nX (i+1)
  ·rw[zaQ hge,hEd]at hF;(try dsimp only at hF)
   (repeat' first|refine zaa [0,1,2,3,4,5,6,7,8,9,10,48,80,86,95,109,112,123,128,140,167] fun K hK=>?_|(refine hK.go ?_;clear hK K)|with_reducible exact wT|refine wA ?_|(refine wE (fun h0 h=>?_) (fun h0 h=>?_)<;>first|exact wN h|((try replace hF:=wX hF);clear h0;first|exact hF.elim|((try subst (h:(_:Bool)=_));try replace hF:=wX hF)))|(refine wQ ?_;clear hQ hR hE hM)|fail)
   refine zaR hF fun Bd Ed hBd hEd hF=>?_;refine zam (ι:=Nat) [2,3,4,9] (fun z=>[(9,.n z)]) (fun _=>[]) (fun z=>z) (r.flanks.length) (fun z=>(zaL Bd Ed (r.flanks.length-z) z ()=X)) (0) ?_;rintro i ⟨hk,hF⟩;(try dsimp only at hk hF |-);rcases Nat.lt_or_ge i r.flanks.length with hlt|hge
   ·rw[zav hBd hlt]at hF;(try dsimp only at hF)
    have c5:=cK (nth r.flanks i).pnt
    generalize za3 (fun x=>decide (Pnt.id x=(nth r.flanks i).pnt)) 0 p.points=a at *
    have hi1:((i:Int)-1).toNat=i-1:=by omega
    (have hX:=@hi1;(repeat' first|refine zaa [0,1,2,3,4,5,6,7,8,9,10,48,80,86,95,109,112,123,128,140,167] fun K hK=>?_|(refine hK.go ?_;clear hK K)|with_reducible exact wT|refine wA ?_|(refine wE (fun h0 h=>?_) (fun h0 h=>?_)<;>first|exact wN h|((try replace hF:=wX hF);clear h0;first|exact hF.elim|((try subst (h:(_:Bool)=_));try replace hF:=wX hF)))|(refine wQ ?_;clear hQ hR hE hM)|refine wC c5 ?_|fail);all_goals clear hX)
    all_goals first|exact hF|(exfalso;contradiction)|exact nX (i+1)
   ·rw[zaQ hge,hEd]at hF;(try dsimp only at hF)
    (repeat' first|refine zaa [0,1,2,3,4,5,6,7,8,9,10,48,80,86,95,109,112,123,128,140,167] fun K hK=>?_|(refine hK.go ?_;clear hK K)|with_reducible exact wT|refine wA ?_|(refine wE (fun h0 h=>?_) (fun h0 h=>?_)<;>first|exact wN h|((try replace hF:=wX hF);clear h0;first|exact hF.elim|((try subst (h:(_:Bool)=_));try replace hF:=wX hF)))|(refine wQ ?_;clear hQ hR hE hM)|fail)
    all_goals first|exact hF|exact congrArg AV.b hF|(rw[<-hF];done)
theorem rmay_pc2 (hH:HasAll P inv) (l:List Section) (hl:l.length<=1000000000) (he:∀ s∈l,s.ends.length<=9223372036854775807):PC P inv 48 [.sl 3 (l.map Section.c)] (·=.b (zcg l)):=by
 refine PC.fn hH cd48 fun w0 M Q hM hE hQ hR=>?_;dsimp only[cd48,qm,ql,qf,qi,qb,qc,qp,qv,qN,qT,qF,qt]at hQ |-
 (repeat' first|refine zaa [0,2,3,4,5,6,7,10,14,33,36,61,65,75,85] fun K hK=>?_|(refine hK.go ?_;clear hK K)|with_reducible exact wT|refine wA ?_|(refine wB (fun h=>?_) (fun h=>?_)<;>first|exact wN h|subst (h:(_:Bool)=_)|skip)|(refine wQ ?_;clear hQ hR hE hM)|fail)
 ·simp[zcg,h]
 refine zci (fun k=>[(0,.sl 3 (l.map Section.c)),(3,.n k)]) (fun k=>[]) (l.length) (fun k=>zhc (l.take k) (l.drop k)=zhc [] l) ?_;rintro k ⟨hk,hg⟩;rcases Nat.lt_or_ge k l.length with hlt|hge
 ·rw[zaf hlt]at hg
  rw[zhc,zhA hlt]at hg
  have hs:=he _ (zab hlt)
  (repeat' first|refine zaa [0,2,3,4,5,6,7,10,14,33,36,61,65,75,85] fun K hK=>?_|(refine hK.go ?_;clear hK K)|with_reducible exact wT|refine wA ?_|(refine wB (fun h=>?_) (fun h=>?_)<;>first|exact wN h|subst (h:(_:Bool)=_)|skip)|(refine wQ ?_;clear hQ hR hE hM)|(refine zay hM (zoy hH _) ?_;try refine wD ?_)|fail)
  iterate 3 (grind[zcg,rOk])
  have h1:¬(nth l k).id<1:=by assumption
  have h2:¬99<(nth l k).id:=by assumption
  have h3:zbD (nth l k)=true:=by assumption
  refine zc0 (fun j:Nat=>[(0,.sl 3 (l.map Section.c)),(3,.n k),(4,.ptr 0 3 0),(5,.n j)]) (fun _=>[(0,.cells (nth l k).c true)]) (fun j=>j<=k/\((l.take k).drop j).all (fun x=>!zjk (nth l k) x)=(l.take k).all fun x=>!zjk (nth l k) x) (fun j=>k-j) 0 ⟨Nat.zero_le _,rfl⟩ (by (try dsimp only);(refine wD ?_;try with_reducible exact wT)<;>omega) (by (try dsimp only);(refine wD ?_;try with_reducible exact wT)<;>omega) ?_
  rintro j ⟨hj,hi⟩
  have hkl:(l.take k).length=k:=by simp;omega
  rcases Nat.lt_or_ge j k with hjk|hjk
  ·rw[zaf (by omega),List.all_cons,zjS hjk]at hi
   have hs:=he _ (zab (Nat.lt_trans hjk hlt))
   (repeat' first|refine zaa [0,2,3,4,5,6,7,10,14,33,36,61,65,75,85] fun K hK=>?_|(refine hK.go ?_;clear hK K)|with_reducible exact wT|refine wA ?_|(refine wB (fun h=>?_) (fun h=>?_)<;>first|exact wN h|subst (h:(_:Bool)=_)|skip)|(refine wQ ?_;clear hQ hR hE hM)|fail)
   all_goals (first|(refine ⟨j+1,by omega,⟨by omega,by grind[zcg,rOk,zjk]⟩,(by (try dsimp only);(first|omega|(simp;done)|(simp;omega)))⟩)|(grind[zcg,rOk,zjk]))
  ·rw[List.drop_eq_nil_of_le (by omega),List.all_nil]at hi
   (repeat' first|refine zaa [0,2,3,4,5,6,7,10,14,33,36,61,65,75,85] fun K hK=>?_|(refine hK.go ?_;clear hK K)|with_reducible exact wT|refine wA ?_|(refine wB (fun h=>?_) (fun h=>?_)<;>first|exact wN h|subst (h:(_:Bool)=_)|skip)|(refine wQ ?_;clear hQ hR hE hM)|fail)
   all_goals (first|(refine ⟨k+1,by omega,⟨by omega,by grind[zcg,rOk]⟩,(by (try dsimp only);(first|omega|(simp;done)|(simp;omega)))⟩)|(grind[zcg,rOk]))
 ·rw[List.drop_eq_nil_of_le hge,zhc]at hg
  (repeat' first|refine zaa [0,2,3,4,5,6,7,10,14,33,36,61,65,75,85] fun K hK=>?_|(refine hK.go ?_;clear hK K)|with_reducible exact wT|refine wA ?_|(refine wB (fun h=>?_) (fun h=>?_)<;>first|exact wN h|subst (h:(_:Bool)=_)|skip)|(refine wQ ?_;clear hQ hR hE hM)|fail)
  refine zci (fun k=>[(0,.sl 3 (l.map Section.c)),(6,.n k)]) (fun k=>[]) (l.length) (fun k=>(l.drop k).all (fun s=>zbW (zcD l s) 0 s.ends.length)=zoF l) ?_;rintro k ⟨hk,hg⟩;rcases Nat.lt_or_ge k l.length with hlt|hge
  ·rw[zaf hlt]at hg
   rw[List.all_cons]at hg
   have hs:=he _ (zab hlt)
   (repeat' first|refine zaa [0,2,3,4,5,6,7,10,14,33,36,61,65,75,85] fun K hK=>?_|(refine hK.go ?_;clear hK K)|with_reducible exact wT|refine wA ?_|(refine wB (fun h=>?_) (fun h=>?_)<;>first|exact wN h|subst (h:(_:Bool)=_)|skip)|(refine wQ ?_;clear hQ hR hE hM)|fail)
   refine zc0 (fun j:Nat=>[(0,.sl 3 (l.map Section.c)),(6,.n k),(7,.n j)]) (fun _=>[]) (fun j=>j<=(nth l k).ends.length/\zbW (zcD l (nth l k)) j ((nth l k).ends.length-j)=zbW (zcD l (nth l k)) 0 (nth l k).ends.length) (fun j=>(nth l k).ends.length-j) 0 ⟨Nat.zero_le _,rfl⟩ (by (try dsimp only);(refine wD ?_;try with_reducible exact wT)<;>omega) (by (try dsimp only);(refine wD ?_;try with_reducible exact wT)<;>omega) ?_
   rintro j ⟨hj,hi⟩
   rcases Nat.lt_or_ge j (nth l k).ends.length with hjk|hjk
   ·rw[zg6 hjk]at hi
    (repeat' first|refine zaa [0,2,3,4,5,6,7,10,14,33,36,61,65,75,85] fun K hK=>?_|(refine hK.go ?_;clear hK K)|with_reducible exact wT|refine wA ?_|(refine wB (fun h=>?_) (fun h=>?_)<;>first|exact wN h|subst (h:(_:Bool)=_)|skip)|(refine wQ ?_;clear hQ hR hE hM)|refine wC (zoA hH l (nth l k) j hjk hl) ?_|fail)
    all_goals (first|(refine ⟨j+1,by omega,⟨by omega,by grind[zcg]⟩,(by (try dsimp only);(first|omega|(simp;done)|(simp;omega)))⟩)|(grind[zcg]))
   ·rw[ziV hjk]at hi
    (repeat' first|refine zaa [0,2,3,4,5,6,7,10,14,33,36,61,65,75,85] fun K hK=>?_|(refine hK.go ?_;clear hK K)|with_reducible exact wT|refine wA ?_|(refine wB (fun h=>?_) (fun h=>?_)<;>first|exact wN h|subst (h:(_:Bool)=_)|skip)|(refine wQ ?_;clear hQ hR hE hM)|fail)
    all_goals (first|(refine ⟨k+1,by omega,⟨by omega,by grind[zcg]⟩,(by (try dsimp only);(first|omega|(simp;done)|(simp;omega)))⟩)|(grind[zcg]))
  ·rw[List.drop_eq_nil_of_le hge,List.all_nil]at hg
   (repeat' first|refine zaa [0,2,3,4,5,6,7,10,14,33,36,61,65,75,85] fun K hK=>?_|(refine hK.go ?_;clear hK K)|with_reducible exact wT|refine wA ?_|(refine wB (fun h=>?_) (fun h=>?_)<;>first|exact wN h|subst (h:(_:Bool)=_)|skip)|(refine wQ ?_;clear hQ hR hE hM)|fail)
   all_goals (first|rfl|(grind[zcg])|(simp[zcg, *];done)|(simp_all [zcg];done)|(simp_all [zcg]<;>first|omega|((repeat' split)<;>first|rfl|(exfalso;omega))))
theorem may_ref (hH:HasAll P inv) (p:Pln) (hp:Sm p):PC P inv 300 [.agg p.c] (·=.b (zb1 p)):=by
 have hl1:=hp.sec
 have hl2:=hp.rte
 have c1:=rmay_pc2 hH p.sections (by omega) hp.ends
 obtain ⟨X,hF⟩:∃ X,rmF p (zcg p.sections) (points p) (signals p (ends p.sections)) (fun r=>zcR p r (ends p.sections))=X:=⟨_,rfl⟩
 rw[<-rmF_eq p,hF]
 by_cases hm:zcg p.sections=true
 ·have c2:=zoH hH p hp hm
  have c3:=zmk hH p hp hm
  rw[hm]at c1 hF
  by_cases hs:signals p (ends p.sections)=true
  ·have c4:∀ i,i<p.routes.length->PC P inv 307 [.agg p.c,.agg (nth p.routes i).c] (·=.b (zcR p (nth p.routes i) (ends p.sections))):=fun i hi=>zp0 hH p hp hm ((zfG hm).1 hs) (nth p.routes i) (hp.rtes _ (zab hi))
   rw[hs]at c3 hF
   generalize points p=pts at *
   clear hm hs
   unfold rmF rmT rmR at hF
   generalize hrt:(fun r=>zcR p r (ends p.sections))=rt at hF
   replace c4:∀ i,i<p.routes.length->PC P inv 307 [.agg p.c,.agg (nth p.routes i).c] (·=.b (rt (nth p.routes i))):=by subst hrt;exact c4
   clear hrt
   refine PC.fn hH cd300 fun w0 M Q hM hE hQ hR=>?_;dsimp only[cd300,qm,ql,qf,qi,qb,qc,qp,qv,qN,qT,qF,qt]at hQ |-
   skip
   (repeat' first|refine zaa [0,1,2,3,4,30,44,49,84,86] fun K hK=>?_|(refine hK.go ?_;clear hK K)|with_reducible exact wT|refine wA ?_|(refine wE (fun h0 h=>?_) (fun h0 h=>?_)<;>first|exact wN h|((try replace hF:=wX hF);clear h0;first|exact hF.elim|((try subst (h:(_:Bool)=_));try replace hF:=wX hF)))|(refine wQ ?_;clear hQ hR hE hM)|refine wC c1 ?_|refine wC c2 ?_|refine wC c3 ?_|fail)
   all_goals first|exact hF|(exfalso;contradiction)|skip
   refine zaR hF fun Bd Ed hBd hEd hF=>?_;refine zam (ι:=Nat) [1,2,3] (fun z=>[(3,.n z)]) (fun _=>[]) (fun z=>z) (p.routes.length) (fun z=>(zaL Bd Ed (p.routes.length-z) z ()=X)) (0) ?_;rintro i ⟨hk,hF⟩;(try dsimp only at hk hF |-);rcases Nat.lt_or_ge i p.routes.length with hlt|hge
   ·rw[zav hBd hlt]at hF;(try dsimp only at hF)
    have c5:=c4 i (by assumption)
    have hi1:((i:Int)-1).toNat=i-1:=by omega
    generalize rt (nth p.routes i)=b at *
    (have hX:=@hi1;(repeat' first|refine zaa [0,1,2,3,4,30,44,49,84,86] fun K hK=>?_|(refine hK.go ?_;clear hK K)|with_reducible exact wT|refine wA ?_|(refine wE (fun h0 h=>?_) (fun h0 h=>?_)<;>first|exact wN h|((try replace hF:=wX hF);clear h0;first|exact hF.elim|((try subst (h:(_:Bool)=_));try replace hF:=wX hF)))|(refine wQ ?_;clear hQ hR hE hM)|refine wC c5 ?_|fail);all_goals clear hX)
    all_goals first|exact hF|(exfalso;contradiction)|exact nX (i+1)
   ·rw[zaQ hge,hEd]at hF;(try dsimp only at hF)
    (repeat' first|refine zaa [0,1,2,3,4,30,44,49,84,86] fun K hK=>?_|(refine hK.go ?_;clear hK K)|with_reducible exact wT|refine wA ?_|(refine wE (fun h0 h=>?_) (fun h0 h=>?_)<;>first|exact wN h|((try replace hF:=wX hF);clear h0;first|exact hF.elim|((try subst (h:(_:Bool)=_));try replace hF:=wX hF)))|(refine wQ ?_;clear hQ hR hE hM)|fail)
    all_goals first|exact hF|exact congrArg AV.b hF|(rw[<-hF];done)
  ·have hs:signals p (ends p.sections)=false:=by simpa using hs
   rw[hs]at c3 hF
   generalize points p=pts at *
   unfold rmF rmT at hF
   refine PC.fn hH cd300 fun w0 M Q hM hE hQ hR=>?_;dsimp only[cd300,qm,ql,qf,qi,qb,qc,qp,qv,qN,qT,qF,qt]at hQ |-
   skip
   (repeat' first|refine zaa [0,1,2,3,4,30,44,49,84,86] fun K hK=>?_|(refine hK.go ?_;clear hK K)|with_reducible exact wT|refine wA ?_|(refine wE (fun h0 h=>?_) (fun h0 h=>?_)<;>first|exact wN h|((try replace hF:=wX hF);clear h0;first|exact hF.elim|((try subst (h:(_:Bool)=_));try replace hF:=wX hF)))|(refine wQ ?_;clear hQ hR hE hM)|refine wC c1 ?_|refine wC c2 ?_|refine wC c3 ?_|fail)
   all_goals first|exact hF|(exfalso;contradiction)|(rw[<-hF];simp;done)
 ·have hm:zcg p.sections=false:=by simpa using hm
  rw[hm]at c1 hF
  unfold rmF rmT at hF
  refine PC.fn hH cd300 fun w0 M Q hM hE hQ hR=>?_;dsimp only[cd300,qm,ql,qf,qi,qb,qc,qp,qv,qN,qT,qF,qt]at hQ |-
  skip
  (repeat' first|refine zaa [0,1,2,3,4,30,44,49,84,86] fun K hK=>?_|(refine hK.go ?_;clear hK K)|with_reducible exact wT|refine wA ?_|(refine wE (fun h0 h=>?_) (fun h0 h=>?_)<;>first|exact wN h|((try replace hF:=wX hF);clear h0;first|exact hF.elim|((try subst (h:(_:Bool)=_));try replace hF:=wX hF)))|(refine wQ ?_;clear hQ hR hE hM)|refine wC c1 ?_|fail)
  all_goals first|exact hF|(exfalso;contradiction)|(rw[<-hF];simp;done)
theorem zps (hH:HasAll P inv) (r:Rte) (h:r.path.length<=1000000/\r.over.length<=1000000/\r.flanks.length<=1000000):PC P inv 318 [.agg r.c] (·=.agg r.c):=by
 refine PC.fn hH cd318 fun w0 M Q hM hE hQ hR=>?_;dsimp only[cd318,ql,qf,qN,qt]at hQ |-
 (repeat' first|refine zaa [0,1,2,3] fun K hK=>?_|(refine hK.go ?_;clear hK K)|with_reducible exact wT|refine wA ?_|(refine wB (fun h=>?_) (fun h=>?_)<;>first|exact wN h|subst (h:(_:Bool)=_)|skip)|(refine wQ ?_;clear hQ hR hE hM)|fail)
 all_goals first|rfl
def outF (p:Pln) (r:Rte) (all:List Int) (i:Nat) (s:Section) (f:Int):Int :=
 zaL (fun k _ za5=>cond (decide (zh4 s f (k:Int)<0)) (za5 ())
   (cond (decide ((i:Int)=(r.path.length:Int)-1))
    (cond (decide (r.exit=0)&&decide ((nth s.ends k).to=0)||!decide (r.exit=0)&&decide (zor p s.id (k:Int)=r.exit)) (k:Int) (za5 ()))
    (cond (decide ((nth s.ends k).to=nth all (i+1))) (k:Int) (za5 ()))))
  (fun _=>-1) s.ends.length 0 ()
def outI (o:Option (Nat×Join×Int)):Int:=match o with|some v=>(v.1:Int)|none=>-1
theorem outF_eq {p:Pln} {r:Rte} {all:List Int} {i:Nat} {s:Section} {f:Int} (hs:zbD s=true):outF p r all i s f=outI (outW p r all i s f):=by
 unfold outF outW
 refine zaN (·=outI (zaV s f (zl9 p r all i s) 0 s.ends)) (fun k _=>zaV s f (zl9 p r all i s) k (s.ends.drop k)=zaV s f (zl9 p r all i s) 0 s.ends) rfl ?_ ?_
 ·intro k _ za5 hk hK hn
  rw[zaf hk,zaV]at hK
  have hth:(zbc s f (k:Int)).2=0↔¬zh4 s f (k:Int)<0:=by
   unfold zbc
   rw[if_pos hs]
   split
   ·rename_i h1
    exact ⟨fun h=>(by cases h),fun h=>absurd h1 h⟩
   ·rename_i h1
    exact ⟨fun _=>h1,fun _=>rfl⟩
  by_cases h1:zh4 s f (k:Int)<0
  ·rw[decide_eq_true h1,cond_true]
   rw[if_neg (fun h=>(hth.1 h.1) h1)]at hK
   exact hn () hK
  ·rw[decide_eq_false h1,cond_false]
   have hR:zl9 p r all i s (k:Int) (nth s.ends k)=cond (decide ((i:Int)=(r.path.length:Int)-1)) (decide (r.exit=0)&&decide ((nth s.ends k).to=0)||!decide (r.exit=0)&&decide (zor p s.id (k:Int)=r.exit)) (decide ((nth s.ends k).to=nth all (i+1))):=by
    unfold zl9
    by_cases h2:(i:Int)=(r.path.length:Int)-1
    ·rw[if_pos h2,decide_eq_true h2,cond_true]
    ·rw[if_neg h2,decide_eq_false h2,cond_false]
   have fin:∀ b:Bool,zl9 p r all i s (k:Int) (nth s.ends k)=b->cond b (k:Int) (za5 ())=outI (zaV s f (zl9 p r all i s) 0 s.ends):=fun b hb=>by
    cases b with
    |true =>
     rw[if_pos ⟨hth.2 h1,hb⟩]at hK
     rw[<-hK];rfl
    |false =>
     rw[if_neg (fun h=>by rw[hb]at h;cases h.2)]at hK
     exact hn () hK
   by_cases h2:(i:Int)=(r.path.length:Int)-1
   ·rw[decide_eq_true h2,cond_true]at hR |-
    exact fin _ hR
   ·rw[decide_eq_false h2,cond_false]at hR |-
    exact fin _ hR
 ·intro _ hK
  rw[List.drop_eq_nil_of_le (Nat.le_refl _),zaV]at hK
  rw[<-hK]
  rfl
theorem zj5 {p:Pln} (hs:zcg p.sections=true) {n:Int} (h:∃ s∈p.sections,s.id=n):∃ q:Nat,q<p.sections.length/\zdR n 0 p.sections=(q:Int)/\zdx p n=nth p.sections q:=by
 rcases zcW n p.sections 0 with ⟨_,h4⟩|⟨q,hq,e,_⟩
 ·obtain ⟨s,hs1,e⟩:=h
  obtain ⟨k,hk,rfl⟩:=zbN hs1
  exact absurd e (h4 k hk)
 ·have e2:zdR n 0 p.sections=(q:Int):=by omega
  exact ⟨q,hq,e2,by unfold zdx;rw[e2,Int.toNat_natCast]⟩
theorem out_ref (hH:HasAll P inv) (p:Pln) (hp:Sm p) (hs:zcg p.sections=true) (r:Rte) (hr:r.path.length<=1000) (all:List Int) (ha:all.length<=10000) (i:Nat) (hi:i<all.length) (hn:¬(i:Int)=(r.path.length:Int)-1->i+1<all.length) (h:∃ s∈p.sections,s.id=nth all i) (f:Int) :
  PC P inv 317 [.agg p.c,.agg r.c,.sl 1 (all.map zcG),.n i,.n f] (·=.n (outI (outW p r all i (zdx p (nth all i)) f))):=by
 obtain ⟨q,hq,hat,hA⟩:=zj5 hs h
 obtain ⟨hm,hid,_⟩:=zfh hs h
 have hsh:=zk2 hs hm
 have he3:=(zbh hs _ hm).2.2.2.2
 have hl1:=hp.sec
 have hl2:=hp.sgn
 obtain ⟨X,hF⟩:∃ X,outF p r all i (zdx p (nth all i)) f=X:=⟨_,rfl⟩
 rw[<-outF_eq hsh,hF]
 have c1:=zl2 hH p.sections (nth all i) (by omega)
 rw[hat]at c1
 rw[hA]at hF he3
 have cL:=fun k:Nat=>zp1 hH (nth p.sections q) f (k:Int)
 have cA:=fun k:Nat=>at_ref hH p (by omega) (nth p.sections q).id (k:Int)
 have hi1:((i:Int)+1).toNat=i+1:=by omega
 clear hsh hA hm hid hs
 unfold outF at hF
 refine PC.fn hH cd317 fun w0 M Q hM hE hQ hR=>?_;dsimp only[cd317,qm,ql,qf,qi,qb,qc,qp,qv,qN,qT,qF,qt]at hQ |-
 skip
 (have hX:=@Int.toNat_natCast;(repeat' first|refine zaa [0,1,2,3,4,5,6,10,11,12,28,35,41,68,81] fun K hK=>?_|(refine hK.go ?_;clear hK K)|with_reducible exact wT|refine wA ?_|(refine wE (fun h0 h=>?_) (fun h0 h=>?_)<;>first|exact wN h|((try replace hF:=wX hF);clear h0;first|exact hF.elim|((try subst (h:(_:Bool)=_));try replace hF:=wX hF)))|(refine wQ ?_;clear hQ hR hE hM)|refine wU c1 ?_|fail);all_goals clear hX)
 refine zaR hF fun Bd Ed hBd hEd hF=>?_;refine zam (ι:=Nat) [2,3,4,5,6,10,11,12] (fun z=>[(12,.n z)]) (fun _=>[]) (fun z=>z) ((nth p.sections q).ends.length) (fun z=>(zaL Bd Ed ((nth p.sections q).ends.length-z) z ()=X)) (0) ?_;rintro k ⟨hk,hF⟩;(try dsimp only at hk hF |-);rcases Nat.lt_or_ge k (nth p.sections q).ends.length with hlt|hge
 ·rw[zav hBd hlt]at hF;(try dsimp only at hF)
  have c2:=cL k
  have c3:=cA k
  generalize zh4 (nth p.sections q) f (k:Int)=lie at *
  by_cases hk1:(i:Int)=(r.path.length:Int)-1
  ·(repeat' first|refine zaa [0,1,2,3,4,5,6,10,11,12,28,35,41,68,81] fun K hK=>?_|(refine hK.go ?_;clear hK K)|with_reducible exact wT|refine wA ?_|(refine wE (fun h0 h=>?_) (fun h0 h=>?_)<;>first|exact wN h|((try replace hF:=wX hF);clear h0;first|exact hF.elim|((try subst (h:(_:Bool)=_));try replace hF:=wX hF)))|(refine wQ ?_;clear hQ hR hE hM)|refine wC c2 ?_|refine wC c3 ?_|refine wU c3 ?_|fail)
   all_goals first|exact hF|(exfalso;contradiction)|(exfalso;omega)|exact congrArg AV.n hF|exact nX (k+1)
  ·have hn:=hn hk1
   (have hX:=@hi1;(repeat' first|refine zaa [0,1,2,3,4,5,6,10,11,12,28,35,41,68,81] fun K hK=>?_|(refine hK.go ?_;clear hK K)|with_reducible exact wT|refine wA ?_|(refine wE (fun h0 h=>?_) (fun h0 h=>?_)<;>first|exact wN h|((try replace hF:=wX hF);clear h0;first|exact hF.elim|((try subst (h:(_:Bool)=_));try replace hF:=wX hF)))|(refine wQ ?_;clear hQ hR hE hM)|refine wC c2 ?_|fail);all_goals clear hX)
   all_goals first|exact hF|(exfalso;contradiction)|(exfalso;omega)|exact congrArg AV.n hF|exact nX (k+1)
 ·rw[zaQ hge,hEd]at hF;(try dsimp only at hF)
  (repeat' first|refine zaa [0,1,2,3,4,5,6,10,11,12,28,35,41,68,81] fun K hK=>?_|(refine hK.go ?_;clear hK K)|with_reducible exact wT|refine wA ?_|(refine wE (fun h0 h=>?_) (fun h0 h=>?_)<;>first|exact wN h|((try replace hF:=wX hF);clear h0;first|exact hF.elim|((try subst (h:(_:Bool)=_));try replace hF:=wX hF)))|(refine wQ ?_;clear hQ hR hE hM)|fail)
  all_goals first|exact hF|(exact congrArg AV.n hF)|(rw[<-hF];done)
def zri (V:Option (List Int×List Int)):AV:=match V with|some v=>.tup [.sl 1 (v.1.map zcG),.sl 1 (v.2.map zcG),.b true]|none=>.tup [.sl 1 [],.sl 1 [],.b false]
theorem zn7 (hH:HasAll P inv) (p:Pln) (hp:Sm p) (hs:zcg p.sections=true) (hg:SgsP p) (r:Rte) (hr:RteP p r):PC P inv 308 [.agg p.c,.agg r.c] (·=zri (zi5 p r)):=by
 obtain ⟨k,hk,h1,h2,h3⟩:=zga hs hg hr
 obtain ⟨sE,hsE1,hsE2,hsE3,hsE4⟩:=hg.sec _ (zab hk)
 obtain ⟨qE,hqE,hatE,hAE⟩:=zj5 hs ⟨sE,hsE1,hsE2⟩
 have hsE5:=zfh hs ⟨sE,hsE1,hsE2⟩
 have hsE6:zdx p (nth p.signals k).sec=sE:=by
  have:=zkC Section.id (zeQ (zk7 hs)) hsE1
  rw[hsE2,hsE5.2.2]at this
  exact Option.some.inj this
 have hlen:=hr.lens
 have c0:=zfJ hH p.signals (by have:=hp.sgn;omega) r.entry
 rw[h1]at c0
 have c1:=zl2 hH p.sections (nth p.signals k).sec (by have:=hp.sec;omega)
 rw[hatE]at c1
 have c2:=zj4 hH r (by omega) (by omega)
 have hEJ:zjA p r=nth (nth p.sections qE).ends (nth p.signals k).ed.toNat:=by
  unfold zjA
  rw[h1,Int.toNat_natCast,hAE]
 rw[<-hsE6,hAE]at hsE4
 have hsec:∀ i,i<(r.path++r.over).length->∃ s∈p.sections,s.id=nth (r.path++r.over) i:=fun i hi=>(hr.secs _ (zab hi)).1
 have hal:(r.path++r.over).length=r.path.length+r.over.length:=List.length_append
 have hend3:∀ n,(∃ s∈p.sections,s.id=n)->(zdx p n).ends.length<=3:=fun n hn=>(zbh hs _ (zfh hs hn).1).2.2.2.2
 have cO:=fun (i:Nat) (hi:i<(r.path++r.over).length) (hn:¬(i:Int)=(r.path.length:Int)-1->i+1<(r.path++r.over).length) (f:Int)=>out_ref hH p hp hs r (by omega) (r.path++r.over) (by omega) i hi hn (hsec i hi) f
 have cT:=fun n=>zl2 hH p.sections n (by have:=hp.sec;omega)
 have hl1:=hp.sec
 have hl2:=hp.sgn
 have hix:=fun n hn=>zj5 (p:=p) (n:=n) hs hn
 obtain ⟨V,hV⟩:∃ V,zi5 p r=V:=⟨_,rfl⟩
 rw[hV]
 unfold zi5 at hV
 rw[hEJ]at hV
 clear h1 h2 h3 hEJ hsE6 hsE5 hAE hatE hs hg hr
 generalize r.path++r.over=all at *
 refine PC.fn hH cd308 fun w0 M Q hM hE hQ hR=>?_;dsimp only[cd308,qm,ql,qf,qi,qb,qc,qp,qN,qT,qt]at hQ |-
 (have hX:=@Int.toNat_natCast;(repeat' first|refine zaa [0,1,2,3,4,5,6,7,8,9,10,11,12,13,42,51,67,80] fun K hK=>?_|(refine hK.go ?_;clear hK K)|with_reducible exact wT|refine wA ?_|(refine wB (fun h=>?_) (fun h=>?_)<;>first|exact wN h|subst (h:(_:Bool)=_)|skip)|(refine wQ ?_;clear hQ hR hE hM)|refine wU c0 ?_|refine wU c1 ?_|refine wC c2 ?_|fail);all_goals clear hX)
 refine AWp.empty 10 4 1 rfl (Nat.zero_le _) (by (refine wD ?_;try with_reducible exact wT)) (by (refine wD ?_;try with_reducible exact wT)) ?_
 refine AWp.empty 11 5 1 rfl (Nat.zero_le _) (by (refine wD ?_;try with_reducible exact wT)) (by (refine wD ?_;try with_reducible exact wT)) ?_
 (refine wD ?_;try with_reducible exact wT)
 refine zam (ι:=Nat×Join×(List Int)×(List Int)) [2,3,4,5,6,8,9,10,11,12] (fun z=>[(10,.sm 4 z.2.2.1.length 0 z.2.2.1.length 1),(11,.sm 5 z.2.2.2.length 0 z.2.2.2.length 1),(12,.n z.1)]) (fun z=>[(3,.cells z.2.1.c true),(4,.cells (z.2.2.1.map zcG).flatten (decide (0<z.2.2.1.length))),(5,.cells (z.2.2.2.map zcG).flatten (decide (0<z.2.2.2.length)))]) (fun z=>z.1) (all.length) (fun z=>(z.2.2.1.length=z.1)/\(z.2.2.2.length=z.1)/\(zhj p r all z.1 z.2.1 z.2.2.1 z.2.2.2 (all.drop z.1)=V)) (0,(nth (nth p.sections qE).ends (nth p.signals k).ed.toNat),([]:List Int),([]:List Int)) ?_;rintro ⟨i,j,I,O⟩ ⟨hk,hI,hO,hgo⟩;(try dsimp only at hk hI hO hgo |-);rcases Nat.lt_or_ge i all.length with hlt|hge
 ·rw[zaf hlt,zhj]at hgo
  have hs1:=hsec i hlt
  obtain ⟨q,hq,hat,hA⟩:=hix _ hs1
  have he3:=hend3 _ hs1
  have c4:=cT (nth all i)
  rw[hat]at c4
  by_cases hj:j.to=nth all i
  ·rw[if_pos hj]at hgo
   by_cases hst:i+1=all.length/\0<r.over.length
   ·rw[if_pos hst]at hgo
    obtain ⟨I2,hI2⟩:∃ I2,I++[j.ed]=I2:=⟨_,rfl⟩
    obtain ⟨O2,hO2⟩:∃ O2,O++[-1]=O2:=⟨_,rfl⟩
    have gI:(I.map zcG).flatten++[AV.n j.ed]=(I2.map zcG).flatten:=by rw[<-hI2];simp[zcG]
    have gO:(O.map zcG).flatten++[AV.i .i64 (-1)]=(O2.map zcG).flatten:=by rw[<-hO2];simp[zcG]
    have lI:I.length+1=I2.length:=by rw[<-hI2];simp
    have lO:O.length+1=O2.length:=by rw[<-hO2];simp
    rw[hI2,hO2]at hgo
    clear hI2 hO2
    (have hX:=zA @gI (zA @gO (zA @lI @lO));(repeat' first|refine zaa [0,1,2,3,4,5,6,7,8,9,10,11,12,13,42,51,67,80] fun K hK=>?_|(refine hK.go ?_;clear hK K)|with_reducible exact wT|refine wA ?_|(refine wB (fun h=>?_) (fun h=>?_)<;>first|exact wN h|subst (h:(_:Bool)=_)|skip)|(refine wQ ?_;clear hQ hR hE hM)|fail);all_goals clear hX)
    all_goals first|(exfalso;omega)|(rw[<-hgo];rfl)
   ·rw[if_neg hst]at hgo
    have c3:=cO i hlt (fun hn=>by omega) j.ed
    cases ho:outW p r all i (zdx p (nth all i)) j.ed with
    |none =>
     rw[ho]at hgo c3
     dsimp only[outI]at hgo c3
     (repeat' first|refine zaa [0,1,2,3,4,5,6,7,8,9,10,11,12,13,42,51,67,80] fun K hK=>?_|(refine hK.go ?_;clear hK K)|with_reducible exact wT|refine wA ?_|(refine wB (fun h=>?_) (fun h=>?_)<;>first|exact wN h|subst (h:(_:Bool)=_)|skip)|(refine wQ ?_;clear hQ hR hE hM)|refine wC c3 ?_|fail)
     all_goals first|(exfalso;omega)|(rw[<-hgo];rfl)
    |some v =>
     rw[ho]at hgo c3
     dsimp only[outI]at hgo c3
     have hpe:=zeM _ 0 ho
     rw[Nat.sub_zero]at hpe
     have hv1:=hpe.2.1
     have hv2:=hpe.2.2.1
     rw[hA]at hv1 hv2 he3
     rw[hv2]at hgo
     clear hpe ho hv2
     obtain ⟨v1,v2,v3⟩:=v
     dsimp only at hgo c3 hv1
     (have hX:=@Int.toNat_natCast;(repeat' first|refine zaa [0,1,2,3,4,5,6,7,8,9,10,11,12,13,42,51,67,80] fun K hK=>?_|(refine hK.go ?_;clear hK K)|with_reducible exact wT|refine wA ?_|(refine wB (fun h=>?_) (fun h=>?_)<;>first|exact wN h|subst (h:(_:Bool)=_)|skip)|(refine wQ ?_;clear hQ hR hE hM)|refine wC c3 ?_|refine wC c4 ?_|refine wU c4 ?_|fail);all_goals clear hX)
     all_goals first|(exfalso;omega)|(exact nY (i+1,nth (nth p.sections q).ends v1,I++[j.ed],O++[(v1:Int)]) ⟨by (try dsimp only);omega,by (try dsimp only);simp[hI],by (try dsimp only);simp[hO],hgo⟩;done)
  ·rw[if_neg hj]at hgo
   (repeat' first|refine zaa [0,1,2,3,4,5,6,7,8,9,10,11,12,13,42,51,67,80] fun K hK=>?_|(refine hK.go ?_;clear hK K)|with_reducible exact wT|refine wA ?_|(refine wB (fun h=>?_) (fun h=>?_)<;>first|exact wN h|subst (h:(_:Bool)=_)|skip)|(refine wQ ?_;clear hQ hR hE hM)|fail)
   all_goals first|(exfalso;contradiction)|(exfalso;omega)|(rw[<-hgo];rfl)
 ·rw[List.drop_eq_nil_of_le hge,zhj]at hgo
  (repeat' first|refine zaa [0,1,2,3,4,5,6,7,8,9,10,11,12,13,42,51,67,80] fun K hK=>?_|(refine hK.go ?_;clear hK K)|with_reducible exact wT|refine wA ?_|(refine wB (fun h=>?_) (fun h=>?_)<;>first|exact wN h|subst (h:(_:Bool)=_)|skip)|(refine wQ ?_;clear hQ hR hE hM)|fail)
  all_goals first|(rw[<-hgo];simp[zri];done)|(rw[<-hgo];rfl)
theorem znN (hH:HasAll P inv) (p:Pln) (hp:Sm p) (hs:zcg p.sections=true) (hg:SgsP p) (hpt:PtsP p) {m:Nat} (hm:m<p.routes.length) (hr:RteP p (nth p.routes m)) {I O:List Int} (hV:zi5 p (nth p.routes m)=some (I,O)) :
  PC P inv 309 [.agg p.c,.n m] (·=.agg (zah p (nth p.routes m)).1.c):=by
 have hw:=zhw hs hg hpt hr
 rw[hV]at hw
 obtain ⟨hI,hO,hw⟩:=hw
 dsimp only at hI hO hw
 have hw1:(zah p (nth p.routes m)).1=⟨(nth p.routes m).path,(nth p.routes m).over,asksV p (nth p.routes m) I O,(sig p (nth p.routes m).entry).sec⟩:=by rw[hw]
 rw[hw1]
 obtain ⟨k,hk,h1,h2,h3⟩:=zga hs hg hr
 have hlen:=hr.lens
 have c1:=zps hH (nth p.routes m) (by omega)
 have c2:=zn7 hH p hp hs hg (nth p.routes m) hr
 rw[hV]at c2
 unfold zri at c2
 dsimp only at c2
 have c3:=zj4 hH (nth p.routes m) (by omega) (by omega)
 have c4:=zfJ hH p.signals (by have:=hp.sgn;omega) (nth p.routes m).entry
 rw[h1]at c4
 rw[h3]
 have hsec:∀ i,i<((nth p.routes m).path++(nth p.routes m).over).length->∃ s∈p.sections,s.id=nth ((nth p.routes m).path++(nth p.routes m).over) i:=fun i hi=>(hr.secs _ (zab hi)).1
 have hal:((nth p.routes m).path++(nth p.routes m).over).length=(nth p.routes m).path.length+(nth p.routes m).over.length:=List.length_append
 have cT:=fun n=>zl2 hH p.sections n (by have:=hp.sec;omega)
 have hix:=fun n hn=>zj5 (p:=p) (n:=n) hs hn
 have cL:=fun s f t=>zp1 hH s f t
 have hl1:=hp.rte
 unfold asksV
 obtain ⟨W,hW⟩:∃ W,zii p 0 ((nth p.routes m).path++(nth p.routes m).over) I O=W:=⟨_,rfl⟩
 rw[hW]
 clear hw hw1 h1 h2 h3 hs hg hpt hr hV
 generalize (nth p.routes m).path++(nth p.routes m).over=all at *
 refine PC.fn hH cd309 fun w0 M Q hM hE hQ hR=>?_;dsimp only[cd309,qm,ql,qf,qi,qb,qc,qN,qt]at hQ |-
 (have hX:=@Int.toNat_natCast;(repeat' first|refine zaa [0,1,2,4,5,6,7,9,10,11,12,13,14,48,64,73,83,85,100,119] fun K hK=>?_|(refine hK.go ?_;clear hK K)|with_reducible exact wT|refine wA ?_|(refine wB (fun h=>?_) (fun h=>?_)<;>first|exact wN h|subst (h:(_:Bool)=_)|skip)|(refine wQ ?_;clear hQ hR hE hM)|refine wC c1 ?_|refine wC c2 ?_|refine wC c3 ?_|refine wU c4 ?_|fail);all_goals clear hX)
 refine zgO 3 2 4 3 rfl rfl (Nat.zero_le _) (by (refine wD ?_;try with_reducible exact wT)) (by (refine wD ?_;try with_reducible exact wT)) ?_
 (refine wD ?_;try with_reducible exact wT)
 refine zam (ι:=Nat×(List AskR)) [2,4,5,6,7,9,10,11] (fun z=>[(11,.n z.1)]) (fun z=>[(3,.cells [.sl 1 (List.map zcG (nth p.routes m).path),.sl 1 (List.map zcG (nth p.routes m).over),.sm 4 (z.2.length*3) 0 z.2.length 3,.n (nth p.signals k).sec] true),(4,.cells (z.2.map AskR.c).flatten (decide (0<z.2.length)))]) (fun z=>z.1) (all.length) (fun z=>(z.2.length<=z.1)/\(z.2++zii p z.1 (all.drop z.1) (I.drop z.1) (O.drop z.1)=W)) (0,([]:List AskR)) ?_;rintro ⟨i,A⟩ ⟨hk,hA,hgo⟩;(try dsimp only at hk hA hgo |-);rcases Nat.lt_or_ge i all.length with hlt|hge
 ·rw[zaf hlt,zaf (l:=I) (by omega),zaf (l:=O) (by omega),zii]at hgo
  obtain ⟨q,hq,hat,hAq⟩:=hix _ (hsec i hlt)
  unfold zrL at hgo
  rw[hAq]at hgo
  have c5:=cT (nth all i)
  rw[hat]at c5
  have c6:=cL (nth p.sections q) (nth I i) (nth O i)
  by_cases hp0:(nth p.sections q).pt=0
  ·rw[if_pos hp0,List.nil_append]at hgo
   (have hX:=@Int.toNat_natCast;(repeat' first|refine zaa [0,1,2,4,5,6,7,9,10,11,12,13,14,48,64,73,83,85,100,119] fun K hK=>?_|(refine hK.go ?_;clear hK K)|with_reducible exact wT|refine wA ?_|(refine wB (fun h=>?_) (fun h=>?_)<;>first|exact wN h|subst (h:(_:Bool)=_)|skip)|(refine wQ ?_;clear hQ hR hE hM)|refine wU c5 ?_|fail);all_goals clear hX)
   all_goals first|(exfalso;contradiction)|(exact nY (i+1,A) ⟨by (try dsimp only);omega,by (try dsimp only);omega,hgo⟩;done)
  ·rw[if_neg hp0]at hgo
   by_cases hb:0<=nth O i
   ·rw[if_pos hb]at hgo
    generalize zh4 (nth p.sections q) (nth I i) (nth O i)=lie at *
    by_cases hl:0<lie
    ·rw[if_pos hl]at hgo
     (have hX:=@Int.toNat_natCast;(repeat' first|refine zaa [0,1,2,4,5,6,7,9,10,11,12,13,14,48,64,73,83,85,100,119] fun K hK=>?_|(refine hK.go ?_;clear hK K)|with_reducible exact wT|refine wA ?_|(refine wB (fun h=>?_) (fun h=>?_)<;>first|exact wN h|subst (h:(_:Bool)=_)|skip)|(refine wQ ?_;clear hQ hR hE hM)|refine wU c5 ?_|refine wC c6 ?_|fail);all_goals clear hX)
     all_goals first|(exfalso;contradiction)|(exfalso;omega)|(exact nY (i+1,A++[⟨(nth p.sections q).pt,lie,(i:Int)⟩]) ⟨by (try dsimp only);omega,by (try dsimp only);simp;omega,by (try dsimp only);rw[<-hgo];simp⟩;done)
    ·rw[if_neg hl,List.nil_append]at hgo
     (have hX:=@Int.toNat_natCast;(repeat' first|refine zaa [0,1,2,4,5,6,7,9,10,11,12,13,14,48,64,73,83,85,100,119] fun K hK=>?_|(refine hK.go ?_;clear hK K)|with_reducible exact wT|refine wA ?_|(refine wB (fun h=>?_) (fun h=>?_)<;>first|exact wN h|subst (h:(_:Bool)=_)|skip)|(refine wQ ?_;clear hQ hR hE hM)|refine wU c5 ?_|refine wC c6 ?_|fail);all_goals clear hX)
     all_goals first|(exfalso;contradiction)|(exfalso;omega)|(exact nY (i+1,A) ⟨by (try dsimp only);omega,by (try dsimp only);omega,hgo⟩;done)
   ·rw[if_neg hb]at hgo
    by_cases hl:0<nth I i
    ·rw[if_pos hl]at hgo
     (have hX:=@Int.toNat_natCast;(repeat' first|refine zaa [0,1,2,4,5,6,7,9,10,11,12,13,14,48,64,73,83,85,100,119] fun K hK=>?_|(refine hK.go ?_;clear hK K)|with_reducible exact wT|refine wA ?_|(refine wB (fun h=>?_) (fun h=>?_)<;>first|exact wN h|subst (h:(_:Bool)=_)|skip)|(refine wQ ?_;clear hQ hR hE hM)|refine wU c5 ?_|refine wC c6 ?_|fail);all_goals clear hX)
     all_goals first|(exfalso;contradiction)|(exfalso;omega)|(exact nY (i+1,A++[⟨(nth p.sections q).pt,nth I i,(i:Int)⟩]) ⟨by (try dsimp only);omega,by (try dsimp only);simp;omega,by (try dsimp only);rw[<-hgo];simp⟩;done)
    ·rw[if_neg hl,List.nil_append]at hgo
     (have hX:=@Int.toNat_natCast;(repeat' first|refine zaa [0,1,2,4,5,6,7,9,10,11,12,13,14,48,64,73,83,85,100,119] fun K hK=>?_|(refine hK.go ?_;clear hK K)|with_reducible exact wT|refine wA ?_|(refine wB (fun h=>?_) (fun h=>?_)<;>first|exact wN h|subst (h:(_:Bool)=_)|skip)|(refine wQ ?_;clear hQ hR hE hM)|refine wU c5 ?_|refine wC c6 ?_|fail);all_goals clear hX)
     all_goals first|(exfalso;contradiction)|(exfalso;omega)|(exact nY (i+1,A) ⟨by (try dsimp only);omega,by (try dsimp only);omega,hgo⟩;done)
 ·rw[List.drop_eq_nil_of_le hge,zii,List.append_nil]at hgo
  ·subst hgo
   (repeat' first|refine zaa [0,1,2,4,5,6,7,9,10,11,12,13,14,48,64,73,83,85,100,119] fun K hK=>?_|(refine hK.go ?_;clear hK K)|with_reducible exact wT|refine wA ?_|(refine wB (fun h=>?_) (fun h=>?_)<;>first|exact wN h|subst (h:(_:Bool)=_)|skip)|(refine wQ ?_;clear hQ hR hE hM)|fail)
   refine zam (ι:=Nat×(List AskR)) [4,5,10,14] (fun z=>[(14,.n z.1)]) (fun z=>[(3,.cells [.sl 1 (List.map zcG (nth p.routes m).path),.sl 1 (List.map zcG (nth p.routes m).over),.sm 4 (z.2.length*3) 0 z.2.length 3,.n (nth p.signals k).sec] true),(4,.cells (z.2.map AskR.c).flatten (decide (0<z.2.length)))]) (fun z=>z.1) ((nth p.routes m).flanks.length) (fun z=>(z.2.length<=i+z.1)/\(z.2++((nth p.routes m).flanks.drop z.1).map (fun x=>(⟨x.pnt,x.lie,-1⟩:AskR))=A++(nth p.routes m).flanks.map (fun x=>(⟨x.pnt,x.lie,-1⟩:AskR)))) (0,A) ?_;rintro ⟨k2,B⟩ ⟨hk,hB,hgb⟩;(try dsimp only at hk hB hgb |-);rcases Nat.lt_or_ge k2 (nth p.routes m).flanks.length with hlt|hge
   ·rw[zaf (by assumption),List.map_cons]at hgb
    (repeat' first|refine zaa [0,1,2,4,5,6,7,9,10,11,12,13,14,48,64,73,83,85,100,119] fun K hK=>?_|(refine hK.go ?_;clear hK K)|with_reducible exact wT|refine wA ?_|(refine wB (fun h=>?_) (fun h=>?_)<;>first|exact wN h|subst (h:(_:Bool)=_)|skip)|(refine wQ ?_;clear hQ hR hE hM)|fail)
    all_goals first|(exfalso;contradiction)|(exact nY (k2+1,B++[⟨(nth (nth p.routes m).flanks k2).pnt,(nth (nth p.routes m).flanks k2).lie,-1⟩]) ⟨by (try dsimp only);omega,by (try dsimp only);simp;omega,by (try dsimp only);rw[<-hgb];simp⟩;done)
   ·rw[List.drop_eq_nil_of_le (by assumption),List.map_nil,List.append_nil]at hgb
    (repeat' first|refine zaa [0,1,2,4,5,6,7,9,10,11,12,13,14,48,64,73,83,85,100,119] fun K hK=>?_|(refine hK.go ?_;clear hK K)|with_reducible exact wT|refine wA ?_|(refine wB (fun h=>?_) (fun h=>?_)<;>first|exact wN h|subst (h:(_:Bool)=_)|skip)|(refine wQ ?_;clear hQ hR hE hM)|fail)
    all_goals first|(subst hgb;rfl)
  ·intro a b c d e f h
   cases h
structure AllP (p:Pln):Prop where
 ok:OkP p
 sec:zcg p.sections=true
 sgn:SgsP p
 pts:PtsP p
 rte:∀ r∈p.routes,RteP p r
theorem zrR {p:Pln} (h:zb1 p=true):AllP p:=by
 have ho:=zid h
 have hg:=(zfG ho.sec).1 ho.sgn
 exact ⟨ho,ho.sec,hg,(znF ho.sec).1 ho.pts,fun r hr=>(zms ho.sec hg r).1 (ho.rte r hr)⟩
theorem zgD {p:Pln} (ho:OkP p) {m:Nat} (hm:m<p.routes.length):za3 (fun x=>decide (Rte.id x=(nth p.routes m).id)) 0 p.routes=(m:Int):=by
 rcases zat Rte.id (nth p.routes m).id p.routes with ⟨_,h4⟩|⟨k,hk,h4,h5⟩
 ·exact absurd rfl (h4 _ (zab hm))
 ·rw[h4,zqt Rte.id (zhP ho) hk hm h5]
def sndB (p:Pln) (r:Rte):Bool:=decide ((zah p r).2.2=0)&&zbF p r
theorem zpC (hH:HasAll P inv) (p:Pln) (hp:Sm p) (h:AllP p) {m:Nat} (hm:m<p.routes.length):PC P inv 301 [.agg p.c,.agg (nth p.routes m).c] (·=.b (sndB p (nth p.routes m))):=by
 have hr:=h.rte _ (zab hm)
 have c1:=zn7 hH p hp h.sec h.sgn (nth p.routes m) hr
 have hw:=zhw h.sec h.sgn h.pts hr
 unfold sndB
 cases hV:zi5 p (nth p.routes m) with
 |none =>
  rw[hV]at c1 hw
  unfold zri at c1
  dsimp only at c1 hw
  rw[hw,show (decide ((90:Int)=0)&&zbF p (nth p.routes m))=false from rfl]
  refine PC.fn hH cd301 fun w0 M Q hM hE hQ hR=>?_;dsimp only[cd301,qm,ql,qf,qi,qb,qc,qp,qv,qN,qT,qF,qt]at hQ |-
  (repeat' first|refine zaa [0,1,2,3,4,6,7,8,9,10,11,12,21,33,38,53,58,71,95] fun K hK=>?_|(refine hK.go ?_;clear hK K)|with_reducible exact wT|refine wA ?_|(refine wB (fun h=>?_) (fun h=>?_)<;>first|exact wN h|subst (h:(_:Bool)=_)|skip)|(refine wQ ?_;clear hQ hR hE hM)|refine wC c1 ?_|fail)
  all_goals first|rfl|(exfalso;contradiction)
 |some v =>
  obtain ⟨I,O⟩:=v
  have c3:=znN hH p hp h.sec h.sgn h.pts hm hr hV
  rw[hV]at c1 hw
  unfold zri at c1
  dsimp only at c1 hw
  have hlen:=hr.lens
  have hO:O.length=(nth p.routes m).path.length+(nth p.routes m).over.length:=by rw[hw.2.1,List.length_append]
  have h0:(zah p (nth p.routes m)).2.2=0:=by rw[hw.2.2]
  rw[h0,show (decide ((0:Int)=0)&&zbF p (nth p.routes m))=zbF p (nth p.routes m) from rfl]
  have c2:=zpW hH p.routes (by have:=hp.rte;omega) (nth p.routes m).id
  rw[zgD h.ok hm]at c2
  have hal:=(zbf h.ok (zab hm)).1
  obtain ⟨X,hF⟩:∃ X,sndF p (nth p.routes m) (zah p (nth p.routes m)).1.asks O=X:=⟨_,rfl⟩
  rw[<-snd_eq h.ok h.sec h.sgn h.pts (zab hm) hr hV,hF]
  have cA:=fun (a b:Int)=>at_ref hH p (by have:=hp.sgn;omega) a b
  unfold sndF sndT at hF
  generalize (zah p (nth p.routes m)).1=w at *
  clear h hr hw h0
  refine PC.fn hH cd301 fun w0 M Q hM hE hQ hR=>?_;dsimp only[cd301,qm,ql,qf,qi,qb,qc,qp,qv,qN,qT,qF,qt]at hQ |-
  skip
  (repeat' first|refine zaa [0,1,2,3,4,6,7,8,9,10,11,12,21,33,38,53,58,71,95] fun K hK=>?_|(refine hK.go ?_;clear hK K)|with_reducible exact wT|refine wA ?_|(refine wE (fun h0 h=>?_) (fun h0 h=>?_)<;>first|exact wN h|((try replace hF:=wX hF);clear h0;first|exact hF.elim|((try subst (h:(_:Bool)=_));try replace hF:=wX hF)))|(refine wQ ?_;clear hQ hR hE hM)|refine wC c1 ?_|refine wU c2 ?_|refine wU c3 ?_|fail)
  all_goals first|(exfalso;contradiction)|skip
  refine zaR hF fun Bd Ed hBd hEd hF=>?_;refine zam (ι:=Nat) [2,3,4,6,8,9] (fun z=>[(9,.n z)]) (fun _=>[]) (fun z=>z) (w.asks.length) (fun z=>(zaL Bd Ed (w.asks.length-z) z ()=X)) (0) ?_;rintro i ⟨hk,hF⟩;(try dsimp only at hk hF |-);rcases Nat.lt_or_ge i w.asks.length with hlt|hge
  ·rw[zav hBd hlt]at hF;(try dsimp only at hF)
   (repeat' first|refine zaa [0,1,2,3,4,6,7,8,9,10,11,12,21,33,38,53,58,71,95] fun K hK=>?_|(refine hK.go ?_;clear hK K)|with_reducible exact wT|refine wA ?_|(refine wE (fun h0 h=>?_) (fun h0 h=>?_)<;>first|exact wN h|((try replace hF:=wX hF);clear h0;first|exact hF.elim|((try subst (h:(_:Bool)=_));try replace hF:=wX hF)))|(refine wQ ?_;clear hQ hR hE hM)|fail)
   refine zaR hF fun Bd Ed hBd hEd hF=>?_;refine zam (ι:=Nat) [2,3,4,6,8,9,10] (fun z=>[(10,.n z)]) (fun _=>[]) (fun z=>z) (i) (fun z=>(zaL Bd Ed (i-z) z ()=X)) (0) ?_;rintro k ⟨hk,hF⟩;(try dsimp only at hk hF |-);rcases Nat.lt_or_ge k i with hlt|hge
   ·rw[zav hBd hlt]at hF;(try dsimp only at hF)
    (repeat' first|refine zaa [0,1,2,3,4,6,7,8,9,10,11,12,21,33,38,53,58,71,95] fun K hK=>?_|(refine hK.go ?_;clear hK K)|with_reducible exact wT|refine wA ?_|(refine wE (fun h0 h=>?_) (fun h0 h=>?_)<;>first|exact wN h|((try replace hF:=wX hF);clear h0;first|exact hF.elim|((try subst (h:(_:Bool)=_));try replace hF:=wX hF)))|(refine wQ ?_;clear hQ hR hE hM)|fail)
    all_goals first|exact hF|(exfalso;contradiction)|exact congrArg AV.b hF|exact nX (k+1)
   ·rw[zaQ hge,hEd]at hF;(try dsimp only at hF)
    (repeat' first|refine zaa [0,1,2,3,4,6,7,8,9,10,11,12,21,33,38,53,58,71,95] fun K hK=>?_|(refine hK.go ?_;clear hK K)|with_reducible exact wT|refine wA ?_|(refine wE (fun h0 h=>?_) (fun h0 h=>?_)<;>first|exact wN h|((try replace hF:=wX hF);clear h0;first|exact hF.elim|((try subst (h:(_:Bool)=_));try replace hF:=wX hF)))|(refine wQ ?_;clear hQ hR hE hM)|fail)
    all_goals exact nX (i+1)
  ·rw[zaQ hge,hEd]at hF;(try dsimp only at hF)
   (repeat' first|refine zaa [0,1,2,3,4,6,7,8,9,10,11,12,21,33,38,53,58,71,95] fun K hK=>?_|(refine hK.go ?_;clear hK K)|with_reducible exact wT|refine wA ?_|(refine wE (fun h0 h=>?_) (fun h0 h=>?_)<;>first|exact wN h|((try replace hF:=wX hF);clear h0;first|exact hF.elim|((try subst (h:(_:Bool)=_));try replace hF:=wX hF)))|(refine wQ ?_;clear hQ hR hE hM)|fail)
   refine zaR hF fun Bd Ed hBd hEd hF=>?_;refine zam (ι:=Nat) [2,3,4,6,11] (fun z=>[(11,.n z)]) (fun _=>[]) (fun z=>z) ((nth p.routes m).path.length) (fun z=>(zaL Bd Ed ((nth p.routes m).path.length-z) z ()=X)) (0) ?_;rintro i ⟨hk,hF⟩;(try dsimp only at hk hF |-);rcases Nat.lt_or_ge i (nth p.routes m).path.length with hlt|hge
   ·rw[zav hBd hlt]at hF;(try dsimp only at hF)
    have c4:=cA (nth (nth p.routes m).path i) (nth O i)
    generalize zor p (nth (nth p.routes m).path i) (nth O i)=g at *
    (repeat' first|refine zaa [0,1,2,3,4,6,7,8,9,10,11,12,21,33,38,53,58,71,95] fun K hK=>?_|(refine hK.go ?_;clear hK K)|with_reducible exact wT|refine wA ?_|(refine wE (fun h0 h=>?_) (fun h0 h=>?_)<;>first|exact wN h|((try replace hF:=wX hF);clear h0;first|exact hF.elim|((try subst (h:(_:Bool)=_));try replace hF:=wX hF)))|(refine wQ ?_;clear hQ hR hE hM)|refine wC c4 ?_|fail)
    all_goals first|exact hF|(exfalso;contradiction)|exact congrArg AV.b hF|exact nX (i+1)
   ·rw[zaQ hge,hEd]at hF;(try dsimp only at hF)
    (repeat' first|refine zaa [0,1,2,3,4,6,7,8,9,10,11,12,21,33,38,53,58,71,95] fun K hK=>?_|(refine hK.go ?_;clear hK K)|with_reducible exact wT|refine wA ?_|(refine wE (fun h0 h=>?_) (fun h0 h=>?_)<;>first|exact wN h|((try replace hF:=wX hF);clear h0;first|exact hF.elim|((try subst (h:(_:Bool)=_));try replace hF:=wX hF)))|(refine wQ ?_;clear hQ hR hE hM)|fail)
    all_goals first|exact hF|exact congrArg AV.b hF
theorem zoM (p:Pln):zbd p=(zb1 p&&p.routes.all (sndB p)):=by
 unfold zbd zrS sndB
 congr 1
 induction p.routes with
 |nil=>rfl
 |cons r l ih =>
  simp only[List.all_cons]
  rw[<-ih]
  cases decide ((zah p r).2.2=0)<;>cases zbF p r<;>simp
theorem zlu (hH:HasAll P inv) (p:Pln) (hp:Sm p):PC P inv 295 [.agg p.c] (·=.b (zbd p)):=by
 have c1:=may_ref hH p hp
 have hl:=hp.rte
 rw[zoM]
 by_cases hok:zb1 p=true
 ·have h:=zrR hok
  have cS:=fun (m:Nat) (hm:m<p.routes.length)=>zpC hH p hp h hm
  rw[hok]at c1
  rw[hok,Bool.true_and]
  clear h hok
  refine PC.fn hH cd295 fun w0 M Q hM hE hQ hR=>?_;dsimp only[cd295,qm,ql,qf,qi,qb,qc,qN,qt]at hQ |-
  (repeat' first|refine zaa [0,1,2,3,6,11,20,21] fun K hK=>?_|(refine hK.go ?_;clear hK K)|with_reducible exact wT|refine wA ?_|(refine wB (fun h=>?_) (fun h=>?_)<;>first|exact wN h|subst (h:(_:Bool)=_)|skip)|(refine wQ ?_;clear hQ hR hE hM)|refine wC c1 ?_|fail)
  all_goals first|(exfalso;contradiction)|skip
  refine zam (ι:=Nat) [1,2,3] (fun z=>[(3,.n z)]) (fun _=>[]) (fun z=>z) (p.routes.length) (fun z=>((p.routes.drop z).all (sndB p)=p.routes.all (sndB p))) (0) ?_;rintro k ⟨hk,hg⟩;(try dsimp only at hk hg |-);rcases Nat.lt_or_ge k p.routes.length with hlt|hge
  ·rw[zaf hlt,List.all_cons]at hg
   have c2:=cS k hlt
   cases hb:sndB p (nth p.routes k) with
   |true =>
    rw[hb]at c2 hg
    rw[Bool.true_and]at hg
    (repeat' first|refine zaa [0,1,2,3,6,11,20,21] fun K hK=>?_|(refine hK.go ?_;clear hK K)|with_reducible exact wT|refine wA ?_|(refine wB (fun h=>?_) (fun h=>?_)<;>first|exact wN h|subst (h:(_:Bool)=_)|skip)|(refine wQ ?_;clear hQ hR hE hM)|refine wC c2 ?_|fail)
    all_goals first|(exfalso;contradiction)|exact ⟨k+1,by omega,⟨by omega,hg⟩,by omega⟩
   |false =>
    rw[hb]at c2 hg
    rw[Bool.false_and]at hg
    (repeat' first|refine zaa [0,1,2,3,6,11,20,21] fun K hK=>?_|(refine hK.go ?_;clear hK K)|with_reducible exact wT|refine wA ?_|(refine wB (fun h=>?_) (fun h=>?_)<;>first|exact wN h|subst (h:(_:Bool)=_)|skip)|(refine wQ ?_;clear hQ hR hE hM)|refine wC c2 ?_|fail)
    all_goals first|(exfalso;contradiction)|exact congrArg AV.b hg|exact hg
  ·rw[List.drop_eq_nil_of_le hge,List.all_nil]at hg
   (repeat' first|refine zaa [0,1,2,3,6,11,20,21] fun K hK=>?_|(refine hK.go ?_;clear hK K)|with_reducible exact wT|refine wA ?_|(refine wB (fun h=>?_) (fun h=>?_)<;>first|exact wN h|subst (h:(_:Bool)=_)|skip)|(refine wQ ?_;clear hQ hR hE hM)|fail)
   all_goals first|exact congrArg AV.b hg|exact hg
 ·have hok:zb1 p=false:=by simpa using hok
  rw[hok]at c1
  rw[hok,Bool.false_and]
  refine PC.fn hH cd295 fun w0 M Q hM hE hQ hR=>?_;dsimp only[cd295,qm,ql,qf,qi,qb,qc,qN,qt]at hQ |-
  (repeat' first|refine zaa [0,1,2,3,6,11,20,21] fun K hK=>?_|(refine hK.go ?_;clear hK K)|with_reducible exact wT|refine wA ?_|(refine wB (fun h=>?_) (fun h=>?_)<;>first|exact wN h|subst (h:(_:Bool)=_)|skip)|(refine wQ ?_;clear hQ hR hE hM)|refine wC c1 ?_|fail)
  all_goals first|rfl|(exfalso;contradiction)
theorem zqg {p:Pln} (h:zbd p=true):zb1 p=true:=by unfold zbd at h;rw[Bool.and_eq_true]at h;exact h.1
theorem zek (hH:HasAll P inv) (p:Pln) (hp:Sm p) (h:zbd p=true) {m:Nat} (hm:m<p.routes.length):PC P inv 312 [.agg p.c,.n m] (·=.agg (zah p (nth p.routes m)).1.c):=by
 have hA:=zrR (zqg h)
 have hr:=hA.rte _ (zab hm)
 have hw:=zhw hA.sec hA.sgn hA.pts hr
 cases hV:zi5 p (nth p.routes m) with
 |none =>
  rw[hV]at hw
  have h0:=(zaH h).2.1 _ (zab hm)
  rw[h0]at hw
  cases hw
 |some v =>
  have c1:=znN hH p hp hA.sec hA.sgn hA.pts hm hr hV
  clear hA hr hw hV
  generalize (zah p (nth p.routes m)).1=w at *
  refine PC.fn hH cd312 fun w0 M Q hM hE hQ hR=>?_;dsimp only[cd312,qm,qN,qt]at hQ |-
  (repeat' first|refine zaa [0,1,2,4] fun K hK=>?_|(refine hK.go ?_;clear hK K)|with_reducible exact wT|refine wA ?_|(refine wB (fun h=>?_) (fun h=>?_)<;>first|exact wN h|subst (h:(_:Bool)=_)|skip)|(refine wQ ?_;clear hQ hR hE hM)|refine wC c1 ?_|fail)
  all_goals first|rfl
theorem znY (hH:HasAll P inv) (p:Pln) (hp:Sm p) (h:zbd p=true) {m:Nat} (hm:m<p.routes.length) (l:Lock):PC P inv 302 [.agg p.c,.agg l.c,.n m] (·=.sl 1 ((zbq (zah p (nth p.routes m)).1 l).map zcG)):=by
 have c1:=zek hH p hp h hm
 have hwl:=zbf (zaH h).1 (zab hm)
 generalize (zah p (nth p.routes m)).1=w at *
 clear h
 unfold zbq
 by_cases h0:l.phase=0
 ·rw[if_pos h0]
  refine PC.fn hH cd302 fun w0 M Q hM hE hQ hR=>?_;dsimp only[cd302,qm,ql,qf,qi,qb,qc,qN,qt]at hQ |-
  (repeat' first|refine zaa [0,1,2,3,4,6,7,8,9,12,23] fun K hK=>?_|(refine hK.go ?_;clear hK K)|with_reducible exact wT|refine wA ?_|(refine wB (fun h=>?_) (fun h=>?_)<;>first|exact wN h|subst (h:(_:Bool)=_)|skip)|(refine wQ ?_;clear hQ hR hE hM)|fail)
  all_goals first|rfl|(exfalso;contradiction)
 ·rw[if_neg h0]
  have hmx:(if l.gone<0 then (0:Int) else l.gone)=((l.gone.toNat:Nat):Int):=by split<;>omega
  generalize l.gone.toNat=g at *
  refine PC.fn hH cd302 fun w0 M Q hM hE hQ hR=>?_;dsimp only[cd302,qm,ql,qf,qi,qb,qc,qN,qt]at hQ |-
  (have hX:=@hmx;(repeat' first|refine zaa [0,1,2,3,4,6,7,8,9,12,23] fun K hK=>?_|(refine hK.go ?_;clear hK K)|with_reducible exact wT|refine wA ?_|(refine wB (fun h=>?_) (fun h=>?_)<;>first|exact wN h|subst (h:(_:Bool)=_)|skip)|(refine wQ ?_;clear hQ hR hE hM)|refine wC c1 ?_|fail);all_goals clear hX)
  all_goals first|(exfalso;contradiction)|skip
  refine AWp.empty 8 3 1 rfl (Nat.zero_le _) (by (refine wD ?_;try with_reducible exact wT)) (by (refine wD ?_;try with_reducible exact wT)) ?_
  (refine wD ?_;try with_reducible exact wT)
  refine zam (ι:=Nat×(List Int)) [6,7,8,9] (fun z=>[(8,.sm 3 z.2.length 0 z.2.length 1),(9,.n ((g+z.1:Nat):Int))]) (fun z=>[(3,.cells (z.2.map zcG).flatten (decide (0<z.2.length)))]) (fun z=>z.1) ((w.path.length-g)) (fun z=>(z.2.length=z.1)/\(z.2++w.path.drop (g+z.1)=w.path.drop g)) (0,([]:List Int)) ?_;rintro ⟨k,A⟩ ⟨hk,hA,hgo⟩;(try dsimp only at hk hA hgo |-);rcases Nat.lt_or_ge k (w.path.length-g) with hlt|hge
  ·have hlt2:g+k<w.path.length:=by omega
   rw[zaf hlt2]at hgo
   (have hX:=@Int.toNat_natCast;(repeat' first|refine zaa [0,1,2,3,4,6,7,8,9,12,23] fun K hK=>?_|(refine hK.go ?_;clear hK K)|with_reducible exact wT|refine wA ?_|(refine wB (fun h=>?_) (fun h=>?_)<;>first|exact wN h|subst (h:(_:Bool)=_)|skip)|(refine wQ ?_;clear hQ hR hE hM)|fail);all_goals clear hX)
   all_goals first|(exfalso;omega)|(exact nY (k+1,A++[nth w.path (g+k)]) ⟨by (try dsimp only);omega,by (try dsimp only);simp[hA],by (try dsimp only);rw[<-hgo];simp[Nat.add_assoc]⟩;done)
  ·rw[List.drop_eq_nil_of_le (show w.path.length<=g+k by omega),List.append_nil]at hgo
   have hgo2:w.path.drop g++w.over=A++w.over:=by rw[hgo]
   have f0:(A.map zcG).flatten++(w.over.map zcG).flatten=((A++w.over).map zcG).flatten:=by simp
   have f1:A.length+w.over.length=(A++w.over).length:=by simp
   generalize A++w.over=all at *
   (have hX:=zA @f0 @f1;(repeat' first|refine zaa [0,1,2,3,4,6,7,8,9,12,23] fun K hK=>?_|(refine hK.go ?_;clear hK K)|with_reducible exact wT|refine wA ?_|(refine wB (fun h=>?_) (fun h=>?_)<;>first|exact wN h|subst (h:(_:Bool)=_)|skip)|(refine wQ ?_;clear hQ hR hE hM)|fail);all_goals clear hX)
   all_goals first|(exfalso;omega)|(rw[hgo2];done)|(rw[hgo2];rfl)
theorem zoc (hH:HasAll P inv) (p:Pln) (hp:Sm p) (h:zbd p=true) {m:Nat} (hm:m<p.routes.length) (l:Lock):PC P inv 303 [.agg p.c,.agg l.c,.n m] (·=.sl 3 (((zbJ (zah p (nth p.routes m)).1 l).filter (zb4 l)).map AskR.c)):=by
 have c1:=zek hH p hp h hm
 have hwl:=zbf (zaH h).1 (zab hm)
 generalize (zah p (nth p.routes m)).1=w at *
 clear h
 unfold zbJ
 by_cases h0:l.phase=0
 ·rw[if_pos h0]
  refine PC.fn hH cd303 fun w0 M Q hM hE hQ hR=>?_;dsimp only[cd303,qm,ql,qf,qi,qb,qc,qv,qN,qF,qt]at hQ |-
  (repeat' first|refine zaa [0,1,2,3,4,6,7,8,9,12,20,40] fun K hK=>?_|(refine hK.go ?_;clear hK K)|with_reducible exact wT|refine wA ?_|(refine wB (fun h=>?_) (fun h=>?_)<;>first|exact wN h|subst (h:(_:Bool)=_)|skip)|(refine wQ ?_;clear hQ hR hE hM)|fail)
  all_goals first|rfl|(exfalso;contradiction)
 ·rw[if_neg h0]
  refine PC.fn hH cd303 fun w0 M Q hM hE hQ hR=>?_;dsimp only[cd303,qm,ql,qf,qi,qb,qc,qv,qN,qF,qt]at hQ |-
  (repeat' first|refine zaa [0,1,2,3,4,6,7,8,9,12,20,40] fun K hK=>?_|(refine hK.go ?_;clear hK K)|with_reducible exact wT|refine wA ?_|(refine wB (fun h=>?_) (fun h=>?_)<;>first|exact wN h|subst (h:(_:Bool)=_)|skip)|(refine wQ ?_;clear hQ hR hE hM)|refine wC c1 ?_|fail)
  all_goals first|(exfalso;contradiction)|skip
  refine AWp.empty 8 3 3 rfl (Nat.zero_le _) (by (refine wD ?_;try with_reducible exact wT)) (by (refine wD ?_;try with_reducible exact wT)) ?_
  (refine wD ?_;try with_reducible exact wT)
  refine zam (ι:=Nat×(List AskR)) [4,6,7,8,9] (fun z=>[(8,.sm 3 (z.2.length*3) 0 z.2.length 3),(9,.n z.1)]) (fun z=>[(3,.cells (z.2.map AskR.c).flatten (decide (0<z.2.length)))]) (fun z=>z.1) (w.asks.length) (fun z=>(z.2.length<=z.1)/\(z.2++(w.asks.drop z.1).filter (zb4 l)=w.asks.filter (zb4 l))) (0,([]:List AskR)) ?_;rintro ⟨k,A⟩ ⟨hk,hA,hgo⟩;(try dsimp only at hk hA hgo |-);rcases Nat.lt_or_ge k w.asks.length with hlt|hge
  ·rw[zaf hlt,List.filter_cons]at hgo
   by_cases hn:(nth w.asks k).pos<0
   ·rw[if_pos (by unfold zb4;simp[hn])]at hgo
    (repeat' first|refine zaa [0,1,2,3,4,6,7,8,9,12,20,40] fun K hK=>?_|(refine hK.go ?_;clear hK K)|with_reducible exact wT|refine wA ?_|(refine wB (fun h=>?_) (fun h=>?_)<;>first|exact wN h|subst (h:(_:Bool)=_)|skip)|(refine wQ ?_;clear hQ hR hE hM)|fail)
    all_goals first|(exfalso;omega)|(exact nY (k+1,A++[nth w.asks k]) ⟨by (try dsimp only);omega,by (try dsimp only);simp;omega,by (try dsimp only);rw[<-hgo];simp⟩;done)
   ·by_cases hg:l.gone<=(nth w.asks k).pos
    ·rw[if_pos (by unfold zb4;simp[hg])]at hgo
     (repeat' first|refine zaa [0,1,2,3,4,6,7,8,9,12,20,40] fun K hK=>?_|(refine hK.go ?_;clear hK K)|with_reducible exact wT|refine wA ?_|(refine wB (fun h=>?_) (fun h=>?_)<;>first|exact wN h|subst (h:(_:Bool)=_)|skip)|(refine wQ ?_;clear hQ hR hE hM)|fail)
     all_goals first|(exfalso;omega)|(exact nY (k+1,A++[nth w.asks k]) ⟨by (try dsimp only);omega,by (try dsimp only);simp;omega,by (try dsimp only);rw[<-hgo];simp⟩;done)
    ·rw[if_neg (by unfold zb4;simp[hn,hg])]at hgo
     (repeat' first|refine zaa [0,1,2,3,4,6,7,8,9,12,20,40] fun K hK=>?_|(refine hK.go ?_;clear hK K)|with_reducible exact wT|refine wA ?_|(refine wB (fun h=>?_) (fun h=>?_)<;>first|exact wN h|subst (h:(_:Bool)=_)|skip)|(refine wQ ?_;clear hQ hR hE hM)|fail)
     all_goals first|(exfalso;omega)|(exact nY (k+1,A) ⟨by (try dsimp only);omega,by (try dsimp only);omega,hgo⟩;done)
  ·rw[List.drop_eq_nil_of_le hge,List.filter_nil,List.append_nil]at hgo
   (repeat' first|refine zaa [0,1,2,3,4,6,7,8,9,12,20,40] fun K hK=>?_|(refine hK.go ?_;clear hK K)|with_reducible exact wT|refine wA ?_|(refine wB (fun h=>?_) (fun h=>?_)<;>first|exact wN h|subst (h:(_:Bool)=_)|skip)|(refine wQ ?_;clear hQ hR hE hM)|fail)
   all_goals first|(subst hgo;rfl)|(rw[<-hgo];done)
def trkB (x:Track) (y:Section):Bool:=!decide (x.id=y.id)||decide (2<x.is)
def swtB (x:Switch) (y:Pnt):Bool:=!decide (x.id=y.id)||(decide (x.lie<0)||(decide (2<x.lie)||(decide (x.call<0)||decide (2<x.call))))
def lckB (x:Lock) (y:Rte):Bool:=!decide (x.id=y.id)||!zax x y
def prtF (p:Pln) (s:State):Bool :=
 cond (!decide ((s.tracks.length:Int)=p.sections.length)||(!decide ((s.switches.length:Int)=p.points.length)||!decide ((s.locks.length:Int)=p.routes.length))) false
  (zaL (fun i _ za5=>cond (trkB (nth s.tracks i) (nth p.sections i)) false (za5 ()))
   (fun _=>zaL (fun i _ za5=>cond (swtB (nth s.switches i) (nth p.points i)) false (za5 ()))
    (fun _=>zaL (fun i _ za5=>cond (lckB (nth s.locks i) (nth p.routes i)) false (za5 ())) (fun _=>true) s.locks.length 0 ())
    s.switches.length 0 ()) s.tracks.length 0 ())
theorem zkq {n:Nat} {q:Nat->Bool} {fin:Unit->Bool} {X:Bool} (h1:∀ i,i<n->q i=true->false=X) (h2:(∀ i,i<n->q i=false)->fin ()=X):zaL (fun i _ za5=>cond (q i) false (za5 ())) fin n 0 ()=X:=by
 refine zaN (·=X) (fun i _=>∀ j,j<i->q j=false) (fun j hj=>by omega) ?_ fun _ h=>h2 h
 intro i _ za5 hi hI hn
 cases hq:q i with
 |true=>rw[cond_true];exact h1 i hi hq
 |false =>
  rw[cond_false]
  refine hn () fun j hj=>?_
  rcases Nat.lt_or_ge j i with h|h
  ·exact hI j h
  ·obtain rfl:j=i:=by omega
   exact hq
theorem prtF_eq (p:Pln) (s:State):prtF p s=zaj p s:=by
 generalize hX:zaj p s=X
 have t1:∀ x y,trkB x y=!ze6 x y:=fun x y=>by
  unfold trkB ze6
  rw[Bool.not_and]
  congr 1
  rw[Bool.eq_iff_iff]
  simp
 have t2:∀ x y,swtB x y=!zfz x y:=fun x y=>by
  unfold swtB zfz zfo
  rw[Bool.eq_iff_iff]
  simp only[Bool.or_eq_true,Bool.not_eq_true',Bool.and_eq_false_imp,decide_eq_true_eq,decide_eq_false_iff_not,Bool.and_eq_true,Bool.not_eq_true,Bool.and_eq_false_imp]
  constructor
  ·rintro (h|h|h|h|h)
   ·intro h1;exact absurd h1 h
   ·intro _ h1;omega
   ·intro _ h1;omega
   ·intro _ _ h1;omega
   ·intro _ _ h1;omega
  ·intro h
   by_cases h1:x.id=y.id
   ·have h2:=h h1
    by_cases h3:0<=x.lie/\x.lie<=2
    ·have h4:=h2 h3
     by_cases h5:0<=x.call
     ·have h6:=h4 h5;omega
     ·omega
    ·omega
   ·exact .inl h1
 have t3:∀ x y,lckB x y=!zbR x y:=fun x y=>by
  unfold lckB zbR
  rw[Bool.not_and]
 have hiff:X=true↔(s.tracks.length=p.sections.length/\∀ i,i<s.tracks.length->ze6 (nth s.tracks i) (nth p.sections i)=true)/\(s.switches.length=p.points.length/\∀ i,i<s.switches.length->zfz (nth s.switches i) (nth p.points i)=true)/\(s.locks.length=p.routes.length/\∀ i,i<s.locks.length->zbR (nth s.locks i) (nth p.routes i)=true):=by
  rw[<-hX]
  unfold zaj
  simp only[Bool.and_eq_true,zbH]
 have bad:¬((s.tracks.length=p.sections.length/\∀ i,i<s.tracks.length->ze6 (nth s.tracks i) (nth p.sections i)=true)/\(s.switches.length=p.points.length/\∀ i,i<s.switches.length->zfz (nth s.switches i) (nth p.points i)=true)/\(s.locks.length=p.routes.length/\∀ i,i<s.locks.length->zbR (nth s.locks i) (nth p.routes i)=true))->false=X:=fun h=>by
  cases X with
  |false=>rfl
  |true=>exact absurd (hiff.1 rfl) h
 unfold prtF
 by_cases hl:s.tracks.length=p.sections.length/\s.switches.length=p.points.length/\s.locks.length=p.routes.length
 ·rw[decide_eq_true (show (s.tracks.length:Int)=p.sections.length by omega),decide_eq_true (show (s.switches.length:Int)=p.points.length by omega),decide_eq_true (show (s.locks.length:Int)=p.routes.length by omega)]
  show zaL _ _ _ _ _=X
  refine zkq (fun i hi hq=>bad fun h=>?_) fun h1=>zkq (fun i hi hq=>bad fun h=>?_) fun h2=>zkq (fun i hi hq=>bad fun h=>?_) fun h3=>(hiff.2 ⟨⟨hl.1,fun i hi=>?_⟩,⟨hl.2.1,fun i hi=>?_⟩,hl.2.2,fun i hi=>?_⟩).symm
  ·rw[t1,h.1.2 i hi]at hq;cases hq
  ·rw[t2,h.2.1.2 i hi]at hq;cases hq
  ·rw[t3,h.2.2.2 i hi]at hq;cases hq
  ·have:=h1 i hi;rw[t1]at this;simpa using this
  ·have:=h2 i hi;rw[t2]at this;simpa using this
  ·have:=h3 i hi;rw[t3]at this;simpa using this
 ·have:(!decide ((s.tracks.length:Int)=p.sections.length)||(!decide ((s.switches.length:Int)=p.points.length)||!decide ((s.locks.length:Int)=p.routes.length)))=true:=by
   rw[<-Bool.not_eq_false]
   intro hf
   simp only[Bool.or_eq_false_iff,Bool.not_eq_false',decide_eq_true_eq]at hf
   exact hl ⟨by omega,by omega,by omega⟩
  rw[this,cond_true]
  exact bad fun h=>hl ⟨h.1.1,h.2.1.1,h.2.2.1⟩
def mayF (s:State) (hd:Nat->List Int) (as:Nat->List AskR):Bool :=
 zaL (fun i (st:List Bool×List Int) za5 =>
   zaL (fun k (H:List Bool) next2=>cond (nth H (nth (hd i) k).toNat) false (next2 (H.set (nth (hd i) k).toNat true)))
    (fun H=>zaL (fun k (A:List Int) next3 =>
      cond (!decide (nth A (nth (as i) k).pnt.toNat=0)&&!decide (nth A (nth (as i) k).pnt.toNat=(nth (as i) k).lie)||!decide (za9 s (nth (as i) k).pnt=(nth (as i) k).lie)) false (next3 (A.set (nth (as i) k).pnt.toNat (nth (as i) k).lie)))
     (fun A=>za5 (H,A)) (as i).length 0 st.2) (hd i).length 0 st.1)
  (fun _=>true) s.locks.length 0 (List.replicate 100 false,List.replicate 100 0)
theorem mayF_eq {p:Pln} {s:State} (ho:zbd p=true) (hpa:zaj p s=true):mayF s (zc4 p s) (zdj p s)=decide (zad p s=0):=by
 have hok:=(zaH ho).1
 have hpl:=zak hpa
 have hdr:∀ i,i<s.locks.length->∀ m∈zc4 p s i,0<=m/\m<=99:=fun i hi m hm=>by
  have hr:nth p.routes i∈p.routes:=zab (by omega)
  have hwp:=zbv ((zaH ho).2.1 _ hr)
  have h1:m∈(nth p.routes i).path++(nth p.routes i).over:=by
   unfold zc4 zbq at hm
   split at hm
   ·cases hm
   ·rw[hwp.1,hwp.2.1]at hm
    rcases List.mem_append.1 hm with h|h
    ·exact List.mem_append.2 (.inl (List.mem_of_mem_drop h))
    ·exact List.mem_append.2 (.inr h)
  obtain ⟨q,hq,e⟩:=(zb8 hok hr).1 m h1
  have:=zcQ hok hq
  omega
 have hdn:∀ i,i<s.locks.length->(zc4 p s i).Nodup:=fun i hi=>by
  have hr:nth p.routes i∈p.routes:=zab (by omega)
  have hwp:=zbv ((zaH ho).2.1 _ hr)
  unfold zc4 zbq
  split
  ·exact List.nodup_nil
  ·rw[hwp.1,hwp.2.1]
   exact (zb8 hok hr).2.sublist ((List.drop_sublist _ _).append (List.Sublist.refl _))
 have har:∀ i,i<s.locks.length->∀ a∈zdj p s i,(1<=a.pnt/\a.pnt<=99)/\(a.lie=1\/a.lie=2):=fun i hi a ha=>by
  have hr:nth p.routes i∈p.routes:=zab (by omega)
  have h1:a∈(zah p (nth p.routes i)).1.asks:=by
   unfold zdj at ha
   have:=(List.mem_filter.1 ha).1
   unfold zbJ at this
   split at this
   ·cases this
   ·exact this
  exact (zbC hok hr h1).2
 generalize hX:decide (zad p s=0)=X
 have hiff:X=true↔(∀ i j,i<s.locks.length->j<s.locks.length->i≠j->∀ m∈zc4 p s i,m∉zc4 p s j)/\∀ i,i<s.locks.length->∀ a∈zdj p s i,za9 s a.pnt=a.lie:=by
  rw[<-hX,decide_eq_true_eq,zeo]
  exact ⟨fun h=>h.2.2,fun h=>⟨ho,hpa,h⟩⟩
 have bad:¬((∀ i j,i<s.locks.length->j<s.locks.length->i≠j->∀ m∈zc4 p s i,m∉zc4 p s j)/\∀ i,i<s.locks.length->∀ a∈zdj p s i,za9 s a.pnt=a.lie)->false=X:=fun h=>by
  cases X with
  |false=>rfl
  |true=>exact absurd (hiff.1 rfl) h
 unfold mayF
 refine zaN (·=X) (fun i (st:List Bool×List Int)=>(st.1.length=100/\st.2.length=100)/\(∀ m:Int,0<=m->m<=99->(nth st.1 m.toNat=true↔∃ j,j<i/\m∈zc4 p s j))/\(∀ m:Int,0<=m->m<=99->nth st.2 m.toNat=0\/za9 s m=nth st.2 m.toNat) /\
   (∀ j k,j<i->k<i->j≠k->∀ m∈zc4 p s j,m∉zc4 p s k)/\∀ j,j<i->∀ a∈zdj p s j,za9 s a.pnt=a.lie) ?_ ?_ ?_
 ·refine ⟨⟨by simp,by simp⟩,fun m h1 h2=>?_,fun m h1 h2=>.inl (zdz _ _ _ (by omega)),fun j k hj=>by omega,fun j hj=>by omega⟩
  rw[zdz _ _ _ (by omega)]
  exact ⟨fun h=>(by cases h),fun ⟨j,hj,_⟩=>by omega⟩
 ·rintro i ⟨H,A⟩ za5 hi ⟨⟨hHl,hAl⟩,hH,hA,hap,hca⟩ hn
  dsimp only at hHl hAl hH hA |-
  refine zaN (·=X) (fun k (H:List Bool)=>H.length=100/\(∀ m:Int,0<=m->m<=99->(nth H m.toNat=true↔(∃ j,j<i/\m∈zc4 p s j)\/∃ q,q<k/\nth (zc4 p s i) q=m))/\∀ q,q<k->∀ j,j<i->nth (zc4 p s i) q∉zc4 p s j) ?_ ?_ ?_
  ·exact ⟨hHl,fun m h1 h2=>(hH m h1 h2).trans ⟨fun h=>.inl h,fun h=>h.elim id fun ⟨q,hq,_⟩=>by omega⟩,fun q hq=>by omega⟩
  ·rintro k H next2 hk ⟨hHl,hH,hno⟩ hn2
   have hm:=hdr i hi _ (zab hk)
   have hHk:=hH _ hm.1 hm.2
   cases hb:nth H (nth (zc4 p s i) k).toNat with
   |true =>
    rw[cond_true]
    refine bad fun h=>?_
    rcases hHk.1 hb with ⟨j,hj,hmj⟩|⟨q,hq,e⟩
    ·exact h.1 i j hi (by omega) (by omega) _ (zab hk) hmj
    ·have:=zig.1 (hdn i hi) k hk q hq
     exact this e
   |false =>
    rw[cond_false]
    refine hn2 _ ⟨by simpa using hHl,fun m h1 h2=>?_,fun q hq j hj=>?_⟩
    ·rw[za7 _ _ _ _ (by omega)]
     by_cases e:m=nth (zc4 p s i) k
     ·subst e
      rw[if_pos rfl]
      exact ⟨fun _=>.inr ⟨k,by omega,rfl⟩,fun _=>rfl⟩
     ·rw[if_neg (by omega),hH m h1 h2]
      constructor
      ·rintro (h|⟨q,hq,eq⟩)
       ·exact .inl h
       ·exact .inr ⟨q,by omega,eq⟩
      ·rintro (h|⟨q,hq,eq⟩)
       ·exact .inl h
       ·rcases Nat.lt_or_ge q k with h3|h3
        ·exact .inr ⟨q,h3,eq⟩
        ·obtain rfl:q=k:=by omega
         exact absurd eq.symm e
    ·rcases Nat.lt_or_ge q k with h3|h3
     ·exact hno q h3 j hj
     ·obtain rfl:q=k:=by omega
      intro hmj
      have:=hHk.2 (.inl ⟨j,hj,hmj⟩)
      rw[hb]at this
      cases this
  ·rintro H ⟨hHl,hH,hno⟩
   refine zaN (·=X) (fun k (A:List Int)=>A.length=100/\(∀ m:Int,0<=m->m<=99->nth A m.toNat=0\/za9 s m=nth A m.toNat)/\∀ q,q<k->za9 s (nth (zdj p s i) q).pnt=(nth (zdj p s i) q).lie) ⟨hAl,hA,fun q hq=>by omega⟩ ?_ ?_
   ·rintro k A next3 hk ⟨hAl,hA,hcq⟩ hn3
    have hm:=har i hi _ (zab hk)
    by_cases hc:za9 s (nth (zdj p s i) k).pnt=(nth (zdj p s i) k).lie
    ·have hAk:=hA (nth (zdj p s i) k).pnt (by omega) (by omega)
     have:(!decide (nth A (nth (zdj p s i) k).pnt.toNat=0)&&!decide (nth A (nth (zdj p s i) k).pnt.toNat=(nth (zdj p s i) k).lie)||!decide (za9 s (nth (zdj p s i) k).pnt=(nth (zdj p s i) k).lie))=false:=by
      rcases hAk with h|h
      ·simp[h,hc]
      ·simp[<-h,hc]
     rw[this,cond_false]
     refine hn3 _ ⟨by simpa using hAl,fun m h1 h2=>?_,fun q hq=>?_⟩
     ·rw[za7 _ _ _ _ (by omega)]
      by_cases e:m=(nth (zdj p s i) k).pnt
      ·rw[if_pos (by rw[e]),e]
       exact .inr hc
      ·rw[if_neg (by omega)]
       exact hA m h1 h2
     ·rcases Nat.lt_or_ge q k with h3|h3
      ·exact hcq q h3
      ·obtain rfl:q=k:=by omega
       exact hc
    ·rw[decide_eq_false hc,Bool.not_false,Bool.or_true,cond_true]
     exact bad fun h=>hc (h.2 i hi _ (zab hk))
   ·rintro A ⟨hAl,hA,hcq⟩
    refine hn (H,A) ⟨⟨hHl,hAl⟩,fun m h1 h2=>?_,hA,fun j k hj hk hne m hm=>?_,fun j hj a ha=>?_⟩
    ·rw[hH m h1 h2]
     constructor
     ·rintro (⟨j,hj,h⟩|⟨q,hq,e⟩)
      ·exact ⟨j,by omega,h⟩
      ·exact ⟨i,by omega,by rw[<-e];exact zab hq⟩
     ·rintro ⟨j,hj,h⟩
      rcases Nat.lt_or_ge j i with h3|h3
      ·exact .inl ⟨j,h3,h⟩
      ·obtain rfl:j=i:=by omega
       obtain ⟨q,hq,e⟩:=zbN h
       exact .inr ⟨q,hq,e⟩
    ·have hno2:∀ j,j<i->∀ m∈zc4 p s i,m∉zc4 p s j:=fun j hj m hm=>by
      obtain ⟨q,hq,rfl⟩:=zbN hm
      exact hno q hq j hj
     rcases Nat.lt_or_ge j i with h3|h3
     ·rcases Nat.lt_or_ge k i with h4|h4
      ·exact hap j k h3 h4 hne m hm
      ·obtain rfl:k=i:=by omega
       exact fun hm'=>hno2 j h3 m hm' hm
     ·obtain rfl:j=i:=by omega
      exact hno2 k (by omega) m hm
    ·rcases Nat.lt_or_ge j i with h3|h3
     ·exact hca j h3 a ha
     ·obtain rfl:j=i:=by omega
      obtain ⟨q,hq,rfl⟩:=zbN ha
      exact hcq q hq
 ·rintro st ⟨_,_,_,hap,hca⟩
  exact (hiff.2 ⟨hap,hca⟩).symm
theorem zqi (hH:HasAll P inv) (p:Pln) (hp:Sm p) (s:State) (hs:SmS s) (hpa:∀ i,i<p.routes.length->(nth p.routes i).path.length<=1000000):PC P inv 304 [.agg p.c,.agg s.c] (·=.b (zaj p s)):=by
 have hl1:=hs.1
 have hl2:=hs.2.1
 have hl3:=hs.2.2
 have hp1:=hp.sec
 have hp2:=hp.pts
 have hp3:=hp.rte
 obtain ⟨X,hF⟩:∃ X,prtF p s=X:=⟨_,rfl⟩
 rw[<-prtF_eq,hF]
 have cP:=fun (i:Nat) (hi:i<p.routes.length)=>zqh hH (nth s.locks i) (nth p.routes i) (hpa i hi)
 clear hs hp
 unfold prtF trkB swtB lckB at hF
 refine PC.fn hH cd304 fun w0 M Q hM hE hQ hR=>?_;dsimp only[cd304,qm,ql,qf,qi,qb,qc,qv,qN,qF,qt]at hQ |-
 skip
 (repeat' first|refine zaa [0,1,2,3,4,5,6,7,8,33,38,62,67,103,108,143,145] fun K hK=>?_|(refine hK.go ?_;clear hK K)|with_reducible exact wT|refine wA ?_|(refine wE (fun h0 h=>?_) (fun h0 h=>?_)<;>first|exact wN h|((try replace hF:=wX hF);clear h0;first|exact hF.elim|((try subst (h:(_:Bool)=_));try replace hF:=wX hF)))|(refine wQ ?_;clear hQ hR hE hM)|fail)
 all_goals first|exact hF|(exfalso;contradiction)|(exfalso;omega)|skip
 refine zaR hF fun Bd Ed hBd hEd hF=>?_;refine zam (ι:=Nat) [2,3,4,5] (fun z=>[(5,.n z)]) (fun _=>[]) (fun z=>z) (s.tracks.length) (fun z=>(zaL Bd Ed (s.tracks.length-z) z ()=X)) (0) ?_;rintro i ⟨hk,hF⟩;(try dsimp only at hk hF |-);rcases Nat.lt_or_ge i s.tracks.length with hlt|hge
 ·rw[zav hBd hlt]at hF;(try dsimp only at hF)
  (repeat' first|refine zaa [0,1,2,3,4,5,6,7,8,33,38,62,67,103,108,143,145] fun K hK=>?_|(refine hK.go ?_;clear hK K)|with_reducible exact wT|refine wA ?_|(refine wE (fun h0 h=>?_) (fun h0 h=>?_)<;>first|exact wN h|((try replace hF:=wX hF);clear h0;first|exact hF.elim|((try subst (h:(_:Bool)=_));try replace hF:=wX hF)))|(refine wQ ?_;clear hQ hR hE hM)|fail)
  all_goals first|exact hF|(exfalso;contradiction)|(exfalso;omega)|exact congrArg AV.b hF|exact nX (i+1)
 ·rw[zaQ hge,hEd]at hF;(try dsimp only at hF)
  (repeat' first|refine zaa [0,1,2,3,4,5,6,7,8,33,38,62,67,103,108,143,145] fun K hK=>?_|(refine hK.go ?_;clear hK K)|with_reducible exact wT|refine wA ?_|(refine wE (fun h0 h=>?_) (fun h0 h=>?_)<;>first|exact wN h|((try replace hF:=wX hF);clear h0;first|exact hF.elim|((try subst (h:(_:Bool)=_));try replace hF:=wX hF)))|(refine wQ ?_;clear hQ hR hE hM)|fail)
  refine zaR hF fun Bd Ed hBd hEd hF=>?_;refine zam (ι:=Nat) [2,3,4,6] (fun z=>[(6,.n z)]) (fun _=>[]) (fun z=>z) (s.switches.length) (fun z=>(zaL Bd Ed (s.switches.length-z) z ()=X)) (0) ?_;rintro i ⟨hk,hF⟩;(try dsimp only at hk hF |-);rcases Nat.lt_or_ge i s.switches.length with hlt|hge
  ·rw[zav hBd hlt]at hF;(try dsimp only at hF)
   (repeat' first|refine zaa [0,1,2,3,4,5,6,7,8,33,38,62,67,103,108,143,145] fun K hK=>?_|(refine hK.go ?_;clear hK K)|with_reducible exact wT|refine wA ?_|(refine wE (fun h0 h=>?_) (fun h0 h=>?_)<;>first|exact wN h|((try replace hF:=wX hF);clear h0;first|exact hF.elim|((try subst (h:(_:Bool)=_));try replace hF:=wX hF)))|(refine wQ ?_;clear hQ hR hE hM)|fail)
   all_goals first|exact hF|(exfalso;contradiction)|(exfalso;omega)|exact congrArg AV.b hF|exact nX (i+1)
  ·rw[zaQ hge,hEd]at hF;(try dsimp only at hF)
   (repeat' first|refine zaa [0,1,2,3,4,5,6,7,8,33,38,62,67,103,108,143,145] fun K hK=>?_|(refine hK.go ?_;clear hK K)|with_reducible exact wT|refine wA ?_|(refine wE (fun h0 h=>?_) (fun h0 h=>?_)<;>first|exact wN h|((try replace hF:=wX hF);clear h0;first|exact hF.elim|((try subst (h:(_:Bool)=_));try replace hF:=wX hF)))|(refine wQ ?_;clear hQ hR hE hM)|fail)
   refine zaR hF fun Bd Ed hBd hEd hF=>?_;refine zam (ι:=Nat) [2,3,4,8] (fun z=>[(8,.n z)]) (fun _=>[]) (fun z=>z) (s.locks.length) (fun z=>(zaL Bd Ed (s.locks.length-z) z ()=X)) (0) ?_;rintro i ⟨hk,hF⟩;(try dsimp only at hk hF |-);rcases Nat.lt_or_ge i s.locks.length with hlt|hge
   ·rw[zav hBd hlt]at hF;(try dsimp only at hF)
    have c1:=cP i (by omega)
    generalize zax (nth s.locks i) (nth p.routes i)=b at *
    (repeat' first|refine zaa [0,1,2,3,4,5,6,7,8,33,38,62,67,103,108,143,145] fun K hK=>?_|(refine hK.go ?_;clear hK K)|with_reducible exact wT|refine wA ?_|(refine wE (fun h0 h=>?_) (fun h0 h=>?_)<;>first|exact wN h|((try replace hF:=wX hF);clear h0;first|exact hF.elim|((try subst (h:(_:Bool)=_));try replace hF:=wX hF)))|(refine wQ ?_;clear hQ hR hE hM)|refine wC c1 ?_|fail)
    all_goals first|exact hF|(exfalso;contradiction)|(exfalso;omega)|exact congrArg AV.b hF|exact nX (i+1)
   ·rw[zaQ hge,hEd]at hF;(try dsimp only at hF)
    (repeat' first|refine zaa [0,1,2,3,4,5,6,7,8,33,38,62,67,103,108,143,145] fun K hK=>?_|(refine hK.go ?_;clear hK K)|with_reducible exact wT|refine wA ?_|(refine wE (fun h0 h=>?_) (fun h0 h=>?_)<;>first|exact wN h|((try replace hF:=wX hF);clear h0;first|exact hF.elim|((try subst (h:(_:Bool)=_));try replace hF:=wX hF)))|(refine wQ ?_;clear hQ hR hE hM)|fail)
    all_goals first|exact hF|exact congrArg AV.b hF
def zmj (p:Pln) (s:State):Bool:=decide (zad p s=0)
theorem znk {p:Pln} {s:State} (h:¬(zbd p=true/\zaj p s=true)):zmj p s=false:=by
 unfold zmj
 rw[decide_eq_false_iff_not]
 intro e
 have:=zac e
 exact h ⟨this.1,this.2.1⟩
theorem pth_len {p:Pln} (h:zbd p=true) (i:Nat) (hi:i<p.routes.length):(nth p.routes i).path.length<=1000000:=by
 have:=(zc3 (zaH h).1 (zab hi)).2.1
 omega
theorem zqC (hH:HasAll P inv) (p:Pln) (hp:Sm p) (s:State) (hs:SmS s):PC P inv 299 [.agg p.c,.agg s.c] (·=.b (zmj p s)):=by
 have c1:=zlu hH p hp
 by_cases ho:zbd p=true
 ·have c2:=zqi hH p hp s hs (pth_len ho)
  by_cases hpa:zaj p s=true
  ·have hok:=(zaH ho).1
   have hpl:=zak hpa
   have hl3:=hs.2.2
   have hl2:=hs.2.1
   have hl1:=hp.pts
   obtain ⟨X,hF⟩:∃ X,mayF s (zc4 p s) (zdj p s)=X:=⟨_,rfl⟩
   unfold zmj
   rw[<-mayF_eq ho hpa,hF]
   have cH:∀ i,i<s.locks.length->PC P inv 302 [.agg p.c,.agg (nth s.locks i).c,.n i] (·=.sl 1 ((zc4 p s i).map zcG))/\(zc4 p s i).length<=1000000/\∀ m∈zc4 p s i,0<=m/\m<=99:=fun i hi=>by
    have hm:i<p.routes.length:=by omega
    have hwl:=zbf hok (zab hm)
    refine ⟨znY hH p hp ho hm (nth s.locks i), ?_,fun m hm2=>?_⟩
    ·unfold zc4 zbq
     split
     ·simp
     ·rw[List.length_append,List.length_drop];omega
    ·have hwp:=zbv ((zaH ho).2.1 _ (zab hm))
     have h1:m∈(nth p.routes i).path++(nth p.routes i).over:=by
      unfold zc4 zbq at hm2
      split at hm2
      ·cases hm2
      ·rw[hwp.1,hwp.2.1]at hm2
       rcases List.mem_append.1 hm2 with h|h
       ·exact List.mem_append.2 (.inl (List.mem_of_mem_drop h))
       ·exact List.mem_append.2 (.inr h)
     obtain ⟨q,hq,e⟩:=(zb8 hok (zab hm)).1 m h1
     have:=zcQ hok hq
     omega
   have cA:∀ i,i<s.locks.length->PC P inv 303 [.agg p.c,.agg (nth s.locks i).c,.n i] (·=.sl 3 ((zdj p s i).map AskR.c))/\(zdj p s i).length<=1000000/\∀ a∈zdj p s i,(1<=a.pnt/\a.pnt<=99)/\∃ q:Nat,q<p.points.length/\q<s.switches.length/\PC P inv 294 [.agg p.c,.n a.pnt] (·=.n q)/\(nth s.switches q).call=za9 s a.pnt:=fun i hi=>by
    have hm:i<p.routes.length:=by omega
    have hwl:=zbf hok (zab hm)
    have hsub:∀ a∈zdj p s i,a∈(zah p (nth p.routes i)).1.asks:=fun a ha=>by
     unfold zdj at ha
     have:=(List.mem_filter.1 ha).1
     unfold zbJ at this
     split at this
     ·cases this
     ·exact this
    refine ⟨zoc hH p hp ho hm (nth s.locks i), ?_,fun a ha=>?_⟩
    ·unfold zdj zbJ
     split
     ·simp
     ·have:=List.length_filter_le (zb4 (nth s.locks i)) (zah p (nth p.routes i)).1.asks
      omega
    ·obtain ⟨⟨x,hx,ex⟩,h2,_⟩:=zbC hok (zab hm) (hsub a ha)
     refine ⟨h2, ?_⟩
     have c3:=zeL hH p (by omega) a.pnt
     rcases zat Pnt.id a.pnt p.points with ⟨_,h4⟩|⟨q,hq,h4,h5⟩
     ·exact absurd ex (h4 x hx)
     ·rw[h4]at c3
      refine ⟨q,hq,by omega,c3, ?_⟩
      have hsw:=zjT hpa (show q<s.switches.length by omega)
      rw[<-h5,<-hsw]
      exact (ziJ hok hpa (zab (by omega))).symm
   rw[ho]at c1
   rw[hpa]at c2
   unfold mayF at hF
   obtain ⟨HH,hHH⟩:∃ HH,List.replicate 100 false=HH:=⟨_,rfl⟩
   obtain ⟨AA,hAA⟩:∃ AA,List.replicate 100 (0:Int)=AA:=⟨_,rfl⟩
   rw[hHH,hAA]at hF
   have r0:List.replicate 100 (AV.b false)=HH.map AV.b:=by rw[<-hHH,List.map_replicate]
   have r1:List.replicate 100 (AV.i .i64 0)=AA.map AV.n:=by rw[<-hAA,List.map_replicate]
   have lHH:HH.length=100:=by rw[<-hHH,List.length_replicate]
   have lAA:AA.length=100:=by rw[<-hAA,List.length_replicate]
   clear hHH hAA
   generalize zc4 p s=hd at *
   generalize zdj p s=as at *
   clear hpl hok hpa ho
   refine PC.fn hH cd299 fun w0 M Q hM hE hQ hR=>?_;dsimp only[cd299,qm,ql,qf,qi,qb,qc,qp,qv,qN,qT,qF,qt]at hQ |-
   skip
   (have hX:=zA @r0 (zA @r1 (zA @lHH @lAA));(repeat' first|refine zaa [0,1,2,3,4,5,6,7,8,9,10,11,12,21,26,36,40,48,61,65,99] fun K hK=>?_|(refine hK.go ?_;clear hK K)|with_reducible exact wT|refine wA ?_|(refine wE (fun h0 h=>?_) (fun h0 h=>?_)<;>first|exact wN h|((try replace hF:=wX hF);clear h0;first|exact hF.elim|((try subst (h:(_:Bool)=_));try replace hF:=wX hF)))|(refine wQ ?_;clear hQ hR hE hM)|refine wC c1 ?_|refine wC c2 ?_|fail);all_goals clear hX)
   all_goals first|(exfalso;contradiction)|skip
   refine zaR hF fun Bd Ed hBd hEd hF=>?_
   refine zam (ι:=Nat×(List Bool)×(List Int)) [2,3,4,5,6,7] (fun z=>[(7,.n z.1)]) (fun z=>[(2,.cells (z.2.1.map AV.b) true),(3,.cells (z.2.2.map AV.n) true)]) (fun z=>z.1) (s.locks.length) (fun z=>(zaL Bd Ed (s.locks.length-z.1) z.1 (z.2.1,z.2.2)=X)/\(z.2.1.length=100)/\(z.2.2.length=100)) (0,HH,AA) ?_;rintro ⟨i,H,A⟩ ⟨hk,hF,hHl,hAl⟩;(try dsimp only at hk hF hHl hAl |-);rcases Nat.lt_or_ge i s.locks.length with hlt|hge
   ·rw[zav hBd hlt]at hF;(try dsimp only at hF)
    obtain ⟨d1,dl1,dr1⟩:=cH i hlt
    obtain ⟨d2,dl2,dr2⟩:=cA i hlt
    generalize hd i=hls at *
    generalize as i=als at *
    (have hX:=zA @hHl @hAl;(repeat' first|refine zaa [0,1,2,3,4,5,6,7,8,9,10,11,12,21,26,36,40,48,61,65,99] fun K hK=>?_|(refine hK.go ?_;clear hK K)|with_reducible exact wT|refine wA ?_|(refine wE (fun h0 h=>?_) (fun h0 h=>?_)<;>first|exact wN h|((try replace hF:=wX hF);clear h0;first|exact hF.elim|((try subst (h:(_:Bool)=_));try replace hF:=wX hF)))|(refine wQ ?_;clear hQ hR hE hM)|refine wC d1 ?_|fail);all_goals clear hX)
    refine zaR hF fun Bd Ed hBd hEd hF=>?_
    refine zam (ι:=Nat×(List Bool)) [2,3,4,5,6,7,8,9] (fun z=>[(9,.n z.1)]) (fun z=>[(2,.cells (z.2.map AV.b) true)]) (fun z=>z.1) (hls.length) (fun z=>(zaL Bd Ed (hls.length-z.1) z.1 z.2=X)/\(z.2.length=100)) (0,H) ?_;rintro ⟨k,H⟩ ⟨hk,hF,hHl⟩;(try dsimp only at hk hF hHl |-);rcases Nat.lt_or_ge k hls.length with hlt|hge
    ·rw[zav hBd hlt]at hF;(try dsimp only at hF)
     have hb:=dr1 _ (zab (show k<hls.length by assumption))
     have hset:(H.map AV.b).set (nth hls k).toNat (.b true)=(H.set (nth hls k).toNat true).map AV.b:=by rw[List.map_set]
     cases hbk:nth H (nth hls k).toNat with
     |true =>
      rw[hbk,cond_true]at hF
      (have hX:=zA @hHl (zA @hAl @hbk);(repeat' first|refine zaa [0,1,2,3,4,5,6,7,8,9,10,11,12,21,26,36,40,48,61,65,99] fun K hK=>?_|(refine hK.go ?_;clear hK K)|with_reducible exact wT|refine wA ?_|(refine wE (fun h0 h=>?_) (fun h0 h=>?_)<;>first|exact wN h|((try replace hF:=wX hF);clear h0;first|exact hF.elim|((try subst (h:(_:Bool)=_));try replace hF:=wX hF)))|(refine wQ ?_;clear hQ hR hE hM)|fail);all_goals clear hX)
      all_goals first|exact hF|(exfalso;contradiction)|exact congrArg AV.b hF
     |false =>
      rw[hbk,cond_false]at hF
      (have hX:=zA @hHl (zA @hAl (zA @hbk @hset));(repeat' first|refine zaa [0,1,2,3,4,5,6,7,8,9,10,11,12,21,26,36,40,48,61,65,99] fun K hK=>?_|(refine hK.go ?_;clear hK K)|with_reducible exact wT|refine wA ?_|(refine wE (fun h0 h=>?_) (fun h0 h=>?_)<;>first|exact wN h|((try replace hF:=wX hF);clear h0;first|exact hF.elim|((try subst (h:(_:Bool)=_));try replace hF:=wX hF)))|(refine wQ ?_;clear hQ hR hE hM)|fail);all_goals clear hX)
      all_goals first|(exfalso;contradiction)|(exact nY (k+1,H.set (nth hls k).toNat true) ⟨by (try dsimp only);omega,hF,by (try dsimp only);rw[List.length_set];exact hHl⟩;done)
    ·rw[zaQ hge,hEd]at hF;(try dsimp only at hF)
     (have hX:=zA @hHl @hAl;(repeat' first|refine zaa [0,1,2,3,4,5,6,7,8,9,10,11,12,21,26,36,40,48,61,65,99] fun K hK=>?_|(refine hK.go ?_;clear hK K)|with_reducible exact wT|refine wA ?_|(refine wE (fun h0 h=>?_) (fun h0 h=>?_)<;>first|exact wN h|((try replace hF:=wX hF);clear h0;first|exact hF.elim|((try subst (h:(_:Bool)=_));try replace hF:=wX hF)))|(refine wQ ?_;clear hQ hR hE hM)|refine wC d2 ?_|fail);all_goals clear hX)
     refine zaR hF fun Bd Ed hBd hEd hF=>?_
     refine zam (ι:=Nat×(List Int)) [2,3,4,5,6,7,10,11] (fun z=>[(11,.n z.1)]) (fun z=>[(3,.cells (z.2.map AV.n) true)]) (fun z=>z.1) (als.length) (fun z=>(zaL Bd Ed (als.length-z.1) z.1 z.2=X)/\(z.2.length=100)) (0,A) ?_;rintro ⟨q,A⟩ ⟨hk,hF,hAl⟩;(try dsimp only at hk hF hAl |-);rcases Nat.lt_or_ge q als.length with hlt|hge
     ·rw[zav hBd hlt]at hF;(try dsimp only at hF)
      obtain ⟨hb,pl,hpl1,hpl2,d3,e3⟩:=dr2 _ (zab (show q<als.length by assumption))
      rw[<-e3]at hF
      have hset:(A.map AV.n).set (nth als q).pnt.toNat (.n (nth als q).lie)=(A.set (nth als q).pnt.toNat (nth als q).lie).map AV.n:=by rw[List.map_set]
      clear e3
      (have hX:=zA @hHl (zA @hAl (zA @hset @Int.toNat_natCast));(repeat' first|refine zaa [0,1,2,3,4,5,6,7,8,9,10,11,12,21,26,36,40,48,61,65,99] fun K hK=>?_|(refine hK.go ?_;clear hK K)|with_reducible exact wT|refine wA ?_|(refine wE (fun h0 h=>?_) (fun h0 h=>?_)<;>first|exact wN h|((try replace hF:=wX hF);clear h0;first|exact hF.elim|((try subst (h:(_:Bool)=_));try replace hF:=wX hF)))|(refine wQ ?_;clear hQ hR hE hM)|refine wC d3 ?_|refine wU d3 ?_|fail);all_goals clear hX)
      all_goals first|exact hF|(exfalso;contradiction)|exact congrArg AV.b hF|(exact nY (q+1,A.set (nth als q).pnt.toNat (nth als q).lie) ⟨by (try dsimp only);omega,hF,by (try dsimp only);rw[List.length_set];exact hAl⟩;done)
     ·rw[zaQ hge,hEd]at hF;(try dsimp only at hF)
      (have hX:=zA @hHl @hAl;(repeat' first|refine zaa [0,1,2,3,4,5,6,7,8,9,10,11,12,21,26,36,40,48,61,65,99] fun K hK=>?_|(refine hK.go ?_;clear hK K)|with_reducible exact wT|refine wA ?_|(refine wE (fun h0 h=>?_) (fun h0 h=>?_)<;>first|exact wN h|((try replace hF:=wX hF);clear h0;first|exact hF.elim|((try subst (h:(_:Bool)=_));try replace hF:=wX hF)))|(refine wQ ?_;clear hQ hR hE hM)|fail);all_goals clear hX)
      all_goals first|(exact nY (i+1,H,A) ⟨by (try dsimp only);omega,hF,hHl,hAl⟩;done)
   ·rw[zaQ hge,hEd]at hF;(try dsimp only at hF)
    (repeat' first|refine zaa [0,1,2,3,4,5,6,7,8,9,10,11,12,21,26,36,40,48,61,65,99] fun K hK=>?_|(refine hK.go ?_;clear hK K)|with_reducible exact wT|refine wA ?_|(refine wE (fun h0 h=>?_) (fun h0 h=>?_)<;>first|exact wN h|((try replace hF:=wX hF);clear h0;first|exact hF.elim|((try subst (h:(_:Bool)=_));try replace hF:=wX hF)))|(refine wQ ?_;clear hQ hR hE hM)|fail)
    all_goals first|exact hF|exact congrArg AV.b hF
  ·have hpa2:zaj p s=false:=by simpa using hpa
   rw[ho]at c1
   rw[hpa2]at c2
   rw[znk fun h=>hpa h.2]
   refine PC.fn hH cd299 fun w0 M Q hM hE hQ hR=>?_;dsimp only[cd299,qm,ql,qf,qi,qb,qc,qp,qv,qN,qT,qF,qt]at hQ |-
   (repeat' first|refine zaa [0,1,2,3,4,5,6,7,8,9,10,11,12,21,26,36,40,48,61,65,99] fun K hK=>?_|(refine hK.go ?_;clear hK K)|with_reducible exact wT|refine wA ?_|(refine wB (fun h=>?_) (fun h=>?_)<;>first|exact wN h|subst (h:(_:Bool)=_)|skip)|(refine wQ ?_;clear hQ hR hE hM)|refine wC c1 ?_|refine wC c2 ?_|fail)
   all_goals first|rfl|(exfalso;contradiction)
 ·have ho2:zbd p=false:=by simpa using ho
  rw[ho2]at c1
  rw[znk fun h=>ho h.1]
  refine PC.fn hH cd299 fun w0 M Q hM hE hQ hR=>?_;dsimp only[cd299,qm,ql,qf,qi,qb,qc,qp,qv,qN,qT,qF,qt]at hQ |-
  (repeat' first|refine zaa [0,1,2,3,4,5,6,7,8,9,10,11,12,21,26,36,40,48,61,65,99] fun K hK=>?_|(refine hK.go ?_;clear hK K)|with_reducible exact wT|refine wA ?_|(refine wB (fun h=>?_) (fun h=>?_)<;>first|exact wN h|subst (h:(_:Bool)=_)|skip)|(refine wQ ?_;clear hQ hR hE hM)|refine wC c1 ?_|fail)
  all_goals first|rfl|(exfalso;contradiction)
end Go.Lev
