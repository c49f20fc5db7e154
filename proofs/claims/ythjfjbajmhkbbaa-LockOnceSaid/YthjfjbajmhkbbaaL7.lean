/-
  A part of the engine that walks the functions' codes, and of the functions' contracts. Conditions: those that each theorem names.
-/
import Derived.Test.YthjfjbajmhkbbaaL6
import Derived.IntWalk
set_option linter.unusedSimpArgs false
set_option linter.unusedVariables false
set_option linter.unusedSectionVars false
namespace Go.Lev
open Go.Eng
set_option maxRecDepth 10000
set_option maxHeartbeats 40000000
variable {P:Program} {inv:Nat→Option Nat} {w0:World} {M:Nat→Prop}
theorem zmn (hH:HasAll P inv) (a b:List Int) (ha:a.length≤1000000000) (hb:b.length≤1000000000):PC P inv 323 [.sl 1 (a.map zeD),.sl 1 (b.map zeD)] (·=.b (shrs a b)):=by
 unfold shrs
 refine PC.fn hH cd323 fun w0 M Q hM hE hQ hR=>?_;dsimp only[cd323,qm,ql,qf,qi,qb,qc,qp,qv,qN,qT,qF,qt]at hQ ⊢
 (repeat' first|refine zaa [0,1,4,5,6,10,16,27] fun K hK=>?_|(refine hK.go ?_;clear hK K)|with_reducible exact wT|refine wA ?_|(refine wB (fun h=>?_) (fun h=>?_)<;>first|exact wN h|subst (h:(_:Bool)=_)|skip)|(refine wQ ?_;clear hQ hR hE hM)|fail)
 refine zar (ι:=Nat) [0,1,4,5] (fun z=>[(5,.n z)]) (fun _=>[]) (fun z=>z) (a.length) (fun z=>((a.drop z).any (fun x=>b.any fun y=>decide (x=y))=a.any (fun x=>b.any fun y=>decide (x=y)))) (0) ?_;rintro i ⟨hk,hg⟩;(try dsimp only at hk hg ⊢);rcases Nat.lt_or_ge i a.length with hlt|hge
 ·rw[zaf hlt,List.any_cons]at hg
  (repeat' first|refine zaa [0,1,4,5,6,10,16,27] fun K hK=>?_|(refine hK.go ?_;clear hK K)|with_reducible exact wT|refine wA ?_|(refine wB (fun h=>?_) (fun h=>?_)<;>first|exact wN h|subst (h:(_:Bool)=_)|skip)|(refine wQ ?_;clear hQ hR hE hM)|fail)
  refine zar (ι:=Nat) [0,1,4,5,6] (fun z=>[(6,.n z)]) (fun _=>[]) (fun z=>z) (b.length) (fun z=>((b.drop z).any (fun y=>decide (nth a i=y))=b.any (fun y=>decide (nth a i=y)))) (0) ?_;rintro k ⟨hk,hg2⟩;(try dsimp only at hk hg2 ⊢);rcases Nat.lt_or_ge k b.length with hlt|hge
  ·rw[zaf (by assumption),List.any_cons]at hg2
   by_cases e:nth a i=nth b k
   ·have e2:decide (nth a i=nth b k)=true:=decide_eq_true e
    rw[e2,Bool.true_or]at hg2
    rw[←hg2,Bool.true_or]at hg
    (have hX:=@e2;(repeat' first|refine zaa [0,1,4,5,6,10,16,27] fun K hK=>?_|(refine hK.go ?_;clear hK K)|with_reducible exact wT|refine wA ?_|(refine wB (fun h=>?_) (fun h=>?_)<;>first|exact wN h|subst (h:(_:Bool)=_)|skip)|(refine wQ ?_;clear hQ hR hE hM)|fail);all_goals clear hX)
    all_goals first|exact hg|exact congrArg AV.b hg|(exfalso;contradiction)|trace_state
   ·have e2:decide (nth a i=nth b k)=false:=decide_eq_false e
    rw[e2,Bool.false_or]at hg2
    (have hX:=@e2;(repeat' first|refine zaa [0,1,4,5,6,10,16,27] fun K hK=>?_|(refine hK.go ?_;clear hK K)|with_reducible exact wT|refine wA ?_|(refine wB (fun h=>?_) (fun h=>?_)<;>first|exact wN h|subst (h:(_:Bool)=_)|skip)|(refine wQ ?_;clear hQ hR hE hM)|fail);all_goals clear hX)
    all_goals first|(exfalso;contradiction)|exact ⟨k+1,by omega,⟨by omega,hg2⟩,by omega⟩|trace_state
  ·rw[List.drop_eq_nil_of_le (by assumption),List.any_nil]at hg2
   rw[←hg2,Bool.false_or]at hg
   (repeat' first|refine zaa [0,1,4,5,6,10,16,27] fun K hK=>?_|(refine hK.go ?_;clear hK K)|with_reducible exact wT|refine wA ?_|(refine wB (fun h=>?_) (fun h=>?_)<;>first|exact wN h|subst (h:(_:Bool)=_)|skip)|(refine wQ ?_;clear hQ hR hE hM)|fail)
   all_goals first|(exfalso;contradiction)|exact ⟨i+1,by omega,⟨by omega,hg⟩,by omega⟩|trace_state
 ·rw[List.drop_eq_nil_of_le hge,List.any_nil]at hg
  (repeat' first|refine zaa [0,1,4,5,6,10,16,27] fun K hK=>?_|(refine hK.go ?_;clear hK K)|with_reducible exact wT|refine wA ?_|(refine wB (fun h=>?_) (fun h=>?_)<;>first|exact wN h|subst (h:(_:Bool)=_)|skip)|(refine wQ ?_;clear hQ hR hE hM)|fail)
  all_goals first|exact hg|exact congrArg AV.b hg|trace_state
theorem zm4 (p:Pln) {s:State} (h:SmS s) (n:Int):SmS (lkS p s n):=by
 unfold lkS
 split
 ·exact setK_sm h _ _
 ·exact ⟨by decide,by decide,by decide⟩
theorem lockOnce_pc (hH:HasAll P inv) (hI:HasIds P inv) (p:Pln) (hp:Pln.ok p) (s:State) (n m:Int):PC P inv 322 [.agg p.c,.agg s.c,.n n,.n m] (·=.b true):=by
 have c0:=zl0 hH hI
 have c1:=ziZ hH p
 have c2:=zms hH s
 cases g1:zi0 p with
 |true =>
  rw[g1]at c1
  refine PC.fn hH cd322 fun w0 M Q hM hE hQ hR=>?_;dsimp only[cd322,qm,ql,qf,qi,qb,qc,qp,qv,qN,qT,qF,qt]at hQ ⊢
  (repeat' first|refine zaa [0,1,2,3,4,5,8,9,10,11,12,13,14,15,16,17,18,19,20,21,22,23,24,25,26,37,47,53,76,87,93,94,99,106,147,160] fun K hK=>?_|(refine hK.go ?_;clear hK K)|with_reducible exact wT|refine wA ?_|(refine wB (fun h=>?_) (fun h=>?_)<;>first|exact wN h|subst (h:(_:Bool)=_)|skip)|(refine wQ ?_;clear hQ hR hE hM)|refine wC c0 ?_|refine wC c1 ?_|fail)
 |false =>
  rw[g1]at c1
  cases g2:zi1 s with
  |true =>
   rw[g2]at c2
   refine PC.fn hH cd322 fun w0 M Q hM hE hQ hR=>?_;dsimp only[cd322,qm,ql,qf,qi,qb,qc,qp,qv,qN,qT,qF,qt]at hQ ⊢
   (repeat' first|refine zaa [0,1,2,3,4,5,8,9,10,11,12,13,14,15,16,17,18,19,20,21,22,23,24,25,26,37,47,53,76,87,93,94,99,106,147,160] fun K hK=>?_|(refine hK.go ?_;clear hK K)|with_reducible exact wT|refine wA ?_|(refine wB (fun h=>?_) (fun h=>?_)<;>first|exact wN h|subst (h:(_:Bool)=_)|skip)|(refine wQ ?_;clear hQ hR hE hM)|refine wC c0 ?_|refine wC c1 ?_|refine wC c2 ?_|fail)
  |false =>
   rw[g2]at c2
   have sp:=sm_of hp g1
   have ss:=smS_of g2
   have c4:=zcQ hH hI p sp s ss n
   by_cases he:lkC p s n=0
   ·obtain ⟨i1,h1⟩:=zfa.1 he
    have sA:=zm4 p ss n
    have k1:=zd8 hH hI p sp (lkS p s n) sA n
    rw[he]at c4
    rw[show lkC p (lkS p s n) n=180 by rw[h1.lkS];exact h1.again]at k1
    have k2:=zil hH hI p sp (nth s.locks i1).id
    rw[ofW_at h1.st h1.lt,h1.id]at k2
    dsimp only at k2
    have k3:=zil hH hI p sp m
    have ho:=za7 h1.st
    have hwl:=zcG ho h1.rt
    by_cases hnm:n=m
    ·subst hnm
     generalize lkS p s n=A at *
     generalize (zag p (nth p.routes i1)).1=w at *
     refine PC.fn hH cd322 fun w0 M Q hM hE hQ hR=>?_;dsimp only[cd322,qm,ql,qf,qi,qb,qc,qp,qv,qN,qT,qF,qt]at hQ ⊢
     (repeat' first|refine zaa [0,1,2,3,4,5,8,9,10,11,12,13,14,15,16,17,18,19,20,21,22,23,24,25,26,37,47,53,76,87,93,94,99,106,147,160] fun K hK=>?_|(refine hK.go ?_;clear hK K)|with_reducible exact wT|refine wA ?_|(refine wB (fun h=>?_) (fun h=>?_)<;>first|exact wN h|subst (h:(_:Bool)=_)|skip)|(refine wQ ?_;clear hQ hR hE hM)|refine wC c0 ?_|refine wC c1 ?_|refine wC c2 ?_|refine wC c4 ?_|refine wC k1 ?_|refine wC k2 ?_|fail)
     all_goals first|rfl|exact hF|(exfalso;contradiction)|trace_state
    ·by_cases hw:(ofW p m).2=0
     ·obtain ⟨i2,hi2,hid2,ew⟩:=ofW_0 h1.st hw
      have hpl:=zaD (zam h1.st).2.1
      have hwl2:=zcG ho (zak (show i2<p.routes.length by omega))
      rw[ew]at k3
      dsimp only at k3
      have k4:=zd8 hH hI p sp (lkS p s n) sA m
      have k5:=zcQ hH hI p sp s ss m
      have k6:=zmn hH (zbf p i1) (zbf p i2) (by unfold zbf;rw[List.length_append];omega) (by unfold zbf;rw[List.length_append];omega)
      have k7:=zcQ hH hI p sp (lkS p s n) sA m
      have k8:=zcQ hH hI p sp (lkS p s m) (zm4 p ss m) n
      have hgi:∀ j2,MaySet p (lkS p s n) m j2→j2=i2:=fun j2 g=>by
       have e1:=g.id
       have e0:=g.lt
       rw[h1.lkS]at e0 e1
       rw[zen h1]at e0
       rw[h1.lock e0]at e1
       by_cases e2:j2=i1
       ·rw[if_pos e2]at e1;exact absurd e1 hnm
       ·rw[if_neg e2]at e1;exact zfd h1.st e0 hi2 (e1.trans hid2.symm)
      have hmo:lkC p (lkS p s n) m=0→shrs (zbf p i1) (zbf p i2)=false∧othF (zbh p i1) (zbh p i2)=false:=fun h=>by
       obtain ⟨j2,g⟩:=zfa.1 h
       obtain rfl:=hgi j2 g
       rw[h1.lkS]at g
       have:=h1.two g
       exact ⟨shrs_no this.1,othF_no this.2⟩
      have k9:lkC p (lkS p s n) m=0∧lkC p s m=0∧lkC p (lkS p s m) n=0→PC P inv 11 [.agg (lkS p (lkS p s n) m).c,.agg (lkS p (lkS p s m) n).c] (·=.b true):=fun h=>by
       refine sSame_eq hH (zm4 p sA m) ?_
       obtain ⟨j2,g⟩:=zfa.1 h.1
       obtain rfl:=hgi j2 g
       obtain ⟨j3,g3⟩:=zfa.1 h.2.1
       obtain rfl:j3=j2:=zfd h1.st g3.lt hi2 (g3.id.trans hid2.symm)
       obtain ⟨j4,g4⟩:=zfa.1 h.2.2
       have e4:j4=i1:=by
        have e1:=g4.id
        have e0:=g4.lt
        rw[g3.lkS]at e0 e1
        rw[zen g3]at e0
        rw[g3.lock e0]at e1
        by_cases e2:j4=j3
        ·rw[if_pos e2]at e1;exact absurd e1.symm hnm
        ·rw[if_neg e2]at e1;exact zfd h1.st e0 h1.lt (e1.trans h1.id.symm)
       subst e4
       rw[g.lkS,g4.lkS,h1.lkS,g3.lkS]
       rw[h1.lkS]at g
       exact zmu s hnm (h1.two g).2
      have f0:((zag p (nth p.routes i1)).1.path.map zeD).flatten++((zag p (nth p.routes i1)).1.over.map zeD).flatten=((zbf p i1).map zeD).flatten:=by unfold zbf;simp
      have f1:(zag p (nth p.routes i1)).1.path.length+(zag p (nth p.routes i1)).1.over.length=(zbf p i1).length:=by unfold zbf;simp
      have f2:((zag p (nth p.routes i2)).1.path.map zeD).flatten++((zag p (nth p.routes i2)).1.over.map zeD).flatten=((zbf p i2).map zeD).flatten:=by unfold zbf;simp
      have f3:(zag p (nth p.routes i2)).1.path.length+(zag p (nth p.routes i2)).1.over.length=(zbf p i2).length:=by unfold zbf;simp
      obtain ⟨oth,hF⟩:∃ o,othF (zbh p i1) (zbh p i2)=o:=⟨_,rfl⟩
      rw[hF]at hmo
      unfold zbh at hF
      unfold othF at hF
      generalize shrs (zbf p i1) (zbf p i2)=meets at *
      generalize zbf p i1=all1 at *
      generalize zbf p i2=all2 at *
      generalize (zag p (nth p.routes i1)).1=w at *
      generalize (zag p (nth p.routes i2)).1=v at *
      generalize lkC p (lkS p s n) m=may at *
      generalize lkC p s m=h at *
      generalize lkC p (lkS p s m) n=j at *
      generalize lkS p (lkS p s n) m=X at *
      generalize lkS p (lkS p s m) n=Y at *
      generalize lkS p s m=B at *
      clear hgi sA h1 he
      generalize lkS p s n=A at *
      by_cases hmay:may=0
      ·obtain ⟨e1,e2⟩:=hmo hmay
       subst hmay e1 e2
       by_cases h9:h=0∧j=0
       ·obtain ⟨rfl,rfl⟩:=h9
        have k9:=k9 ⟨rfl,rfl,rfl⟩
        refine PC.fn hH cd322 fun w0 M Q hM hE hQ hR=>?_;dsimp only[cd322,qm,ql,qf,qi,qb,qc,qp,qv,qN,qT,qF,qt]at hQ ⊢
        skip
        (have hX:=zA @f0 (zA @f1 (zA @f2 @f3));(repeat' first|refine zaa [0,1,2,3,4,5,8,9,10,11,12,13,14,15,16,17,18,19,20,21,22,23,24,25,26,37,47,53,76,87,93,94,99,106,147,160] fun K hK=>?_|(refine hK.go ?_;clear hK K)|with_reducible exact wT|refine wA ?_|(refine wE (fun h0 h=>?_) (fun h0 h=>?_)<;>first|exact wN h|((try replace hF:=wX hF);clear h0;first|exact hF.elim|((try subst (h:(_:Bool)=_));try replace hF:=wX hF)))|(refine wQ ?_;clear hQ hR hE hM)|refine wC c0 ?_|refine wC c1 ?_|refine wC c2 ?_|refine wC c4 ?_|refine wC k1 ?_|refine wC k2 ?_|refine wC k3 ?_|refine wC k4 ?_|refine wS k6 ?_|fail);all_goals clear hX)
        all_goals first|(exfalso;contradiction)|skip
        refine zcP hF fun Bd Ed hBd hEd hF=>?_;refine zar (ι:=Nat×Bool) [2,3,4,5,8,9,10,12,14,16,17,18,19] (fun z=>[(18,.b z.2),(19,.n z.1)]) (fun _=>[]) (fun z=>z.1) (w.asks.length) (fun z=>(zbM Bd Ed (w.asks.length-z.1) z.1 z.2=false)) (0,false) ?_;rintro ⟨i,t⟩ ⟨hk,hF⟩;(try dsimp only at hk hF ⊢);rcases Nat.lt_or_ge i w.asks.length with hlt|hge
        ·rw[zbX hBd hlt]at hF;(try dsimp only at hF)
         (repeat' first|refine zaa [0,1,2,3,4,5,8,9,10,11,12,13,14,15,16,17,18,19,20,21,22,23,24,25,26,37,47,53,76,87,93,94,99,106,147,160] fun K hK=>?_|(refine hK.go ?_;clear hK K)|with_reducible exact wT|refine wA ?_|(refine wE (fun h0 h=>?_) (fun h0 h=>?_)<;>first|exact wN h|((try replace hF:=wX hF);clear h0;first|exact hF.elim|((try subst (h:(_:Bool)=_));try replace hF:=wX hF)))|(refine wQ ?_;clear hQ hR hE hM)|fail)
         refine zcP hF fun Bd Ed hBd hEd hF=>?_;refine zar (ι:=Nat×Bool) [2,3,4,5,8,9,10,12,14,16,17,18,19,20] (fun z=>[(18,.b z.2),(20,.n z.1)]) (fun _=>[]) (fun z=>z.1) (v.asks.length) (fun z=>(zbM Bd Ed (v.asks.length-z.1) z.1 z.2=false)) (0,t) ?_;rintro ⟨k,t2⟩ ⟨hk,hF⟩;(try dsimp only at hk hF ⊢);rcases Nat.lt_or_ge k v.asks.length with hlt|hge
         ·rw[zbX hBd hlt]at hF;(try dsimp only at hF)
          (repeat' first|refine zaa [0,1,2,3,4,5,8,9,10,11,12,13,14,15,16,17,18,19,20,21,22,23,24,25,26,37,47,53,76,87,93,94,99,106,147,160] fun K hK=>?_|(refine hK.go ?_;clear hK K)|with_reducible exact wT|refine wA ?_|(refine wE (fun h0 h=>?_) (fun h0 h=>?_)<;>first|exact wN h|((try replace hF:=wX hF);clear h0;first|exact hF.elim|((try subst (h:(_:Bool)=_));try replace hF:=wX hF)))|(refine wQ ?_;clear hQ hR hE hM)|fail)
          all_goals exact nX (k+1,_)
         ·rw[zcO hge,hEd]at hF;(try dsimp only at hF)
          (repeat' first|refine zaa [0,1,2,3,4,5,8,9,10,11,12,13,14,15,16,17,18,19,20,21,22,23,24,25,26,37,47,53,76,87,93,94,99,106,147,160] fun K hK=>?_|(refine hK.go ?_;clear hK K)|with_reducible exact wT|refine wA ?_|(refine wE (fun h0 h=>?_) (fun h0 h=>?_)<;>first|exact wN h|((try replace hF:=wX hF);clear h0;first|exact hF.elim|((try subst (h:(_:Bool)=_));try replace hF:=wX hF)))|(refine wQ ?_;clear hQ hR hE hM)|fail)
          all_goals exact nX (i+1,_)
        ·rw[zcO hge,hEd]at hF;(try dsimp only at hF)
         subst hF
         (repeat' first|refine zaa [0,1,2,3,4,5,8,9,10,11,12,13,14,15,16,17,18,19,20,21,22,23,24,25,26,37,47,53,76,87,93,94,99,106,147,160] fun K hK=>?_|(refine hK.go ?_;clear hK K)|with_reducible exact wT|refine wA ?_|(refine wE (fun h0 h=>?_) (fun h0 h=>?_)<;>first|exact wN h|((try replace hF:=wX hF);clear h0;first|exact hF.elim|((try subst (h:(_:Bool)=_));try replace hF:=wX hF)))|(refine wQ ?_;clear hQ hR hE hM)|refine wC k5 ?_|refine wC k7 ?_|refine wC k8 ?_|refine wC k9 ?_|fail)
         all_goals first|rfl|exact hF|(exfalso;contradiction)|(exfalso;omega)|trace_state
       ·clear k9
        refine PC.fn hH cd322 fun w0 M Q hM hE hQ hR=>?_;dsimp only[cd322,qm,ql,qf,qi,qb,qc,qp,qv,qN,qT,qF,qt]at hQ ⊢
        skip
        (have hX:=zA @f0 (zA @f1 (zA @f2 @f3));(repeat' first|refine zaa [0,1,2,3,4,5,8,9,10,11,12,13,14,15,16,17,18,19,20,21,22,23,24,25,26,37,47,53,76,87,93,94,99,106,147,160] fun K hK=>?_|(refine hK.go ?_;clear hK K)|with_reducible exact wT|refine wA ?_|(refine wE (fun h0 h=>?_) (fun h0 h=>?_)<;>first|exact wN h|((try replace hF:=wX hF);clear h0;first|exact hF.elim|((try subst (h:(_:Bool)=_));try replace hF:=wX hF)))|(refine wQ ?_;clear hQ hR hE hM)|refine wC c0 ?_|refine wC c1 ?_|refine wC c2 ?_|refine wC c4 ?_|refine wC k1 ?_|refine wC k2 ?_|refine wC k3 ?_|refine wC k4 ?_|refine wS k6 ?_|fail);all_goals clear hX)
        all_goals first|(exfalso;contradiction)|skip
        refine zcP hF fun Bd Ed hBd hEd hF=>?_;refine zar (ι:=Nat×Bool) [2,3,4,5,8,9,10,12,14,16,17,18,19] (fun z=>[(18,.b z.2),(19,.n z.1)]) (fun _=>[]) (fun z=>z.1) (w.asks.length) (fun z=>(zbM Bd Ed (w.asks.length-z.1) z.1 z.2=false)) (0,false) ?_;rintro ⟨i,t⟩ ⟨hk,hF⟩;(try dsimp only at hk hF ⊢);rcases Nat.lt_or_ge i w.asks.length with hlt|hge
        ·rw[zbX hBd hlt]at hF;(try dsimp only at hF)
         (repeat' first|refine zaa [0,1,2,3,4,5,8,9,10,11,12,13,14,15,16,17,18,19,20,21,22,23,24,25,26,37,47,53,76,87,93,94,99,106,147,160] fun K hK=>?_|(refine hK.go ?_;clear hK K)|with_reducible exact wT|refine wA ?_|(refine wE (fun h0 h=>?_) (fun h0 h=>?_)<;>first|exact wN h|((try replace hF:=wX hF);clear h0;first|exact hF.elim|((try subst (h:(_:Bool)=_));try replace hF:=wX hF)))|(refine wQ ?_;clear hQ hR hE hM)|fail)
         refine zcP hF fun Bd Ed hBd hEd hF=>?_;refine zar (ι:=Nat×Bool) [2,3,4,5,8,9,10,12,14,16,17,18,19,20] (fun z=>[(18,.b z.2),(20,.n z.1)]) (fun _=>[]) (fun z=>z.1) (v.asks.length) (fun z=>(zbM Bd Ed (v.asks.length-z.1) z.1 z.2=false)) (0,t) ?_;rintro ⟨k,t2⟩ ⟨hk,hF⟩;(try dsimp only at hk hF ⊢);rcases Nat.lt_or_ge k v.asks.length with hlt|hge
         ·rw[zbX hBd hlt]at hF;(try dsimp only at hF)
          (repeat' first|refine zaa [0,1,2,3,4,5,8,9,10,11,12,13,14,15,16,17,18,19,20,21,22,23,24,25,26,37,47,53,76,87,93,94,99,106,147,160] fun K hK=>?_|(refine hK.go ?_;clear hK K)|with_reducible exact wT|refine wA ?_|(refine wE (fun h0 h=>?_) (fun h0 h=>?_)<;>first|exact wN h|((try replace hF:=wX hF);clear h0;first|exact hF.elim|((try subst (h:(_:Bool)=_));try replace hF:=wX hF)))|(refine wQ ?_;clear hQ hR hE hM)|fail)
          all_goals exact nX (k+1,_)
         ·rw[zcO hge,hEd]at hF;(try dsimp only at hF)
          (repeat' first|refine zaa [0,1,2,3,4,5,8,9,10,11,12,13,14,15,16,17,18,19,20,21,22,23,24,25,26,37,47,53,76,87,93,94,99,106,147,160] fun K hK=>?_|(refine hK.go ?_;clear hK K)|with_reducible exact wT|refine wA ?_|(refine wE (fun h0 h=>?_) (fun h0 h=>?_)<;>first|exact wN h|((try replace hF:=wX hF);clear h0;first|exact hF.elim|((try subst (h:(_:Bool)=_));try replace hF:=wX hF)))|(refine wQ ?_;clear hQ hR hE hM)|fail)
          all_goals exact nX (i+1,_)
        ·rw[zcO hge,hEd]at hF;(try dsimp only at hF)
         subst hF
         (repeat' first|refine zaa [0,1,2,3,4,5,8,9,10,11,12,13,14,15,16,17,18,19,20,21,22,23,24,25,26,37,47,53,76,87,93,94,99,106,147,160] fun K hK=>?_|(refine hK.go ?_;clear hK K)|with_reducible exact wT|refine wA ?_|(refine wE (fun h0 h=>?_) (fun h0 h=>?_)<;>first|exact wN h|((try replace hF:=wX hF);clear h0;first|exact hF.elim|((try subst (h:(_:Bool)=_));try replace hF:=wX hF)))|(refine wQ ?_;clear hQ hR hE hM)|refine wC k5 ?_|refine wC k7 ?_|refine wC k8 ?_|refine wC k8 ?_|fail)
         all_goals first|rfl|exact hF|(exfalso;contradiction)|(exfalso;omega)|trace_state
      ·clear k9
       refine PC.fn hH cd322 fun w0 M Q hM hE hQ hR=>?_;dsimp only[cd322,qm,ql,qf,qi,qb,qc,qp,qv,qN,qT,qF,qt]at hQ ⊢
       skip
       (have hX:=zA @f0 (zA @f1 (zA @f2 @f3));(repeat' first|refine zaa [0,1,2,3,4,5,8,9,10,11,12,13,14,15,16,17,18,19,20,21,22,23,24,25,26,37,47,53,76,87,93,94,99,106,147,160] fun K hK=>?_|(refine hK.go ?_;clear hK K)|with_reducible exact wT|refine wA ?_|(refine wE (fun h0 h=>?_) (fun h0 h=>?_)<;>first|exact wN h|((try replace hF:=wX hF);clear h0;first|exact hF.elim|((try subst (h:(_:Bool)=_));try replace hF:=wX hF)))|(refine wQ ?_;clear hQ hR hE hM)|refine wC c0 ?_|refine wC c1 ?_|refine wC c2 ?_|refine wC c4 ?_|refine wC k1 ?_|refine wC k2 ?_|refine wC k3 ?_|refine wC k4 ?_|refine wS k6 ?_|fail);all_goals clear hX)
       all_goals first|(exfalso;contradiction)|skip
       refine zcP hF fun Bd Ed hBd hEd hF=>?_;refine zar (ι:=Nat×Bool) [2,3,4,5,8,9,10,12,14,16,17,18,19] (fun z=>[(18,.b z.2),(19,.n z.1)]) (fun _=>[]) (fun z=>z.1) (w.asks.length) (fun z=>(zbM Bd Ed (w.asks.length-z.1) z.1 z.2=oth)) (0,false) ?_;rintro ⟨i,t⟩ ⟨hk,hF⟩;(try dsimp only at hk hF ⊢);rcases Nat.lt_or_ge i w.asks.length with hlt|hge
       ·rw[zbX hBd hlt]at hF;(try dsimp only at hF)
        (repeat' first|refine zaa [0,1,2,3,4,5,8,9,10,11,12,13,14,15,16,17,18,19,20,21,22,23,24,25,26,37,47,53,76,87,93,94,99,106,147,160] fun K hK=>?_|(refine hK.go ?_;clear hK K)|with_reducible exact wT|refine wA ?_|(refine wE (fun h0 h=>?_) (fun h0 h=>?_)<;>first|exact wN h|((try replace hF:=wX hF);clear h0;first|exact hF.elim|((try subst (h:(_:Bool)=_));try replace hF:=wX hF)))|(refine wQ ?_;clear hQ hR hE hM)|fail)
        refine zcP hF fun Bd Ed hBd hEd hF=>?_;refine zar (ι:=Nat×Bool) [2,3,4,5,8,9,10,12,14,16,17,18,19,20] (fun z=>[(18,.b z.2),(20,.n z.1)]) (fun _=>[]) (fun z=>z.1) (v.asks.length) (fun z=>(zbM Bd Ed (v.asks.length-z.1) z.1 z.2=oth)) (0,t) ?_;rintro ⟨k,t2⟩ ⟨hk,hF⟩;(try dsimp only at hk hF ⊢);rcases Nat.lt_or_ge k v.asks.length with hlt|hge
        ·rw[zbX hBd hlt]at hF;(try dsimp only at hF)
         (repeat' first|refine zaa [0,1,2,3,4,5,8,9,10,11,12,13,14,15,16,17,18,19,20,21,22,23,24,25,26,37,47,53,76,87,93,94,99,106,147,160] fun K hK=>?_|(refine hK.go ?_;clear hK K)|with_reducible exact wT|refine wA ?_|(refine wE (fun h0 h=>?_) (fun h0 h=>?_)<;>first|exact wN h|((try replace hF:=wX hF);clear h0;first|exact hF.elim|((try subst (h:(_:Bool)=_));try replace hF:=wX hF)))|(refine wQ ?_;clear hQ hR hE hM)|fail)
         all_goals exact nX (k+1,_)
        ·rw[zcO hge,hEd]at hF;(try dsimp only at hF)
         (repeat' first|refine zaa [0,1,2,3,4,5,8,9,10,11,12,13,14,15,16,17,18,19,20,21,22,23,24,25,26,37,47,53,76,87,93,94,99,106,147,160] fun K hK=>?_|(refine hK.go ?_;clear hK K)|with_reducible exact wT|refine wA ?_|(refine wE (fun h0 h=>?_) (fun h0 h=>?_)<;>first|exact wN h|((try replace hF:=wX hF);clear h0;first|exact hF.elim|((try subst (h:(_:Bool)=_));try replace hF:=wX hF)))|(refine wQ ?_;clear hQ hR hE hM)|fail)
         all_goals exact nX (i+1,_)
       ·rw[zcO hge,hEd]at hF;(try dsimp only at hF)
        subst hF
        (repeat' first|refine zaa [0,1,2,3,4,5,8,9,10,11,12,13,14,15,16,17,18,19,20,21,22,23,24,25,26,37,47,53,76,87,93,94,99,106,147,160] fun K hK=>?_|(refine hK.go ?_;clear hK K)|with_reducible exact wT|refine wA ?_|(refine wE (fun h0 h=>?_) (fun h0 h=>?_)<;>first|exact wN h|((try replace hF:=wX hF);clear h0;first|exact hF.elim|((try subst (h:(_:Bool)=_));try replace hF:=wX hF)))|(refine wQ ?_;clear hQ hR hE hM)|refine wC k5 ?_|refine wC k7 ?_|refine wC k8 ?_|refine wC k5 ?_|fail)
        all_goals first|rfl|exact hF|(exfalso;contradiction)|(exfalso;omega)|trace_state
     ·generalize (ofW p m).1=v at *
      generalize (ofW p m).2=e2 at *
      clear k1
      have k1:=zd8 hH hI p sp (lkS p s n) sA n
      rw[show lkC p (lkS p s n) n=180 by rw[h1.lkS];exact h1.again]at k1
      generalize lkS p s n=A at *
      generalize (zag p (nth p.routes i1)).1=w at *
      refine PC.fn hH cd322 fun w0 M Q hM hE hQ hR=>?_;dsimp only[cd322,qm,ql,qf,qi,qb,qc,qp,qv,qN,qT,qF,qt]at hQ ⊢
      (repeat' first|refine zaa [0,1,2,3,4,5,8,9,10,11,12,13,14,15,16,17,18,19,20,21,22,23,24,25,26,37,47,53,76,87,93,94,99,106,147,160] fun K hK=>?_|(refine hK.go ?_;clear hK K)|with_reducible exact wT|refine wA ?_|(refine wB (fun h=>?_) (fun h=>?_)<;>first|exact wN h|subst (h:(_:Bool)=_)|skip)|(refine wQ ?_;clear hQ hR hE hM)|refine wC c0 ?_|refine wC c1 ?_|refine wC c2 ?_|refine wC c4 ?_|refine wC k1 ?_|refine wC k2 ?_|refine wC k3 ?_|fail)
      all_goals first|rfl|exact hF|(exfalso;contradiction)|trace_state
   ·generalize lkC p s n=e at *
    generalize lkS p s n=A at *
    refine PC.fn hH cd322 fun w0 M Q hM hE hQ hR=>?_;dsimp only[cd322,qm,ql,qf,qi,qb,qc,qp,qv,qN,qT,qF,qt]at hQ ⊢
    (repeat' first|refine zaa [0,1,2,3,4,5,8,9,10,11,12,13,14,15,16,17,18,19,20,21,22,23,24,25,26,37,47,53,76,87,93,94,99,106,147,160] fun K hK=>?_|(refine hK.go ?_;clear hK K)|with_reducible exact wT|refine wA ?_|(refine wB (fun h=>?_) (fun h=>?_)<;>first|exact wN h|subst (h:(_:Bool)=_)|skip)|(refine wQ ?_;clear hQ hR hE hM)|refine wC c0 ?_|refine wC c1 ?_|refine wC c2 ?_|refine wC c4 ?_|fail)
    all_goals first|rfl|exact hF|(exfalso;contradiction)|trace_state
end Go.Lev
