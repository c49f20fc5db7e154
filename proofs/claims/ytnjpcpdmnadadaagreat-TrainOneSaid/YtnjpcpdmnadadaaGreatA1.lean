/-
  A part of the engine that walks the functions' codes, and of the functions' contracts. Conditions: those that each theorem names.
-/
import Derived.Test.YtnjpcpdmnadadaaGreatL14
import Derived.IntWalk
import Derived.Laws.IdiomCopy
set_option linter.unusedSimpArgs false
set_option linter.unusedVariables false
set_option linter.unusedSectionVars false
namespace Go.Lev
open Go.Eng
theorem zoe {l:List TrainD} (h:(l.map (·.id)).Pairwise (· < ·)) {k:Nat} (hk:k<l.length):zcN (l.eraseIdx k) (nth l k).id<0:=by
 rw[zgW]
 intro x hx e
 obtain ⟨i,hi,rfl⟩:=List.getElem_of_mem hx
 rw[List.getElem_eraseIdx]at e
 split at e
 ·rw[←zay (by omega)]at e
  have:=zjy h (by omega) hk e
  omega
 ·rename_i h2
  rw[List.length_eraseIdx_of_lt hk]at hi
  rw[←zay (by omega)]at e
  have:=zjy h (by omega) hk e
  omega
theorem znU {l:List TrainD} {k:Nat} (hk:k<l.length) {t x:TrainD} (hx:x∈l) (hne:x.id≠(nth l k).id):x∈l.set k t:=by
 obtain ⟨i,hi,rfl⟩:=List.getElem_of_mem hx
 have:i≠k:=fun e=>by subst e;exact hne (by rw[zay hi])
 exact List.mem_iff_getElem.2 ⟨i,by simpa using hi,by rw[List.getElem_set_ne (Ne.symm this)]⟩
theorem zkt {l:List TrainD} {k:Nat} (hk:k<l.length) {x:TrainD} (hx:x∈l) (hne:x.id≠(nth l k).id):x∈l.eraseIdx k:=by
 rw[List.mem_eraseIdx_iff_getElem]
 obtain ⟨i,hi,rfl⟩:=List.getElem_of_mem hx
 exact ⟨i,hi,fun e=>by subst e;exact hne (by rw[zay hi]),rfl⟩
end Go.Lev
namespace Go.Lev
open Go.Eng
theorem zly {l X:List TrainD} {A:List (Int×Int)} {m:MoveD} (hup:(X.map (·.id)).Pairwise (· < ·)) (hin:∀ x∈l,x.id≠m.tr→x∈X) (hg:oneG (zcD l m.tr) (zcD X m.tr) A m=true):oneF l X A 0 m=true:=by
 unfold oneF
 show zbs _ _ _ _ _=true
 refine zeu (fun r=>r=true) (fun _ _=>True) trivial ?_ (fun _ _=>hg)
 intro k _ zbf hk _ hn
 (try dsimp only)
 by_cases a1:(nth l k).id=m.tr
 ·rw[decide_eq_true a1];exact hn () trivial
 ·rw[decide_eq_false a1]
  obtain ⟨q,hq,e,e2⟩:=zjP hup (hin _ (zae hk) a1)
  rw[e,Int.toNat_natCast,e2,decide_eq_true rfl,decide_eq_false (show ¬(q:Int)<0 by omega)]
  exact hn () trivial
theorem zmI {l:List TrainD} (h:(l.map (·.id)).Pairwise (· < ·)) {k:Nat} (hk:k<l.length):zcD l (nth l k).id=(nth l k).secs:=by
 obtain ⟨q,hq,e,e2⟩:=zjP h (zae hk)
 unfold zcD
 rw[if_neg (by omega),e,Int.toNat_natCast,e2]
theorem zmH {l:List TrainD} {n:Int} (h:zcN l n<0):zcD l n=[]:=if_pos h
theorem zo7 {l:List TrainD} {k:Nat} {t:TrainD} (hk:k<l.length) (h:(l.map (·.id)).Pairwise (· < ·)) (hid:t.id=(nth l k).id):zcD (l.set k t) t.id=t.secs:=by
 unfold zcD
 rw[zjO hk h hid,if_neg (by omega),Int.toNat_natCast,zbg _ _ _ _ hk,if_pos rfl]
theorem one_true (p:Pln) (s:State) (l:List TrainD) (m:MoveD):oneF l (mvR p s l m).2.1 (mvR p s l m).2.2 (mvR p s l m).1 m=true:=by
 by_cases he:(mvR p s l m).1=0
 ·by_cases hc:ckC p s l=0
  ·have hT:=((zbr p s l).1 hc).2
   have hup:=hT.up
   rw[he]
   have upd:∀ {k:Nat} {t:TrainD},k<l.length→zcN l m.tr=(k:Int)→t.id=(nth l k).id→(nth l k).id=m.tr→∀ {A:List (Int×Int)},oneG (nth l k).secs t.secs A m=true→oneF l (l.set k t) A 0 m=true:=by
    intro k t hk e hid hm A hg
    refine zly (zoZ hup hk hid) (fun x hx hne=>znU hk hx (by rw[hm];exact hne)) ?_
    have e1:=zmI hup hk
    have e2:=zo7 (t:=t) hk hup hid
    rw[hid,hm]at e2
    rw[hm]at e1
    rw[e1,e2];exact hg
   unfold mvR at he ⊢
   rw[if_pos hc]at he ⊢
   split at he
   ·-- a train comes
    rename_i hk1
    rw[if_pos hk1]
    unfold putR at he ⊢
    split at he
    ·simp at he
    rename_i n1
    rw[if_neg n1]
    split at he
    ·simp at he
    rename_i n2
    rw[if_neg n2]
    split at he
    rotate_left
    ·rename_i n3;exact absurd he n3
    rename_i n3
    rw[if_pos n3]
    split at he
    ·simp at he
    rename_i n4
    rw[if_neg n4]
    split at he
    ·simp at he
    rename_i n5
    rw[if_neg n5]
    have hno:∀ x∈l,x.id≠m.tr:=zgW.1 (by omega)
    have hup2:=zlT (t:=zop m (zaw p.sections m.sec).1) hup hno
    refine zly hup2 (fun x hx _=>(zdM _ l x).2 (.inr hx)) ?_
    have e1:zcD l m.tr=[]:=zmH (zgW.2 hno)
    obtain ⟨q,hq,e2,e3⟩:=zjP hup2 ((zdM (zop m (zaw p.sections m.sec).1) l _).2 (.inl rfl))
    have e4:zcD (zge l (zop m (zaw p.sections m.sec).1)) m.tr=[(zaw p.sections m.sec).1.id]:=by
     unfold zcD
     have e5:zcN (zge l (zop m (zaw p.sections m.sec).1)) m.tr=(q:Int):=e2
     rw[e5,if_neg (by omega),Int.toNat_natCast,e3]
     rfl
    rw[e1,e4]
    unfold oneG
    simp[nth]
   ·rename_i hk1
    rw[if_neg hk1]
    have one:∀ {f:Nat→TrainD→MvR},(ze8 p s l m.tr f).1=0→(∀ k,k<l.length→zcN l m.tr=(k:Int)→(nth l k).id=m.tr→(f k (nth l k)).1=0→oneF l (f k (nth l k)).2.1 (f k (nth l k)).2.2 0 m=true)→oneF l (ze8 p s l m.tr f).2.1 (ze8 p s l m.tr f).2.2 0 m=true:=by
     intro f h1 h2
     unfold ze8 at h1 ⊢
     rcases zaV l m.tr with ⟨e,_⟩|⟨k,hk,e,hid⟩
     ·rw[e,if_pos (by decide)]at h1;simp at h1
     ·rw[e,if_neg (by omega),Int.toNat_natCast]at h1 ⊢
      exact h2 k hk e hid h1
    split at he
    ·rename_i hk2
     rw[if_pos hk2]
     refine one he fun k hk e hid h1=>?_
     unfold zig at h1 ⊢
     split at h1
     ·simp at h1
     rename_i n1
     rw[if_neg n1]
     split at h1
     ·simp at h1
     rename_i n2
     rw[if_neg n2]
     split at h1
     rotate_left
     ·rename_i n3;exact absurd h1 n3
     rename_i n3
     rw[if_pos n3]
     split at h1
     rotate_left
     ·simp at h1
     rename_i n4
     rw[if_pos n4]
     refine upd (t:=zgF p s (nth l k)) hk e rfl hid ?_
     unfold oneG zgF
     simp[nth]
    ·rename_i hk2
     rw[if_neg hk2]
     split at he
     ·rename_i hk3
      rw[if_pos hk3]
      refine one he fun k hk e hid h1=>?_
      unfold zoG at h1 ⊢
      split at h1
      ·simp at h1
      rename_i n1
      rw[if_neg n1]
      have h1:=(zb9.1 (hT.may _ (zae hk))).one
      refine upd (t:=znu (nth l k)) hk e rfl hid ?_
      unfold oneG znu
      have e5:(((nth l k).secs.take ((nth l k).secs.length-1)).length:Int)=((nth l k).secs.length:Int)-1:=by rw[List.length_take];omega
      have n0:nth [(nth (nth l k).secs ((nth l k).secs.length-1),(0:Int))] 0=(nth (nth l k).secs ((nth l k).secs.length-1),0):=rfl
      simp only[n0,e5]
      simp
     ·rename_i hk3
      rw[if_neg hk3]
      split at he
      ·rename_i hk4
       rw[if_pos hk4]
       refine one he fun k hk e hid h1=>?_
       unfold ziX at h1 ⊢
       split at h1
       ·simp at h1
       rename_i n1
       rw[if_neg n1]
       refine upd (t:=zbk (nth l k)) hk e rfl hid ?_
       unfold oneG zbk
       simp[hk4]
      ·rename_i hk4
       rw[if_neg hk4]
       split at he
       ·rename_i hk5
        rw[if_pos hk5]
        refine one he fun k hk e hid h1=>?_
        unfold zl0 at h1 ⊢
        split at h1
        rotate_left
        ·simp at h1
        rename_i n1
        rw[if_pos n1]
        have h2:=(zb9.1 (hT.may _ (zae hk))).one
        have h3:(nth l k).secs.length=1:=by
         unfold goneC at n1
         split at n1
         ·simp at n1
         ·rename_i n2
          have:¬1<(nth l k).secs.length:=fun h=>n2 (.inl h)
          omega
        refine zly (hT.sub (List.eraseIdx_sublist l k)).up (fun x hx hne=>zkt hk hx (by rw[hid];exact hne)) ?_
        have e1:=zmI hup hk
        have e2:=zmH (zoe hup hk)
        rw[hid]at e1 e2
        rw[e1,e2]
        unfold oneG
        have n0:nth [(nth (nth l k).secs 0,(0:Int))] 0=(nth (nth l k).secs 0,0):=rfl
        simp only[n0,h3]
        simp
       ·simp at he
  ·have hm:mvR p s l m=(ckC p s l,[],[]):=if_neg hc
   rw[hm]at he
   exact absurd he hc
 ·have h2:=mvR_no p s l m he
  unfold oneF
  rw[h2,decide_eq_false he]
  rfl
end Go.Lev
namespace Go.Lev
open Go.Eng
set_option maxRecDepth 10000
set_option maxHeartbeats 8000000
variable {P:Program} {inv:Nat→Option Nat} {w0:World} {M:Nat→Prop}
theorem zk9 (hH:HasAll P inv) (hI:HasIds P inv) (hIn:HasIns P inv) (c0:PC P inv 212 [] (·=.b true)) (p:Pln) (hp:Pln.ok p) (s:State) (l:List TrainD) (m:MoveD) (hk:0≤m.kind∧m.kind≤255):PC P inv 378 [.agg p.c,.agg s.c,.agg (wld l),.agg m.c] (·=.b true):=by
 have c1:=zex hH p s l
 cases hg:(gPl p||(zgG s||gTr l)) with
 |true =>
  rw[hg]at c1
  unfold wld at *
  refine PC.fn hH cd378 fun w0 M Q hM hE hQ hR=>?_;dsimp only[cd378,qm,ql,qf,qi,qb,qc,qp,qv,qN,qT,qF,qt]at hQ ⊢
  (repeat' first|refine zaa [0,1,2,3,4,5,6,7,8,9,10,11,12,13,14,15,16,25,37,51,61,85,88,93,107,119,139,144] fun K hK=>?_|(refine hK.go ?_;clear hK K)|with_reducible exact wT|refine wA ?_|(refine wB (fun h=>?_) (fun h=>?_)<;>first|exact wN h|subst (h:(_:Bool)=_)|skip)|(refine wQ ?_;clear hQ hR hE hM)|refine wC c0 ?_|refine wC c1 ?_|fail)
 |false =>
  rw[hg]at c1
  simp only[Bool.or_eq_false_iff]at hg
  have hp':=sm31 hp hg.1
  have hs':=zmB hg.2.1
  obtain ⟨hl30,hls30⟩:=tr31 hg.2.2
  have c2:=zbK hH hI hIn p hp' s hs' l (by omega) (fun t ht=>Nat.le_trans (hls30 t ht) (by omega)) m hk
  have hF:=one_true p s l m
  have hX:=zjo p s l m
  generalize mvR p s l m=R at *
  obtain ⟨e,X,A⟩:=R
  dsimp only at hF hX
  have c3:=fun i=>zfP hH X (by omega) i
  have c4:=zfP hH l (by omega) m.tr
  have c5:=fun (i:Nat) (hi:i<l.length) (a:TrainD)=>zis hH a (nth l i) (Nat.le_trans (hls30 _ (zae hi)) (by omega))
  have hO:(zcD l m.tr).length≤30:=by
   unfold zcD
   rcases zaV l m.tr with ⟨e1,_⟩|⟨k1,hk1,e1,_⟩
   ·rw[e1,if_pos (by omega)];simp
   ·rw[e1,if_neg (by omega),Int.toNat_natCast];exact hls30 _ (zae hk1)
  unfold zoj zcm at c2
  dsimp only at c2
  obtain ⟨kd,tr,se,ed⟩:=m
  unfold wld at *
  unfold oneF oneG at hF
  dsimp only at hF hO c4
  unfold MoveD.c
  dsimp only
  refine PC.fn hH cd378 fun w0 M Q hM hE hQ hR=>?_;dsimp only[cd378,qm,ql,qf,qi,qb,qc,qp,qv,qN,qT,qF,qt]at hQ ⊢
  skip
  (repeat' first|refine zaa [0,1,2,3,4,5,6,7,8,9,10,11,12,13,14,15,16,25,37,51,61,85,88,93,107,119,139,144] fun K hK=>?_|(refine hK.go ?_;clear hK K)|with_reducible exact wT|refine wA ?_|(refine wE (fun h0 h=>?_) (fun h0 h=>?_)<;>first|exact wN h|((try replace hF:=wX hF);clear h0;first|exact hF.elim|((try subst (h:(_:Bool)=_));try replace hF:=wX hF)))|(refine wQ ?_;clear hQ hR hE hM)|refine wC c0 ?_|refine wC c1 ?_|refine wC c2 ?_|fail)
  all_goals first|exact hF|exact congrArg AV.b hF|(exfalso;contradiction)|(exfalso;omega)|skip
  refine zfy hF fun Bd Ed hBd hEd hF=>?_;refine zaz (ι:=Nat) [6,7,8,10,11,13] (fun z=>[(13,.n z)]) (fun _=>[]) (fun z=>z) (l.length) (fun z=>(zbs Bd Ed (l.length-z) z ()=true)) (0) ?_;rintro i ⟨hk,hF⟩;(try dsimp only at hk hF ⊢);rcases Nat.lt_or_ge i l.length with hlt|hge
  ·rw[zdK hBd hlt]at hF;(try dsimp only at hF)
   have d0:=c3 (nth l i).id
   have d1:=c5 i hlt
   rcases zaV X (nth l i).id with ⟨e1,_⟩|⟨q,hq,e1,_⟩<;>rw[e1]at d0 hF
   ·(repeat' first|refine zaa [0,1,2,3,4,5,6,7,8,9,10,11,12,13,14,15,16,25,37,51,61,85,88,93,107,119,139,144] fun K hK=>?_|(refine hK.go ?_;clear hK K)|with_reducible exact wT|refine wA ?_|(refine wE (fun h0 h=>?_) (fun h0 h=>?_)<;>first|exact wN h|((try replace hF:=wX hF);clear h0;first|exact hF.elim|((try subst (h:(_:Bool)=_));try replace hF:=wX hF)))|(refine wQ ?_;clear hQ hR hE hM)|refine wC d0 ?_|fail)
    all_goals first|exact hF|(exfalso;contradiction)|(exfalso;omega)|exact congrArg AV.b hF|exact nX (i+1)|trace_state
   ·rw[Int.toNat_natCast]at hF
    have d2:=d1 (nth X q)
    generalize decide (nth X q=nth l i)=D at *
    (repeat' first|refine zaa [0,1,2,3,4,5,6,7,8,9,10,11,12,13,14,15,16,25,37,51,61,85,88,93,107,119,139,144] fun K hK=>?_|(refine hK.go ?_;clear hK K)|with_reducible exact wT|refine wA ?_|(refine wE (fun h0 h=>?_) (fun h0 h=>?_)<;>first|exact wN h|((try replace hF:=wX hF);clear h0;first|exact hF.elim|((try subst (h:(_:Bool)=_));try replace hF:=wX hF)))|(refine wQ ?_;clear hQ hR hE hM)|refine wC d0 ?_|refine wC d2 ?_|fail)
    all_goals first|exact hF|(exfalso;contradiction)|(exfalso;omega)|exact congrArg AV.b hF|exact nX (i+1)|trace_state
  ·rw[zfx hge,hEd]at hF;(try dsimp only at hF)
   have c7:=c3 tr
   rcases zaV l tr with ⟨e1,_⟩|⟨k1,hk1,e1,_⟩
   ·rw[e1]at c4
    have s1:zcD l tr=[]:=by unfold zcD;rw[e1];rfl
    rw[s1]at hF hO
    clear s1
    rcases zaV X tr with ⟨e2,_⟩|⟨k2,hk2,e2,_⟩
    ·rw[e2]at c7
     have s2:zcD X tr=[]:=by unfold zcD;rw[e2];rfl
     rw[s2]at hF
     clear s2
     rcases A with _|⟨x,_|⟨x2,A⟩⟩
     ·(repeat' first|refine zaa [0,1,2,3,4,5,6,7,8,9,10,11,12,13,14,15,16,25,37,51,61,85,88,93,107,119,139,144] fun K hK=>?_|(refine hK.go ?_;clear hK K)|with_reducible exact wT|refine wA ?_|(refine wE (fun h0 h=>?_) (fun h0 h=>?_)<;>first|exact wN h|((try replace hF:=wX hF);clear h0;first|exact hF.elim|((try subst (h:(_:Bool)=_));try replace hF:=wX hF)))|(refine wQ ?_;clear hQ hR hE hM)|refine wC c4 ?_|refine wC c7 ?_|fail)
      all_goals first|exact hF|exact congrArg AV.b hF|(exfalso;contradiction)|(exfalso;omega)|(simp at hF;done)|(simp at hF ⊢;first|done|exact hF|omega|(simp_all;done))|trace_state
     ·have n0:nth [x] 0=x:=rfl
      simp only[n0,List.length_cons,List.length_nil,Nat.zero_add]at hF
      (repeat' first|refine zaa [0,1,2,3,4,5,6,7,8,9,10,11,12,13,14,15,16,25,37,51,61,85,88,93,107,119,139,144] fun K hK=>?_|(refine hK.go ?_;clear hK K)|with_reducible exact wT|refine wA ?_|(refine wE (fun h0 h=>?_) (fun h0 h=>?_)<;>first|exact wN h|((try replace hF:=wX hF);clear h0;first|exact hF.elim|((try subst (h:(_:Bool)=_));try replace hF:=wX hF)))|(refine wQ ?_;clear hQ hR hE hM)|refine wC c4 ?_|refine wC c7 ?_|fail)
      all_goals first|exact hF|exact congrArg AV.b hF|(exfalso;contradiction)|(exfalso;omega)|(simp at hF;done)|(simp at hF ⊢;first|done|exact hF|omega|(simp_all;done))|trace_state
     ·(repeat' first|refine zaa [0,1,2,3,4,5,6,7,8,9,10,11,12,13,14,15,16,25,37,51,61,85,88,93,107,119,139,144] fun K hK=>?_|(refine hK.go ?_;clear hK K)|with_reducible exact wT|refine wA ?_|(refine wE (fun h0 h=>?_) (fun h0 h=>?_)<;>first|exact wN h|((try replace hF:=wX hF);clear h0;first|exact hF.elim|((try subst (h:(_:Bool)=_));try replace hF:=wX hF)))|(refine wQ ?_;clear hQ hR hE hM)|refine wC c4 ?_|refine wC c7 ?_|fail)
      all_goals first|exact hF|exact congrArg AV.b hF|(exfalso;contradiction)|(exfalso;omega)|(simp at hF;done)|(simp at hF ⊢;first|done|exact hF|omega|(simp_all;done))|trace_state
    ·rw[e2]at c7
     have s2:zcD X tr=(nth X k2).secs:=by unfold zcD;rw[e2,if_neg (by omega),Int.toNat_natCast]
     rw[s2]at hF
     clear s2
     rcases A with _|⟨x,_|⟨x2,A⟩⟩
     ·(repeat' first|refine zaa [0,1,2,3,4,5,6,7,8,9,10,11,12,13,14,15,16,25,37,51,61,85,88,93,107,119,139,144] fun K hK=>?_|(refine hK.go ?_;clear hK K)|with_reducible exact wT|refine wA ?_|(refine wE (fun h0 h=>?_) (fun h0 h=>?_)<;>first|exact wN h|((try replace hF:=wX hF);clear h0;first|exact hF.elim|((try subst (h:(_:Bool)=_));try replace hF:=wX hF)))|(refine wQ ?_;clear hQ hR hE hM)|refine wC c4 ?_|refine wC c7 ?_|fail)
      all_goals first|exact hF|exact congrArg AV.b hF|(exfalso;contradiction)|(exfalso;omega)|(simp at hF;done)|(simp at hF ⊢;first|done|exact hF|omega|(simp_all;done))|trace_state
     ·have n0:nth [x] 0=x:=rfl
      simp only[n0,List.length_cons,List.length_nil,Nat.zero_add]at hF
      (repeat' first|refine zaa [0,1,2,3,4,5,6,7,8,9,10,11,12,13,14,15,16,25,37,51,61,85,88,93,107,119,139,144] fun K hK=>?_|(refine hK.go ?_;clear hK K)|with_reducible exact wT|refine wA ?_|(refine wE (fun h0 h=>?_) (fun h0 h=>?_)<;>first|exact wN h|((try replace hF:=wX hF);clear h0;first|exact hF.elim|((try subst (h:(_:Bool)=_));try replace hF:=wX hF)))|(refine wQ ?_;clear hQ hR hE hM)|refine wC c4 ?_|refine wC c7 ?_|fail)
      all_goals first|exact hF|exact congrArg AV.b hF|(exfalso;contradiction)|(exfalso;omega)|(simp at hF;done)|(simp at hF ⊢;first|done|exact hF|omega|(simp_all;done))|trace_state
     ·(repeat' first|refine zaa [0,1,2,3,4,5,6,7,8,9,10,11,12,13,14,15,16,25,37,51,61,85,88,93,107,119,139,144] fun K hK=>?_|(refine hK.go ?_;clear hK K)|with_reducible exact wT|refine wA ?_|(refine wE (fun h0 h=>?_) (fun h0 h=>?_)<;>first|exact wN h|((try replace hF:=wX hF);clear h0;first|exact hF.elim|((try subst (h:(_:Bool)=_));try replace hF:=wX hF)))|(refine wQ ?_;clear hQ hR hE hM)|refine wC c4 ?_|refine wC c7 ?_|fail)
      all_goals first|exact hF|exact congrArg AV.b hF|(exfalso;contradiction)|(exfalso;omega)|(simp at hF;done)|(simp at hF ⊢;first|done|exact hF|omega|(simp_all;done))|trace_state
   ·rw[e1]at c4
    have s1:zcD l tr=(nth l k1).secs:=by unfold zcD;rw[e1,if_neg (by omega),Int.toNat_natCast]
    rw[s1]at hF hO
    clear s1
    rcases zaV X tr with ⟨e2,_⟩|⟨k2,hk2,e2,_⟩
    ·rw[e2]at c7
     have s2:zcD X tr=[]:=by unfold zcD;rw[e2];rfl
     rw[s2]at hF
     clear s2
     rcases A with _|⟨x,_|⟨x2,A⟩⟩
     ·(repeat' first|refine zaa [0,1,2,3,4,5,6,7,8,9,10,11,12,13,14,15,16,25,37,51,61,85,88,93,107,119,139,144] fun K hK=>?_|(refine hK.go ?_;clear hK K)|with_reducible exact wT|refine wA ?_|(refine wE (fun h0 h=>?_) (fun h0 h=>?_)<;>first|exact wN h|((try replace hF:=wX hF);clear h0;first|exact hF.elim|((try subst (h:(_:Bool)=_));try replace hF:=wX hF)))|(refine wQ ?_;clear hQ hR hE hM)|refine wC c4 ?_|refine wC c7 ?_|fail)
      all_goals first|exact hF|exact congrArg AV.b hF|(exfalso;contradiction)|(exfalso;omega)|(simp at hF;done)|(simp at hF ⊢;first|done|exact hF|omega|(simp_all;done))|trace_state
     ·have n0:nth [x] 0=x:=rfl
      simp only[n0,List.length_cons,List.length_nil,Nat.zero_add]at hF
      have x1:(((nth l k1).secs.length:Int)-1).toNat=(nth l k1).secs.length-1:=by omega
      (have hX:=@x1;(repeat' first|refine zaa [0,1,2,3,4,5,6,7,8,9,10,11,12,13,14,15,16,25,37,51,61,85,88,93,107,119,139,144] fun K hK=>?_|(refine hK.go ?_;clear hK K)|with_reducible exact wT|refine wA ?_|(refine wE (fun h0 h=>?_) (fun h0 h=>?_)<;>first|exact wN h|((try replace hF:=wX hF);clear h0;first|exact hF.elim|((try subst (h:(_:Bool)=_));try replace hF:=wX hF)))|(refine wQ ?_;clear hQ hR hE hM)|refine wC c4 ?_|refine wC c7 ?_|fail);all_goals clear hX)
      all_goals first|exact hF|exact congrArg AV.b hF|(exfalso;contradiction)|(exfalso;omega)|(simp at hF;done)|(simp at hF ⊢;first|done|exact hF|omega|(simp_all;done))|trace_state
     ·(repeat' first|refine zaa [0,1,2,3,4,5,6,7,8,9,10,11,12,13,14,15,16,25,37,51,61,85,88,93,107,119,139,144] fun K hK=>?_|(refine hK.go ?_;clear hK K)|with_reducible exact wT|refine wA ?_|(refine wE (fun h0 h=>?_) (fun h0 h=>?_)<;>first|exact wN h|((try replace hF:=wX hF);clear h0;first|exact hF.elim|((try subst (h:(_:Bool)=_));try replace hF:=wX hF)))|(refine wQ ?_;clear hQ hR hE hM)|refine wC c4 ?_|refine wC c7 ?_|fail)
      all_goals first|exact hF|exact congrArg AV.b hF|(exfalso;contradiction)|(exfalso;omega)|(simp at hF;done)|(simp at hF ⊢;first|done|exact hF|omega|(simp_all;done))|trace_state
    ·rw[e2]at c7
     have s2:zcD X tr=(nth X k2).secs:=by unfold zcD;rw[e2,if_neg (by omega),Int.toNat_natCast]
     rw[s2]at hF
     clear s2
     rcases A with _|⟨x,_|⟨x2,A⟩⟩
     ·(repeat' first|refine zaa [0,1,2,3,4,5,6,7,8,9,10,11,12,13,14,15,16,25,37,51,61,85,88,93,107,119,139,144] fun K hK=>?_|(refine hK.go ?_;clear hK K)|with_reducible exact wT|refine wA ?_|(refine wE (fun h0 h=>?_) (fun h0 h=>?_)<;>first|exact wN h|((try replace hF:=wX hF);clear h0;first|exact hF.elim|((try subst (h:(_:Bool)=_));try replace hF:=wX hF)))|(refine wQ ?_;clear hQ hR hE hM)|refine wC c4 ?_|refine wC c7 ?_|fail)
      all_goals first|exact hF|exact congrArg AV.b hF|(exfalso;contradiction)|(exfalso;omega)|(simp at hF;done)|(simp at hF ⊢;first|done|exact hF|omega|(simp_all;done))|trace_state
     ·have n0:nth [x] 0=x:=rfl
      simp only[n0,List.length_cons,List.length_nil,Nat.zero_add]at hF
      have x1:(((nth l k1).secs.length:Int)-1).toNat=(nth l k1).secs.length-1:=by omega
      (have hX:=@x1;(repeat' first|refine zaa [0,1,2,3,4,5,6,7,8,9,10,11,12,13,14,15,16,25,37,51,61,85,88,93,107,119,139,144] fun K hK=>?_|(refine hK.go ?_;clear hK K)|with_reducible exact wT|refine wA ?_|(refine wE (fun h0 h=>?_) (fun h0 h=>?_)<;>first|exact wN h|((try replace hF:=wX hF);clear h0;first|exact hF.elim|((try subst (h:(_:Bool)=_));try replace hF:=wX hF)))|(refine wQ ?_;clear hQ hR hE hM)|refine wC c4 ?_|refine wC c7 ?_|fail);all_goals clear hX)
      all_goals first|exact hF|exact congrArg AV.b hF|(exfalso;contradiction)|(exfalso;omega)|(simp at hF;done)|(simp at hF ⊢;first|done|exact hF|omega|(simp_all;done))|trace_state
     ·(repeat' first|refine zaa [0,1,2,3,4,5,6,7,8,9,10,11,12,13,14,15,16,25,37,51,61,85,88,93,107,119,139,144] fun K hK=>?_|(refine hK.go ?_;clear hK K)|with_reducible exact wT|refine wA ?_|(refine wE (fun h0 h=>?_) (fun h0 h=>?_)<;>first|exact wN h|((try replace hF:=wX hF);clear h0;first|exact hF.elim|((try subst (h:(_:Bool)=_));try replace hF:=wX hF)))|(refine wQ ?_;clear hQ hR hE hM)|refine wC c4 ?_|refine wC c7 ?_|fail)
      all_goals first|exact hF|exact congrArg AV.b hF|(exfalso;contradiction)|(exfalso;omega)|(simp at hF;done)|(simp at hF ⊢;first|done|exact hF|omega|(simp_all;done))|trace_state
end Go.Lev
namespace Go.Lev
open Go.Eng
variable {P:Program} {inv:Nat→Option Nat}
theorem trainOne_all (hH:HasAll P inv) (hI:HasIds P inv) (hIn:HasIns P inv) (p:Pln) (hp:Pln.ok p) (s:State) (l:List TrainD) (m:MoveD) (hk:0≤m.kind∧m.kind≤255):PC P inv 378 [.agg p.c,.agg s.c,.agg (wld l),.agg m.c] (·=.b true):=zk9 hH hI hIn (zdD hH hI hIn) p hp s l m hk
end Go.Lev
