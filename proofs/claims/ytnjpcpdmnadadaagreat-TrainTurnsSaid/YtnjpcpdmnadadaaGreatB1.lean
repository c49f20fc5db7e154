/-
  A part of the engine that walks the functions' codes, and of the functions' contracts. Conditions: those that each theorem names.
-/
import Derived.Test.YtnjpcpdmnadadaaGreatL14
import Derived.IntWalk
import Derived.Laws.IdiomCopy
set_option linter.unusedSimpArgs false
set_option linter.unusedVariables false
set_option linter.unusedSectionVars false
namespace Go.Lev
open Go.Eng
theorem zox {pt a b:Int} (ha:0≤a∧a≤2) (hb:0≤b∧b≤2) (h:¬zbb pt a b=0):¬zbb pt b a=0:=by
 unfold zbb at h ⊢
 by_cases hp:pt=0
 ·rw[if_pos hp]at h ⊢
  split at h
  ·rename_i q
   rw[if_pos (q.symm.imp And.symm And.symm)];decide
  ·exact absurd rfl h
 ·rw[if_neg hp]at h ⊢
  rcases zb2 ha with rfl|rfl|rfl<;>rcases zb2 hb with rfl|rfl|rfl<;>simp at h ⊢
theorem zla {S:Section} {a b:Int} (h:(zbH S a b).2=0):(zbH S b a).2=0:=by
 obtain ⟨h1,h2,h3,h4⟩:=zej.1 h
 exact zej.2 ⟨h1,h3,h2,zox h2 h3 h4⟩
theorem turn_ok {p:Pln} {s:State} {t:TrainD} (h:TrOk p s t):TrOk p s (zbk t) where
 one:=h.one
 four:=h.four
 m0:=by show (0:Int)≤0;decide
 m9:=by show (0:Int)≤9;decide
 sec:=h.sec
 lead:=h.lead
 thru:=zla h.thru
 rt:=.inr ⟨rfl,rfl⟩
 may:=zmw rfl rfl
end Go.Lev
namespace Go.Lev
open Go.Eng
theorem plan_ok {p:Pln} {s:State} (h:zai p s=0):zbA p=true:=by
 unfold zai at h
 split at h
 ·rename_i h1
  simp only[zbE,Bool.and_eq_true]at h1
  exact h1.1
 ·exact absurd h (by decide)
theorem next_ok {p:Pln} {n a b:Int} (hf:(zaw p.sections n).2=0) (h:(zbH (zaw p.sections n).1 a b).2=0):(zbf p.sections n a).2=0:=by
 obtain ⟨h1,h2,h3,h4⟩:=zej.1 h
 unfold zbf nextS
 rw[if_pos hf]
 have key:¬(a<0∨((zaw p.sections n).1.ends.length:Int)≤a):=by
  rintro (h5|h5)
  ·omega
  ·rw[zcT]at h1
   unfold zbp at h1
   by_cases hp:(zaw p.sections n).1.pt=0
   ·rw[if_pos hp]at h1
    simp only[decide_eq_true_eq]at h1
    unfold zbb at h4
    rw[if_pos hp]at h4
    apply h4
    rw[if_neg]
    rintro (⟨q,_⟩|⟨q,_⟩)<;>omega
   ·rw[if_neg hp]at h1
    simp only[Bool.and_eq_true,decide_eq_true_eq]at h1
    omega
 rw[if_neg key]
theorem ofW0 {p:Pln} (h:zbA p=true):¬(ofW p 0).2=0:=by
 unfold ofW
 rw[if_pos h]
 cases e:p.routes.find? fun x=>decide (x.id=0) with
 |none=>(show ¬(6:Int)=0;decide)
 |some r =>
  have h1:=List.mem_of_find?_eq_some e
  have h2:=List.find?_some e
  simp only[decide_eq_true_eq]at h2
  have h3:=((zfo _ _).1 (zeL h).rise).1 r.id (List.mem_map_of_mem h1)
  omega
theorem mv2 {p:Pln} {s:State} {l:List TrainD} {n se ed:Int} (hc:ckC p s l=0):mvR p s l ⟨2,n,se,ed⟩=ze8 p s l n (zig p s l):=by
 unfold mvR;rw[if_pos hc,if_neg (show ¬(2:Int)=1 by decide),if_pos rfl]
theorem mv4 {p:Pln} {s:State} {l:List TrainD} {n se ed:Int} (hc:ckC p s l=0):mvR p s l ⟨4,n,se,ed⟩=ze8 p s l n (ziX l):=by
 unfold mvR;rw[if_pos hc,if_neg (show ¬(4:Int)=1 by decide),if_neg (show ¬(4:Int)=2 by decide),if_neg (show ¬(4:Int)=3 by decide),if_pos rfl]
theorem mv5 {p:Pln} {s:State} {l:List TrainD} {n se ed:Int} (hc:ckC p s l=0):mvR p s l ⟨5,n,se,ed⟩=ze8 p s l n (zl0 p l):=by
 unfold mvR;rw[if_pos hc,if_neg (show ¬(5:Int)=1 by decide),if_neg (show ¬(5:Int)=2 by decide),if_neg (show ¬(5:Int)=3 by decide),if_neg (show ¬(5:Int)=4 by decide),if_pos rfl]
theorem zoA {p:Pln} {s:State} {l:List TrainD} {n se ed:Int} (he:(mvR p s l ⟨4,n,se,ed⟩).1=0):∃ k,TurnS p s l n se ed k:=by
 by_cases hc:ckC p s l=0
 ·obtain ⟨hst,hT⟩:=(zbr p s l).1 hc
  have hp:=plan_ok hst
  rw[mv4 hc]at he
  unfold ze8 at he
  rcases zaV l n with ⟨e,_⟩|⟨k,hk,e,hid⟩
  ·rw[e,if_pos (by decide)]at he;simp at he
  rw[e,if_neg (by omega),Int.toNat_natCast]at he
  unfold ziX at he
  split at he
  ·simp at he
  rename_i n1
  have ht:=zb9.1 (hT.may _ (zae hk))
  have hT2:=hT.set hk (t:=zbk (nth l k)) rfl rfl (turn_ok ht)
  have hc2:ckC p s (l.set k (zbk (nth l k)))=0:=(zbr p s _).2 ⟨hst,hT2⟩
  have hk2:k<(l.set k (zbk (nth l k))).length:=by simpa using hk
  have ea:zcN (l.set k (zbk (nth l k))) n=(k:Int):=by
   have:=zjO (t:=zbk (nth l k)) hk hT.up rfl
   rw[show (zbk (nth l k)).id=n from hid]at this
   exact this
  have en:nth (l.set k (zbk (nth l k))) k=zbk (nth l k):=by rw[zbg _ _ _ _ hk,if_pos rfl]
  refine ⟨k,hk,e,ht.one, ?_, ?_, ?_,fun h0=>?_,fun h1=>?_⟩
  ·rw[mv4 hc]
   unfold ze8 ziX
   rw[e,if_neg (by omega),Int.toNat_natCast,if_neg n1]
  ·rw[mv4 hc2]
   unfold ze8 ziX
   rw[ea,if_neg (by omega),Int.toNat_natCast,en,if_neg (show ¬1<(zbk (nth l k)).secs.length from n1),List.set_set]
  ·unfold stC
   rw[if_pos hp]
   exact next_ok (ht.sec 0 ht.one).1 ht.thru
  ·rw[mv2 hc2]
   unfold ze8
   rw[ea,if_neg (by omega),Int.toNat_natCast,en]
   unfold zig
   have hlen:(zbk (nth l k)).secs.length=(nth l k).secs.length:=rfl
   rw[if_neg (by omega),if_pos]
   left
   unfold goT
   rw[if_neg (fun h=>ofW0 hp h.1)]
   rw[if_pos (show ze6 p (nth (zbk (nth l k)).secs 0) (zbk (nth l k)).ed=0 from h0)]
  ·rw[mv5 hc]at h1 ⊢
   unfold ze8 at h1 ⊢
   rw[e,if_neg (by omega),Int.toNat_natCast]at h1 ⊢
   unfold zl0 at h1 ⊢
   split at h1
   ·rename_i h2
    rw[if_pos h2]
    refine ⟨(zbr p s _).2 ⟨hst,hT.sub (List.eraseIdx_sublist l k)⟩, ?_⟩
    show ((l.eraseIdx k).length:Int)=_
    rw[List.length_eraseIdx_of_lt hk]
    omega
   ·simp at h1
 ·have hm:mvR p s l ⟨4,n,se,ed⟩=(ckC p s l,[],[]):=if_neg hc
  rw[hm]at he
  exact absurd he hc
end Go.Lev
namespace Go.Lev
open Go.Eng
set_option maxRecDepth 10000
set_option maxHeartbeats 8000000
variable {P:Program} {inv:Nat→Option Nat} {w0:World} {M:Nat→Prop}
theorem zl9 {p:Pln} {s:State} {l:List TrainD} (h:ckC p s l=0):∀ t∈l,t.secs.length≤1000:=fun t ht =>
 Nat.le_trans (zb9.1 (((zbr p s l).1 h).2.may t ht)).four (by decide)
theorem ziZ (hH:HasAll P inv) (hI:HasIds P inv) (hIn:HasIns P inv) (c0:PC P inv 212 [] (·=.b true)) (p:Pln) (hp:Pln.ok p) (s:State) (l:List TrainD) (n:Int):PC P inv 379 [.agg p.c,.agg s.c,.agg (wld l),.n n] (·=.b true):=by
 have c1:=zex hH p s l
 cases hg:(gPl p||(zgG s||gTr l)) with
 |true =>
  rw[hg]at c1
  unfold wld at *
  refine PC.fn hH cd379 fun w0 M Q hM hE hQ hR=>?_;dsimp only[cd379,qm,ql,qf,qi,qb,qc,qp,qv,qN,qT,qF,qt]at hQ ⊢
  (repeat' first|refine zaa [0,1,2,3,4,5,6,8,9,10,11,13,14,16,17,18,19,20,23,24,26,35,49,67,83,84,93,115] fun K hK=>?_|(refine hK.go ?_;clear hK K)|with_reducible exact wT|refine wA ?_|(refine wB (fun h=>?_) (fun h=>?_)<;>first|exact wN h|subst (h:(_:Bool)=_)|skip)|(refine wQ ?_;clear hQ hR hE hM)|refine wC c0 ?_|refine wC c1 ?_|fail)
 |false =>
  rw[hg]at c1
  simp only[Bool.or_eq_false_iff]at hg
  have hp':=sm31 hp hg.1
  have hs':=zmB hg.2.1
  obtain ⟨hl30,hls30⟩:=tr31 hg.2.2
  have hls:∀ t∈l,t.secs.length≤1000:=fun t ht=>Nat.le_trans (hls30 t ht) (by omega)
  have c2:=zbK hH hI hIn p hp' s hs' l (by omega) hls ⟨4,n,0,0⟩ (by dsimp only;omega)
  by_cases h0:(mvR p s l ⟨4,n,0,0⟩).1=0
  ·obtain ⟨k,hk7,e1,hk8,r1,r2,hst,hhd,hgn⟩:=zoA h0
   rw[r1]at c2
   have hc:=zpB h0
   have hc1:=zpB (show (mvR p s (l.set k (zbk (nth l k))) ⟨4,n,0,0⟩).1=0 by rw[r2])
   have c3:=zbK hH hI hIn p hp' s hs' _ (by rw[List.length_set];omega) (zl9 hc1) ⟨4,n,0,0⟩ (by dsimp only;omega)
   rw[r2]at c3
   have c4:=zfP hH l (by omega) n
   rw[e1]at c4
   have c5:=zis hH (zbk (zbk (nth l k))) (zbk (zbk (nth l k))) (Nat.le_trans (show (zbk (zbk (nth l k))).secs.length≤30 from hls30 (nth l k) (zae hk7)) (by omega))
   rw[decide_eq_true rfl]at c5
   have c6:=zg4 hH hI p hp' (nth (nth l k).secs 0) (nth l k).fr
   rw[hst]at c6
   have c7:=zbK hH hI hIn p hp' s hs' _ (by rw[List.length_set];omega) (zl9 hc1) ⟨2,n,0,0⟩ (by dsimp only;omega)
   have c8:=zbK hH hI hIn p hp' s hs' l (by omega) hls ⟨5,n,0,0⟩ (by dsimp only;omega)
   have hX4:=zjo p s l ⟨5,n,0,0⟩
   have hs4:∀ t∈(mvR p s l ⟨5,n,0,0⟩).2.1,t.secs.length≤1000:=by
    by_cases h5:(mvR p s l ⟨5,n,0,0⟩).1=0
    ·exact zl9 (hgn h5).1
    ·rw[mvR_no p s l _ h5];intro t ht;simp at ht
   have c9:=zbD hH hI p hp' s hs' (mvR p s l ⟨5,n,0,0⟩).2.1 (by omega) hs4
   have hd':ze6 p (nth (nth l k).secs 0) (nth l k).fr=0→(mvR p s (l.set k (zbk (nth l k))) ⟨2,n,0,0⟩).1=310:=fun h=>by rw[hhd h]
   have y1:nth (l.set k (zbk (zbk (nth l k)))) k=zbk (zbk (nth l k)):=by rw[zbg _ _ _ _ hk7,if_pos rfl]
   have y2:(l.set k (zbk (zbk (nth l k)))).length=l.length:=List.length_set
   have x0:((nth l k).secs.map zck)[0]?=some [.n (nth (nth l k).secs 0)]:=by rw[List.getElem?_map,List.getElem?_eq_getElem hk8,zay hk8];rfl
   generalize ckC p s (mvR p s l ⟨5,n,0,0⟩).2.1=K4 at *
   generalize mvR p s l ⟨5,n,0,0⟩=R4 at *
   obtain ⟨e4,X4,A4⟩:=R4
   generalize mvR p s (l.set k (zbk (nth l k))) ⟨2,n,0,0⟩=R3 at *
   obtain ⟨e3,X3,A3⟩:=R3
   generalize ze6 p (nth (nth l k).secs 0) (nth l k).fr=V at *
   generalize l.set k (zbk (zbk (nth l k)))=L2 at *
   generalize l.set k (zbk (nth l k))=L1 at *
   dsimp only at hgn hX4 hs4 c9 hd'
   unfold zbk at y1 c5
   dsimp only at y1 c5
   unfold TrainD.c at c5
   unfold zoj zcm MoveD.c at c2 c3 c7 c8
   dsimp only at c2 c3 c5 c7 c8
   unfold wld at *
   clear r1 r2 hst hhd h0 hc hc1 hs4
   refine PC.fn hH cd379 fun w0 M Q hM hE hQ hR=>?_;dsimp only[cd379,qm,ql,qf,qi,qb,qc,qp,qv,qN,qT,qF,qt]at hQ ⊢
   (have hX:=zA @y1 @y2;(repeat' first|refine zaa [0,1,2,3,4,5,6,8,9,10,11,13,14,16,17,18,19,20,23,24,26,35,49,67,83,84,93,115] fun K hK=>?_|(refine hK.go ?_;clear hK K)|with_reducible exact wT|refine wA ?_|(refine wB (fun h=>?_) (fun h=>?_)<;>first|exact wN h|subst (h:(_:Bool)=_)|skip)|(refine wQ ?_;clear hQ hR hE hM)|refine wC c0 ?_|refine wC c1 ?_|refine wC c2 ?_|refine wC c3 ?_|refine wC c4 ?_|refine wC c5 ?_|refine wC c6 ?_|refine wC c7 ?_|refine wC c8 ?_|refine wC c9 ?_|fail);all_goals clear hX)
   all_goals first|rfl|(exfalso;contradiction)|(exfalso;omega)|exact decide_eq_true (hgn (by assumption)).2|trace_state
  ·generalize mvR p s l ⟨4,n,0,0⟩=R at *
   obtain ⟨e,X,A⟩:=R
   dsimp only at h0
   unfold zoj zcm MoveD.c at c2
   dsimp only at c2
   unfold wld at *
   refine PC.fn hH cd379 fun w0 M Q hM hE hQ hR=>?_;dsimp only[cd379,qm,ql,qf,qi,qb,qc,qp,qv,qN,qT,qF,qt]at hQ ⊢
   (repeat' first|refine zaa [0,1,2,3,4,5,6,8,9,10,11,13,14,16,17,18,19,20,23,24,26,35,49,67,83,84,93,115] fun K hK=>?_|(refine hK.go ?_;clear hK K)|with_reducible exact wT|refine wA ?_|(refine wB (fun h=>?_) (fun h=>?_)<;>first|exact wN h|subst (h:(_:Bool)=_)|skip)|(refine wQ ?_;clear hQ hR hE hM)|refine wC c0 ?_|refine wC c1 ?_|refine wC c2 ?_|fail)
   all_goals first|rfl|(exfalso;contradiction)|(exfalso;omega)|trace_state
end Go.Lev
namespace Go.Lev
open Go.Eng
variable {P:Program} {inv:Nat→Option Nat}
theorem trainTurns_all (hH:HasAll P inv) (hI:HasIds P inv) (hIn:HasIns P inv) (p:Pln) (hp:Pln.ok p) (s:State) (l:List TrainD) (n:Int):PC P inv 379 [.agg p.c,.agg s.c,.agg (wld l),.n n] (·=.b true):=ziZ hH hI hIn (zdD hH hI hIn) p hp s l n
end Go.Lev
