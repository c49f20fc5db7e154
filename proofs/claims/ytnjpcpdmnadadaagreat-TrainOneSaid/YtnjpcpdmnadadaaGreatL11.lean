/-
  A part of the engine that walks the functions' codes, and of the functions' contracts. Conditions: those that each theorem names.
-/
import Derived.Test.YtnjpcpdmnadadaaGreatL10
import Derived.IntWalk
import Derived.Laws.IdiomCopy
set_option linter.unusedSimpArgs false
set_option linter.unusedVariables false
set_option linter.unusedSectionVars false
namespace Go.Lev
open Go.Eng
set_option maxRecDepth 10000
set_option maxHeartbeats 4000000
variable {P:Program} {inv:Nat→Option Nat} {w0:World} {M:Nat→Prop}
theorem is267_pc (hH:HasAll P inv) (n:Int) (x:Track):PC P inv 267 ([.agg x.c]++[.ip 1 [[.n n]] 0 0]) (·=.b (decide (x.id=n))):=by
 refine PC.fn hH cd267 fun w0 M Q hM hE hQ hR=>?_;dsimp only[cd267,qm,ql,qf,qi,qb,qc,qp,qv,qN,qT,qF,qt]at hQ ⊢
 (repeat' first|refine zaa [0,1,2,3] fun K hK=>?_|(refine hK.go ?_;clear hK K)|with_reducible exact wT|refine wA ?_|(refine wB (fun h=>?_) (fun h=>?_)<;>first|exact wN h|subst (h:(_:Bool)=_)|skip)|(refine wQ ?_;clear hQ hR hE hM)|fail)
theorem is269_pc (hH:HasAll P inv) (n:Int) (x:Join):PC P inv 269 ([.agg x.c]++[.ip 1 [[.n n]] 0 0]) (·=.b (decide (x.to=n))):=by
 refine PC.fn hH cd269 fun w0 M Q hM hE hQ hR=>?_;dsimp only[cd269,qm,ql,qf,qi,qb,qc,qp,qv,qN,qT,qF,qt]at hQ ⊢
 (repeat' first|refine zaa [0,1,2,3] fun K hK=>?_|(refine hK.go ?_;clear hK K)|with_reducible exact wT|refine wA ?_|(refine wB (fun h=>?_) (fun h=>?_)<;>first|exact wN h|subst (h:(_:Bool)=_)|skip)|(refine wQ ?_;clear hQ hR hE hM)|fail)
theorem zpL {s:State} {n:Int} (h:∀ x∈s.tracks,x.id≠n):zdj s n=2:=by
 unfold zdj
 rw[List.find?_eq_none.2 fun x hx=>by simpa using h x hx]
theorem zgd (hH:HasAll P inv) (p:Pln) (s:State) (hs:SmS s) (hst:zai p s=0) (n:Int):PC P inv 249 [.agg (stn p s),.n n] (·=.i .u8 (zdj s n)):=by
 have c1:=idx_trk hH s.tracks (fun x _=>is267_pc hH n x) (by have:=hs.1;omega)
 have hl1:=hs.1
 unfold stn
 rcases zcY Track.id n s.tracks with ⟨h4,hno⟩|⟨m,hm,h4,h5⟩
 ·rw[h4]at c1
  rw[zpL hno]
  refine PC.fn hH cd249 fun w0 M Q hM hE hQ hR=>?_;dsimp only[cd249,qm,ql,qf,qi,qb,qc,qp,qv,qN,qT,qF,qt]at hQ ⊢
  (repeat' first|refine zaa [0,1,2,3,4,5,12] fun K hK=>?_|(refine hK.go ?_;clear hK K)|with_reducible exact wT|refine wA ?_|(refine wB (fun h=>?_) (fun h=>?_)<;>first|exact wN h|subst (h:(_:Bool)=_)|skip)|(refine wQ ?_;clear hQ hR hE hM)|refine wS c1 ?_|fail)
  all_goals first|rfl|(exfalso;contradiction)|trace_state
 ·rw[h4]at c1
  rw[←h5,isOf_at2 (zaH hst) (zar hst).2.1 hm]
  rw[←h5]at c1
  refine PC.fn hH cd249 fun w0 M Q hM hE hQ hR=>?_;dsimp only[cd249,qm,ql,qf,qi,qb,qc,qp,qv,qN,qT,qF,qt]at hQ ⊢
  (have hX:=zA @h5 @Int.toNat_natCast;(repeat' first|refine zaa [0,1,2,3,4,5,12] fun K hK=>?_|(refine hK.go ?_;clear hK K)|with_reducible exact wT|refine wA ?_|(refine wB (fun h=>?_) (fun h=>?_)<;>first|exact wN h|subst (h:(_:Bool)=_)|skip)|(refine wQ ?_;clear hQ hR hE hM)|refine wS c1 ?_|fail);all_goals clear hX)
  all_goals first|rfl|(exfalso;contradiction)|(exfalso;omega)|trace_state
theorem lie31_pc (hH:HasAll P inv) (p:Pln) (s:State) (hs:SmS s) (n:Int):PC P inv 261 [.agg (stn p s),.n n] (·=.n (zpF s n)):=by
 have hl2:=hs.2.1
 unfold stn zpF
 refine PC.fn hH cd261 fun w0 M Q hM hE hQ hR=>?_;dsimp only[cd261,qm,ql,qf,qi,qb,qc,qp,qv,qN,qT,qF,qt]at hQ ⊢
 (repeat' first|refine zaa [0,1,2,4,6,9,10,11,12,18] fun K hK=>?_|(refine hK.go ?_;clear hK K)|with_reducible exact wT|refine wA ?_|(refine wB (fun h=>?_) (fun h=>?_)<;>first|exact wN h|subst (h:(_:Bool)=_)|skip)|(refine wQ ?_;clear hQ hR hE hM)|fail)
 refine zaz (ι:=Nat) [1,4,9,10,11] (fun z=>[(11,.n z)]) (fun _=>[]) (fun z=>z) (s.switches.length) (fun z=>((s.switches.drop z).find? (fun t=>decide (t.id=n))=s.switches.find? (fun t=>decide (t.id=n)))) (0) ?_;rintro k ⟨hk,hg⟩;(try dsimp only at hk hg ⊢);rcases Nat.lt_or_ge k s.switches.length with hlt|hge
 ·rw[zag hlt,List.find?_cons]at hg
  by_cases h1:(nth s.switches k).id=n
  ·rw[decide_eq_true h1]at hg
   have h2:decide ((nth s.switches k).id=n)=true:=decide_eq_true h1
   (have hX:=@h2;(repeat' first|refine zaa [0,1,2,4,6,9,10,11,12,18] fun K hK=>?_|(refine hK.go ?_;clear hK K)|with_reducible exact wT|refine wA ?_|(refine wB (fun h=>?_) (fun h=>?_)<;>first|exact wN h|subst (h:(_:Bool)=_)|skip)|(refine wQ ?_;clear hQ hR hE hM)|fail);all_goals clear hX)
   all_goals first|(exfalso;contradiction)|(rw[←hg];done)|(rw[←hg];rfl)|trace_state
  ·rw[decide_eq_false h1]at hg
   have h2:decide ((nth s.switches k).id=n)=false:=decide_eq_false h1
   (have hX:=@h2;(repeat' first|refine zaa [0,1,2,4,6,9,10,11,12,18] fun K hK=>?_|(refine hK.go ?_;clear hK K)|with_reducible exact wT|refine wA ?_|(refine wB (fun h=>?_) (fun h=>?_)<;>first|exact wN h|subst (h:(_:Bool)=_)|skip)|(refine wQ ?_;clear hQ hR hE hM)|fail);all_goals clear hX)
   all_goals first|(exfalso;contradiction)|exact ⟨k+1,by omega,⟨by omega,hg⟩,by omega⟩|trace_state
 ·rw[List.drop_eq_nil_of_le hge,List.find?_nil]at hg
  (repeat' first|refine zaa [0,1,2,4,6,9,10,11,12,18] fun K hK=>?_|(refine hK.go ?_;clear hK K)|with_reducible exact wT|refine wA ?_|(refine wB (fun h=>?_) (fun h=>?_)<;>first|exact wN h|subst (h:(_:Bool)=_)|skip)|(refine wQ ?_;clear hQ hR hE hM)|fail)
  all_goals first|(rw[←hg];done)|(rw[←hg];rfl)|trace_state
theorem znW (hH:HasAll P inv) (p:Pln) (hp:Sm p) (ho:OkP p) (s:State) (a b:Int):PC P inv 250 [.agg (stn p s),.n a,.n b] (·=.b (zdz p a b)):=by
 have hen:∀ x∈p.sections,x.ends.length≤3:=fun x hx=>(zbd ho.sec x hx).2.2.2.2
 have c1:=zez hH p.sections a (Nat.le_trans hp.sec (by omega)) (fun x hx=>Nat.le_trans (hen x hx) (by omega))
 unfold stn zdz
 have hel:(zaw p.sections a).1.ends.length≤1000000000:=by
  unfold zaw
  repeat' split
  ·simp[za0]
  ·by_cases h:(ze9 a 0 p.sections).toNat<p.sections.length
   ·exact Nat.le_trans (hen _ (zae h)) (by omega)
   ·rw[show nth p.sections (ze9 a 0 p.sections).toNat=default by unfold nth;simp[h]];decide
  ·simp[za0]
 have c2:=any_jon hH (zaw p.sections a).1.ends (fun x _=>is269_pc hH b x) hel
 generalize (zaw p.sections a).2=e at *
 generalize (zaw p.sections a).1=S at *
 generalize (S.ends.any fun j=>decide (j.to=b))=t at *
 by_cases he:e=0
 ·subst he
  refine PC.fn hH cd250 fun w0 M Q hM hE hQ hR=>?_;dsimp only[cd250,qm,ql,qf,qi,qb,qc,qp,qv,qN,qT,qF,qt]at hQ ⊢
  (repeat' first|refine zaa [0,1,2,3,5,6,7,8] fun K hK=>?_|(refine hK.go ?_;clear hK K)|with_reducible exact wT|refine wA ?_|(refine wB (fun h=>?_) (fun h=>?_)<;>first|exact wN h|subst (h:(_:Bool)=_)|skip)|(refine wQ ?_;clear hQ hR hE hM)|refine wC c1 ?_|refine wS c2 ?_|fail)
  all_goals first|rfl|(exfalso;contradiction)|(simp;done)|trace_state
 ·have z:=decide_eq_false he
  rw[z,Bool.false_and]
  refine PC.fn hH cd250 fun w0 M Q hM hE hQ hR=>?_;dsimp only[cd250,qm,ql,qf,qi,qb,qc,qp,qv,qN,qT,qF,qt]at hQ ⊢
  (have hX:=@z;(repeat' first|refine zaa [0,1,2,3,5,6,7,8] fun K hK=>?_|(refine hK.go ?_;clear hK K)|with_reducible exact wT|refine wA ?_|(refine wB (fun h=>?_) (fun h=>?_)<;>first|exact wN h|subst (h:(_:Bool)=_)|skip)|(refine wQ ?_;clear hQ hR hE hM)|refine wC c1 ?_|fail);all_goals clear hX)
  all_goals first|rfl|(exfalso;contradiction)|trace_state
theorem zg4 (hH:HasAll P inv) (hI:HasIds P inv) (p:Pln) (hp:Sm p) (a b:Int):PC P inv 270 [.agg p.c,.n a,.n b] (·=.tup [.n (ze6 p a b),.n (stC p a b)]):=by
 have c1:=zd5 hH hI p hp
 have hsl:=hp.sgn
 unfold zbV at c1
 unfold ze6 stC
 cases ho:zbA p with
 |false =>
  rw[ho]at c1
  simp only[Bool.false_eq_true,if_false]at c1 ⊢
  rw[if_neg (by decide)]
  refine PC.fn hH cd270 fun w0 M Q hM hE hQ hR=>?_;dsimp only[cd270,qm,ql,qf,qi,qb,qc,qp,qv,qN,qT,qF,qt]at hQ ⊢
  (repeat' first|refine zaa [0,1,2,3,6,7,9,13,23,25,26,27,28,40] fun K hK=>?_|(refine hK.go ?_;clear hK K)|with_reducible exact wT|refine wA ?_|(refine wB (fun h=>?_) (fun h=>?_)<;>first|exact wN h|subst (h:(_:Bool)=_)|skip)|(refine wQ ?_;clear hQ hR hE hM)|refine wC c1 ?_|fail)
  all_goals first|rfl|(exfalso;contradiction)|trace_state
 |true =>
  have c2:=zlE hH p.sections a b (Nat.le_trans hp.sec (by omega)) (fun x hx=>Nat.le_trans (zbd (zeL ho).sec x hx).2.2.2.2 (by omega))
  rw[ho]at c1
  rw[if_pos rfl]
  rw[if_pos rfl]at c1
  generalize (zbf p.sections a b).2=e at *
  by_cases he:e=0
  ·subst he
   rw[if_pos rfl]
   refine PC.fn hH cd270 fun w0 M Q hM hE hQ hR=>?_;dsimp only[cd270,qm,ql,qf,qi,qb,qc,qp,qv,qN,qT,qF,qt]at hQ ⊢
   (repeat' first|refine zaa [0,1,2,3,6,7,9,13,23,25,26,27,28,40] fun K hK=>?_|(refine hK.go ?_;clear hK K)|with_reducible exact wT|refine wA ?_|(refine wB (fun h=>?_) (fun h=>?_)<;>first|exact wN h|subst (h:(_:Bool)=_)|skip)|(refine wQ ?_;clear hQ hR hE hM)|refine wC c1 ?_|refine wC c2 ?_|fail)
   all_goals first|(exfalso;contradiction)|skip
   refine zaz (ι:=Nat×Int) [1,2,6,7,25,26,27] (fun z=>[(6,.n z.2),(27,.n z.1)]) (fun _=>[]) (fun z=>z.1) (p.signals.length) (fun z=>(sgL a b (p.signals.drop z.1) z.2=sgL a b p.signals 0)) (0,(0:Int)) ?_;rintro ⟨k,v⟩ ⟨hk,hg⟩;(try dsimp only at hk hg ⊢);rcases Nat.lt_or_ge k p.signals.length with hlt|hge
   ·rw[zag hlt,sgL]at hg
    by_cases h1:(nth p.signals k).sec=a∧(nth p.signals k).ed=b
    ·obtain ⟨w1,w2⟩:=h1
     rw[if_pos ⟨w1,w2⟩]at hg
     (have hX:=zA @w1 @w2;(repeat' first|refine zaa [0,1,2,3,6,7,9,13,23,25,26,27,28,40] fun K hK=>?_|(refine hK.go ?_;clear hK K)|with_reducible exact wT|refine wA ?_|(refine wB (fun h=>?_) (fun h=>?_)<;>first|exact wN h|subst (h:(_:Bool)=_)|skip)|(refine wQ ?_;clear hQ hR hE hM)|fail);all_goals clear hX)
     all_goals first|(exfalso;contradiction)|exact ⟨(k+1,(nth p.signals k).id),by dsimp only;omega,⟨by dsimp only;omega,hg⟩,by dsimp only;omega,rfl⟩|exact ⟨(k+1,(nth p.signals k).id),by dsimp only;omega,⟨by dsimp only;omega,hg⟩,rfl,by dsimp only;omega⟩|trace_state
    ·rw[if_neg h1]at hg
     by_cases w1:(nth p.signals k).sec=a
     ·have z:=decide_eq_false (fun w2=>h1 ⟨w1,w2⟩)
      (have hX:=zA @w1 @z;(repeat' first|refine zaa [0,1,2,3,6,7,9,13,23,25,26,27,28,40] fun K hK=>?_|(refine hK.go ?_;clear hK K)|with_reducible exact wT|refine wA ?_|(refine wB (fun h=>?_) (fun h=>?_)<;>first|exact wN h|subst (h:(_:Bool)=_)|skip)|(refine wQ ?_;clear hQ hR hE hM)|fail);all_goals clear hX)
      all_goals first|(exfalso;contradiction)|exact ⟨(k+1,v),by dsimp only;omega,⟨by dsimp only;omega,hg⟩,by dsimp only;omega,rfl⟩|exact ⟨(k+1,v),by dsimp only;omega,⟨by dsimp only;omega,hg⟩,by dsimp only;omega⟩|trace_state
     ·have z:=decide_eq_false w1
      (have hX:=@z;(repeat' first|refine zaa [0,1,2,3,6,7,9,13,23,25,26,27,28,40] fun K hK=>?_|(refine hK.go ?_;clear hK K)|with_reducible exact wT|refine wA ?_|(refine wB (fun h=>?_) (fun h=>?_)<;>first|exact wN h|subst (h:(_:Bool)=_)|skip)|(refine wQ ?_;clear hQ hR hE hM)|fail);all_goals clear hX)
      all_goals first|(exfalso;contradiction)|exact ⟨(k+1,v),by dsimp only;omega,⟨by dsimp only;omega,hg⟩,by dsimp only;omega,rfl⟩|exact ⟨(k+1,v),by dsimp only;omega,⟨by dsimp only;omega,hg⟩,by dsimp only;omega⟩|trace_state
   ·rw[List.drop_eq_nil_of_le hge,sgL]at hg
    (repeat' first|refine zaa [0,1,2,3,6,7,9,13,23,25,26,27,28,40] fun K hK=>?_|(refine hK.go ?_;clear hK K)|with_reducible exact wT|refine wA ?_|(refine wB (fun h=>?_) (fun h=>?_)<;>first|exact wN h|subst (h:(_:Bool)=_)|skip)|(refine wQ ?_;clear hQ hR hE hM)|fail)
    all_goals first|(rw[←hg];done)|(rw[←hg];rfl)|trace_state
  ·rw[if_neg he]
   refine PC.fn hH cd270 fun w0 M Q hM hE hQ hR=>?_;dsimp only[cd270,qm,ql,qf,qi,qb,qc,qp,qv,qN,qT,qF,qt]at hQ ⊢
   (repeat' first|refine zaa [0,1,2,3,6,7,9,13,23,25,26,27,28,40] fun K hK=>?_|(refine hK.go ?_;clear hK K)|with_reducible exact wT|refine wA ?_|(refine wB (fun h=>?_) (fun h=>?_)<;>first|exact wN h|subst (h:(_:Bool)=_)|skip)|(refine wQ ?_;clear hQ hR hE hM)|refine wC c1 ?_|refine wC c2 ?_|fail)
   all_goals first|rfl|(exfalso;contradiction)|trace_state
theorem zg8 (hH:HasAll P inv) (hI:HasIds P inv) (p:Pln) (hp:Sm p) (s:State) (a b:Int):PC P inv 251 [.agg (stn p s),.n a,.n b] (·=.n (ze6 p a b)):=by
 have c1:=zg4 hH hI p hp a b
 have hz:¬stC p a b=0→ze6 p a b=0:=fun h9=>by unfold ze6;rw[if_neg h9]
 unfold stn
 generalize ze6 p a b=v at *
 generalize stC p a b=e at *
 by_cases he:e=0
 ·subst he
  clear hz
  refine PC.fn hH cd251 fun w0 M Q hM hE hQ hR=>?_;dsimp only[cd251,qm,ql,qf,qi,qb,qc,qp,qv,qN,qT,qF,qt]at hQ ⊢
  (repeat' first|refine zaa [0,1,2,3,6,7,8,18] fun K hK=>?_|(refine hK.go ?_;clear hK K)|with_reducible exact wT|refine wA ?_|(refine wB (fun h=>?_) (fun h=>?_)<;>first|exact wN h|subst (h:(_:Bool)=_)|skip)|(refine wQ ?_;clear hQ hR hE hM)|refine wC c1 ?_|fail)
  all_goals first|rfl|(exfalso;contradiction)|trace_state
 ·rw[hz he]at *
  refine PC.fn hH cd251 fun w0 M Q hM hE hQ hR=>?_;dsimp only[cd251,qm,ql,qf,qi,qb,qc,qp,qv,qN,qT,qF,qt]at hQ ⊢
  (repeat' first|refine zaa [0,1,2,3,6,7,8,18] fun K hK=>?_|(refine hK.go ?_;clear hK K)|with_reducible exact wT|refine wA ?_|(refine wB (fun h=>?_) (fun h=>?_)<;>first|exact wN h|subst (h:(_:Bool)=_)|skip)|(refine wQ ?_;clear hQ hR hE hM)|refine wC c1 ?_|fail)
  all_goals first|rfl|(exfalso;contradiction)|trace_state
theorem zlv (hH:HasAll P inv) (hI:HasIds P inv) (p:Pln) (hp:Sm p) (s:State) (hs:SmS s) (hst:zai p s=0) (n:Int):PC P inv 275 [.agg (stn p s),.n n] (·=.n (prId p s n)):=by
 have ho:=zaH hst
 have hrl:=hp.rte
 have dR:∀ i,i<p.routes.length→PC P inv 198 [.agg p.c,.agg s.c,.n (nth p.routes i).id] (·=.tup [.b (zd3 p s (nth p.routes i)),.n 0]):=fun i hi=>by
  have h1:=zjh hH hI p hp s hs (nth p.routes i).id
  have h2:=prC_at hst (ix_rte ho hi:rtIx p (nth p.routes i).id=(i:Int))
  rw[h2.1,h2.2]at h1
  exact h1
 unfold stn prId goX
 clear hst ho
 refine PC.fn hH cd275 fun w0 M Q hM hE hQ hR=>?_;dsimp only[cd275,qm,ql,qf,qi,qb,qc,qp,qv,qN,qT,qF,qt]at hQ ⊢
 (repeat' first|refine zaa [0,1,2,4,6,7,8,11,12,13,14,20,35] fun K hK=>?_|(refine hK.go ?_;clear hK K)|with_reducible exact wT|refine wA ?_|(refine wB (fun h=>?_) (fun h=>?_)<;>first|exact wN h|subst (h:(_:Bool)=_)|skip)|(refine wQ ?_;clear hQ hR hE hM)|fail)
 refine zaz (ι:=Nat) [1,2,4,11,12,13] (fun z=>[(13,.n z)]) (fun _=>[]) (fun z=>z) (p.routes.length) (fun z=>(zbu (fun r=>decide (r.entry=n)&&zd3 p s r) z (p.routes.drop z)=zbu (fun r=>decide (r.entry=n)&&zd3 p s r) 0 p.routes)) (0) ?_;rintro k ⟨hk,hg⟩;(try dsimp only at hk hg ⊢);rcases Nat.lt_or_ge k p.routes.length with hlt|hge
 ·have hk9:k<p.routes.length:=by assumption
  rw[zag hlt,zbu]at hg
  have d1:=dR k hk9
  by_cases h1:(nth p.routes k).entry=n
  ·rw[decide_eq_true h1,Bool.true_and]at hg
   cases hv:zd3 p s (nth p.routes k) with
   |true =>
    rw[hv]at hg d1
    simp only[if_true]at hg
    (have hX:=@h1;(repeat' first|refine zaa [0,1,2,4,6,7,8,11,12,13,14,20,35] fun K hK=>?_|(refine hK.go ?_;clear hK K)|with_reducible exact wT|refine wA ?_|(refine wB (fun h=>?_) (fun h=>?_)<;>first|exact wN h|subst (h:(_:Bool)=_)|skip)|(refine wQ ?_;clear hQ hR hE hM)|refine wC d1 ?_|fail);all_goals clear hX)
    all_goals first|(exfalso;contradiction)|(rw[←hg,if_neg (by omega),Int.toNat_natCast];done)|(rw[←hg,if_neg (by omega),Int.toNat_natCast];rfl)|trace_state
   |false =>
    rw[hv]at hg d1
    simp only[Bool.false_eq_true,if_false]at hg
    (have hX:=@h1;(repeat' first|refine zaa [0,1,2,4,6,7,8,11,12,13,14,20,35] fun K hK=>?_|(refine hK.go ?_;clear hK K)|with_reducible exact wT|refine wA ?_|(refine wB (fun h=>?_) (fun h=>?_)<;>first|exact wN h|subst (h:(_:Bool)=_)|skip)|(refine wQ ?_;clear hQ hR hE hM)|refine wC d1 ?_|fail);all_goals clear hX)
    all_goals first|(exfalso;contradiction)|exact ⟨k+1,by omega,⟨by omega,hg⟩,by omega⟩|trace_state
  ·have z:=decide_eq_false h1
   rw[z,Bool.false_and]at hg
   simp only[Bool.false_eq_true,if_false]at hg
   (have hX:=@z;(repeat' first|refine zaa [0,1,2,4,6,7,8,11,12,13,14,20,35] fun K hK=>?_|(refine hK.go ?_;clear hK K)|with_reducible exact wT|refine wA ?_|(refine wB (fun h=>?_) (fun h=>?_)<;>first|exact wN h|subst (h:(_:Bool)=_)|skip)|(refine wQ ?_;clear hQ hR hE hM)|fail);all_goals clear hX)
   all_goals first|(exfalso;contradiction)|exact ⟨k+1,by omega,⟨by omega,hg⟩,by omega⟩|trace_state
 ·rw[List.drop_eq_nil_of_le hge,zbu]at hg
  (repeat' first|refine zaa [0,1,2,4,6,7,8,11,12,13,14,20,35] fun K hK=>?_|(refine hK.go ?_;clear hK K)|with_reducible exact wT|refine wA ?_|(refine wB (fun h=>?_) (fun h=>?_)<;>first|exact wN h|subst (h:(_:Bool)=_)|skip)|(refine wQ ?_;clear hQ hR hE hM)|fail)
  all_goals first|(exfalso;contradiction)|(rw[←hg,if_pos (by decide)];done)|(rw[←hg,if_pos (by decide)];rfl)|trace_state
end Go.Lev
namespace Go.Lev
open Go.Eng
set_option maxRecDepth 10000
set_option maxHeartbeats 8000000
variable {P:Program} {inv:Nat→Option Nat} {w0:World} {M:Nat→Prop}
theorem znr (hH:HasAll P inv) (hI:HasIds P inv) (p:Pln) (hp:Sm p) (s:State) (hs:SmS s) (hst:zai p s=0) (t:TrainD):PC P inv 229 [.agg (stn p s),.agg t.c] (·=.b (trF p s t)):=by
 have ho:=zaH hst
 have hen:∀ x∈p.sections,x.ends.length≤3:=fun x hx=>(zbd ho.sec x hx).2.2.2.2
 have cf:=fun n=>zez hH p.sections n (Nat.le_trans hp.sec (by omega)) (fun x hx=>Nat.le_trans (hen x hx) (by omega))
 have ck:=fun n=>zgd hH p s hs hst n
 have cl:=fun a b=>znW hH p hp ho s a b
 have c1:=zg0 hH (zaw p.sections (nth t.secs 0)).1 t.fr t.ed
 have c2:=zgZ hH hI p hp t.rt
 have c3:=zd4 hH hI p hp t.nx
 have c4:=zg8 hH hI p hp s (nth t.secs 0) t.ed
 obtain ⟨X,hF⟩:∃ X,trF p s t=X:=⟨_,rfl⟩
 rw[hF]
 unfold trF trG trE at hF
 unfold stn at ck cl c4 ⊢
 generalize ofW p t.rt=W at *
 generalize zcK p t.nx=R at *
 generalize ze6 p (nth t.secs 0) t.ed=sg at *
 clear hst ho hen
 refine PC.fn hH cd229 fun w0 M Q hM hE hQ hR=>?_;dsimp only[cd229,qm,ql,qf,qi,qb,qc,qp,qv,qN,qT,qF,qt]at hQ ⊢
 skip
 (repeat' first|refine zaa [0,1,2,3,4,5,6,8,9,10,13,14,15,16,17,37,39,40,41,42,59,74,77,101,146,157] fun K hK=>?_|(refine hK.go ?_;clear hK K)|with_reducible exact wT|refine wA ?_|(refine wE (fun h0 h=>?_) (fun h0 h=>?_)<;>first|exact wN h|((try replace hF:=wX hF);clear h0;first|exact hF.elim|((try subst (h:(_:Bool)=_));try replace hF:=wX hF)))|(refine wQ ?_;clear hQ hR hE hM)|fail)
 all_goals first|(exfalso;contradiction)|exact hF|exact congrArg AV.b hF|skip
 refine zfy hF fun Bd Ed hBd hEd hF=>?_;refine zaz (ι:=Nat) [2,3,4,39,40,41] (fun z=>[(41,.n z)]) (fun _=>[]) (fun z=>z) (t.secs.length) (fun z=>(zbs Bd Ed (t.secs.length-z) z ()=X)) (0) ?_;rintro i ⟨hk,hF⟩;(try dsimp only at hk hF ⊢);rcases Nat.lt_or_ge i t.secs.length with hlt|hge
 ·rw[zdK hBd hlt]at hF;(try dsimp only at hF)
  have hi9:i<t.secs.length:=by assumption
  have d1:=cf (nth t.secs i)
  have d2:=ck (nth t.secs i)
  have d3:=cl (nth t.secs (i-1)) (nth t.secs i)
  have x0:=zfA hi9
  have x1:=zfA (show i-1<t.secs.length by omega)
  have x2:((i:Int)-1).toNat=i-1:=by omega
  (have hX:=zA @x0 (zA @x1 @x2);(repeat' first|refine zaa [0,1,2,3,4,5,6,8,9,10,13,14,15,16,17,37,39,40,41,42,59,74,77,101,146,157] fun K hK=>?_|(refine hK.go ?_;clear hK K)|with_reducible exact wT|refine wA ?_|(refine wE (fun h0 h=>?_) (fun h0 h=>?_)<;>first|exact wN h|((try replace hF:=wX hF);clear h0;first|exact hF.elim|((try subst (h:(_:Bool)=_));try replace hF:=wX hF)))|(refine wQ ?_;clear hQ hR hE hM)|refine wC d1 ?_|refine wC d2 ?_|refine wC d3 ?_|fail);all_goals clear hX)
  all_goals first|(exfalso;contradiction)|exact hF|exact congrArg AV.b hF|exact nX (i+1)|trace_state
 ·rw[zfx hge,hEd]at hF;(try dsimp only at hF)
  have hl0:0<t.secs.length:=by omega
  have d1:=cf (nth t.secs 0)
  have x0:=zfA hl0
  by_cases hpl:0≤t.pl∧t.pl<(W.1.path.length:Int)
  ·have x1:=zfA (show t.pl.toNat<W.1.path.length by omega)
   (have hX:=zA @x0 @x1;(repeat' first|refine zaa [0,1,2,3,4,5,6,8,9,10,13,14,15,16,17,37,39,40,41,42,59,74,77,101,146,157] fun K hK=>?_|(refine hK.go ?_;clear hK K)|with_reducible exact wT|refine wA ?_|(refine wE (fun h0 h=>?_) (fun h0 h=>?_)<;>first|exact wN h|((try replace hF:=wX hF);clear h0;first|exact hF.elim|((try subst (h:(_:Bool)=_));try replace hF:=wX hF)))|(refine wQ ?_;clear hQ hR hE hM)|refine wC d1 ?_|refine wC c1 ?_|refine wC c2 ?_|refine wC c3 ?_|refine wC c4 ?_|fail);all_goals clear hX)
   all_goals first|(exfalso;contradiction)|(exfalso;omega)|exact hF|exact congrArg AV.b hF|trace_state
  ·(have hX:=@x0;(repeat' first|refine zaa [0,1,2,3,4,5,6,8,9,10,13,14,15,16,17,37,39,40,41,42,59,74,77,101,146,157] fun K hK=>?_|(refine hK.go ?_;clear hK K)|with_reducible exact wT|refine wA ?_|(refine wE (fun h0 h=>?_) (fun h0 h=>?_)<;>first|exact wN h|((try replace hF:=wX hF);clear h0;first|exact hF.elim|((try subst (h:(_:Bool)=_));try replace hF:=wX hF)))|(refine wQ ?_;clear hQ hR hE hM)|refine wC d1 ?_|refine wC c1 ?_|refine wC c2 ?_|refine wC c3 ?_|refine wC c4 ?_|fail);all_goals clear hX)
   all_goals first|(exfalso;contradiction)|(exfalso;omega)|exact hF|exact congrArg AV.b hF|trace_state
end Go.Lev
namespace Go.Lev
open Go.Eng
set_option maxRecDepth 10000
set_option maxHeartbeats 8000000
variable {P:Program} {inv:Nat→Option Nat} {w0:World} {M:Nat→Prop}
theorem zbD (hH:HasAll P inv) (hI:HasIds P inv) (p:Pln) (hp:Sm p) (s:State) (hs:SmS s) (l:List TrainD) (hl:l.length≤1000) (hls:∀ t∈l,t.secs.length≤1000):PC P inv 225 [.agg p.c,.agg s.c,.agg (wld l)] (·=.n (ckC p s l)):=by
 have c0:=znw hH hI p hp s hs
 unfold ckC wld
 by_cases hst:zai p s=0
 ·rw[hst]at c0
  rw[if_pos hst]
  have ct:=fun t=>znr hH hI p hp s hs hst t
  unfold stn at ct
  obtain ⟨X,hF⟩:∃ X,ckF p s l=X:=⟨_,rfl⟩
  rw[hF]
  unfold ckF ckT ckM at hF
  clear hst
  refine PC.fn hH cd225 fun w0 M Q hM hE hQ hR=>?_;dsimp only[cd225,qm,ql,qf,qi,qb,qc,qp,qv,qN,qT,qF,qt]at hQ ⊢
  skip
  (repeat' first|refine zaa [0,1,2,3,4,5,6,7,8,9,10,11,13,18,20,25,26,27,28,59,61,63,64,65,66,72,80] fun K hK=>?_|(refine hK.go ?_;clear hK K)|with_reducible exact wT|refine wA ?_|(refine wE (fun h0 h=>?_) (fun h0 h=>?_)<;>first|exact wN h|((try replace hF:=wX hF);clear h0;first|exact hF.elim|((try subst (h:(_:Bool)=_));try replace hF:=wX hF)))|(refine wQ ?_;clear hQ hR hE hM)|refine wC c0 ?_|fail)
  all_goals first|(exfalso;contradiction)|skip
  refine zfy hF fun Bd Ed hBd hEd hF=>?_;refine zaz (ι:=Nat×(List (Int×Int))) [5,6,8,9,25,26,27] (fun z=>[(27,.n z.1)]) (fun z=>[(3,.imap z.2)]) (fun z=>z.1) (l.length) (fun z=>(zbs Bd Ed (l.length-z.1) z.1 z.2=X)) (0,([]:List (Int×Int))) ?_;rintro ⟨i,m⟩ ⟨hk,hF⟩;(try dsimp only at hk hF ⊢);rcases Nat.lt_or_ge i l.length with hlt|hge
  ·rw[zdK hBd hlt]at hF;(try dsimp only at hF)
   have hi9:i<l.length:=by assumption
   have d1:=ct (nth l i)
   have hk:=hls _ (zae hi9)
   have x2:((i:Int)-1).toNat=i-1:=by omega
   (have hX:=@x2;(repeat' first|refine zaa [0,1,2,3,4,5,6,7,8,9,10,11,13,18,20,25,26,27,28,59,61,63,64,65,66,72,80] fun K hK=>?_|(refine hK.go ?_;clear hK K)|with_reducible exact wT|refine wA ?_|(refine wE (fun h0 h=>?_) (fun h0 h=>?_)<;>first|exact wN h|((try replace hF:=wX hF);clear h0;first|exact hF.elim|((try subst (h:(_:Bool)=_));try replace hF:=wX hF)))|(refine wQ ?_;clear hQ hR hE hM)|refine wC d1 ?_|fail);all_goals clear hX)
   all_goals first|(exfalso;contradiction)|exact hF|exact congrArg AV.n hF|skip
   all_goals
    refine zfy hF fun Bd Ed hBd hEd hF=>?_;refine zaz (ι:=Nat×(List (Int×Int))) [5,6,8,9,25,26,27,63,64,65] (fun z=>[(65,.n z.1)]) (fun z=>[(3,.imap z.2)]) (fun z=>z.1) ((nth l i).secs.length) (fun z=>(zbs Bd Ed ((nth l i).secs.length-z.1) z.1 z.2=X)) (0,m) ?_;rintro ⟨k,m2⟩ ⟨hk,hF⟩;(try dsimp only at hk hF ⊢);rcases Nat.lt_or_ge k (nth l i).secs.length with hlt|hge
    ·rw[zdK hBd hlt]at hF;(try dsimp only at hF)
     have hk9:k<(nth l i).secs.length:=by assumption
     have x0:=zfA hk9
     (have hX:=@x0;(repeat' first|refine zaa [0,1,2,3,4,5,6,7,8,9,10,11,13,18,20,25,26,27,28,59,61,63,64,65,66,72,80] fun K hK=>?_|(refine hK.go ?_;clear hK K)|with_reducible exact wT|refine wA ?_|(refine wE (fun h0 h=>?_) (fun h0 h=>?_)<;>first|exact wN h|((try replace hF:=wX hF);clear h0;first|exact hF.elim|((try subst (h:(_:Bool)=_));try replace hF:=wX hF)))|(refine wQ ?_;clear hQ hR hE hM)|fail);all_goals clear hX)
     all_goals first|(exfalso;contradiction)|exact hF|exact congrArg AV.n hF|exact nX (k+1,_)|trace_state
    ·rw[zfx hge,hEd]at hF;(try dsimp only at hF)
     (repeat' first|refine zaa [0,1,2,3,4,5,6,7,8,9,10,11,13,18,20,25,26,27,28,59,61,63,64,65,66,72,80] fun K hK=>?_|(refine hK.go ?_;clear hK K)|with_reducible exact wT|refine wA ?_|(refine wE (fun h0 h=>?_) (fun h0 h=>?_)<;>first|exact wN h|((try replace hF:=wX hF);clear h0;first|exact hF.elim|((try subst (h:(_:Bool)=_));try replace hF:=wX hF)))|(refine wQ ?_;clear hQ hR hE hM)|fail)
     all_goals first|(exfalso;contradiction)|exact hF|exact congrArg AV.n hF|exact nX (i+1,_)|trace_state
  ·rw[zfx hge,hEd]at hF;(try dsimp only at hF)
   (repeat' first|refine zaa [0,1,2,3,4,5,6,7,8,9,10,11,13,18,20,25,26,27,28,59,61,63,64,65,66,72,80] fun K hK=>?_|(refine hK.go ?_;clear hK K)|with_reducible exact wT|refine wA ?_|(refine wE (fun h0 h=>?_) (fun h0 h=>?_)<;>first|exact wN h|((try replace hF:=wX hF);clear h0;first|exact hF.elim|((try subst (h:(_:Bool)=_));try replace hF:=wX hF)))|(refine wQ ?_;clear hQ hR hE hM)|fail)
   all_goals first|(exfalso;contradiction)|exact hF|exact congrArg AV.n hF|trace_state
 ·rw[if_neg hst]
  generalize zai p s=e at *
  refine PC.fn hH cd225 fun w0 M Q hM hE hQ hR=>?_;dsimp only[cd225,qm,ql,qf,qi,qb,qc,qp,qv,qN,qT,qF,qt]at hQ ⊢
  (repeat' first|refine zaa [0,1,2,3,4,5,6,7,8,9,10,11,13,18,20,25,26,27,28,59,61,63,64,65,66,72,80] fun K hK=>?_|(refine hK.go ?_;clear hK K)|with_reducible exact wT|refine wA ?_|(refine wB (fun h=>?_) (fun h=>?_)<;>first|exact wN h|subst (h:(_:Bool)=_)|skip)|(refine wQ ?_;clear hQ hR hE hM)|refine wC c0 ?_|fail)
  all_goals first|rfl|(exfalso;contradiction)|trace_state
end Go.Lev
namespace Go.Lev
open Go.Eng
set_option maxRecDepth 10000
set_option maxHeartbeats 8000000
variable {P:Program} {inv:Nat→Option Nat} {w0:World} {M:Nat→Prop}
theorem zkP (hH:HasAll P inv) (l:List TrainD) (h:l.length≤1000000):PO P inv 235 [.sl 8 (l.map TrainD.c)] (.sm 0 (l.length*8) 0 l.length 8) [(0,.cells (l.map TrainD.c).flatten (decide (0<l.length)))]:=by
 refine PO.fn hH cd235 fun w0 M Q hM hE hQ hR=>?_;dsimp only[cd235,qm,ql,qf,qi,qb,qc,qp,qv,qN,qT,qF,qt]at hQ ⊢
 (repeat' first|refine zaa [0,2,4] fun K hK=>?_|(refine hK.go ?_;clear hK K)|with_reducible exact wT|refine wA ?_|(refine wB (fun h=>?_) (fun h=>?_)<;>first|exact wN h|subst (h:(_:Bool)=_)|skip)|(refine wR ?_;clear hQ hR hE hM)|fail)
 ·right
  have h0:l.length=0:=by assumption
  obtain rfl:=List.length_eq_zero_iff.1 h0
  exact ⟨8,rfl,by simp,by simp⟩
 ·left
  constructor
  ·(refine no_implicit_lambda% (st ?_);try with_reducible exact wT)
  ·(refine no_implicit_lambda% (st ?_);try with_reducible exact wT)
theorem zdn (hH:HasAll P inv) (l:List TrainD) (h1:l.length≤1000) (h2:∀ t∈l,t.secs.length≤1000):PO P inv 227 [.agg (wld l)] (.agg [.sm 2 (l.length*8) 0 l.length 8]) [(2,.cells (l.map TrainD.c).flatten (decide (0<l.length)))]:=by
 have c1:=zkP hH l (by omega)
 unfold wld
 refine PO.fn hH cd227 fun w0 M Q hM hE hQ hR=>?_;dsimp only[cd227,qm,ql,qf,qi,qb,qc,qp,qv,qN,qT,qF,qt]at hQ ⊢
 (repeat' first|refine zaa [0,1,2,3,4,10,11,12,13] fun K hK=>?_|(refine hK.go ?_;clear hK K)|with_reducible exact wT|refine wA ?_|(refine wB (fun h=>?_) (fun h=>?_)<;>first|exact wN h|subst (h:(_:Bool)=_)|skip)|(refine wR ?_;clear hQ hR hE hM)|refine wO c1 ?_|fail)
 refine zaz (ι:=Nat) [1,2,10,11,12] (fun z=>[(12,.n z)]) (fun _=>[]) (fun z=>z) (l.length) (fun _=>True) (0) ?_;rintro k ⟨hk,-⟩;(try dsimp only at hk ⊢);rcases Nat.lt_or_ge k l.length with hlt|hge
 ·have hk9:k<l.length:=by assumption
  have c2:=zcy hH (nth l k).secs (Nat.le_trans (h2 _ (zae hk9)) (by omega))
  have f1:(l.map TrainD.c).flatten.set (k*8+1) (.sl 1 ((nth l k).secs.map zck))=(l.map TrainD.c).flatten:=by
   have:=zey (c:=TrainD.c) (l:=l) (k:=k) (i:=1) hk9 (by omega) (.sl 1 ((nth l k).secs.map zck)) (nth l k) rfl
   rw[this,zay hk9,List.set_getElem_self]
  have fa:zbY (l.map TrainD.c).flatten (k*8) (some 8)=some (.agg (nth l k).c):=zgf (c:=TrainD.c) (l:=l) (k:=k) hk9 (by omega)
  (have hX:=zA @f1 @fa;(repeat' first|refine zaa [0,1,2,3,4,10,11,12,13] fun K hK=>?_|(refine hK.go ?_;clear hK K)|with_reducible exact wT|refine wA ?_|(refine wB (fun h=>?_) (fun h=>?_)<;>first|exact wN h|subst (h:(_:Bool)=_)|skip)|(refine wR ?_;clear hQ hR hE hM)|refine wC c2 ?_|refine wU c2 ?_|fail);all_goals clear hX)
  all_goals first|(exfalso;contradiction)|exact ⟨k+1,by omega,by omega,by omega⟩|trace_state
 ·(repeat' first|refine zaa [0,1,2,3,4,10,11,12,13] fun K hK=>?_|(refine hK.go ?_;clear hK K)|with_reducible exact wT|refine wA ?_|(refine wB (fun h=>?_) (fun h=>?_)<;>first|exact wN h|subst (h:(_:Bool)=_)|skip)|(refine wR ?_;clear hQ hR hE hM)|fail)
  all_goals first|(exfalso;contradiction)|skip
  all_goals (left;constructor)
  all_goals (refine no_implicit_lambda% (st ?_);try with_reducible exact wT)
end Go.Lev
namespace Go.Lev
open Go.Eng
set_option maxRecDepth 10000
set_option maxHeartbeats 8000000
variable {P:Program} {inv:Nat→Option Nat} {w0:World} {M:Nat→Prop}
theorem zlU (hH:HasAll P inv) {jc:Nat} {caps:List AV} {p:TrainD→Bool} (l:List TrainD) (hc:∀ x∈l,PC P inv jc ([.agg x.c]++caps) (·=.b (p x))) (hl:l.length≤1000000000):PC P inv 271 [.sl 8 (l.map TrainD.c),.fn jc caps] (·=.n (zbu p 0 l)):=by
 refine PC.fn hH cd271 fun w0 M Q hM hE hQ hR=>?_;dsimp only[cd271,qm,ql,qf,qi,qb,qc,qp,qv,qN,qT,qF,qt]at hQ ⊢
 (repeat' first|refine zaa [0,1,4,5,7,8,9,16] fun K hK=>?_|(refine hK.go ?_;clear hK K)|with_reducible exact wT|refine wA ?_|(refine wB (fun h=>?_) (fun h=>?_)<;>first|exact wN h|subst (h:(_:Bool)=_)|skip)|(refine wQ ?_;clear hQ hR hE hM)|fail)
 refine zcH (fun k=>[(0,.sl 8 (l.map TrainD.c)),(1,.fn jc caps),(7,.n l.length),(8,.n k)]) (fun k=>[]) (l.length) (fun k=>zbu p k (l.drop k)=zbu p 0 l) ?_;rintro k ⟨hk,hg⟩;rcases Nat.lt_or_ge k l.length with hlt|hge
 ·rw[zag hlt]at hg
  rw[zbu]at hg
  (repeat' first|refine zaa [0,1,4,5,7,8,9,16] fun K hK=>?_|(refine hK.go ?_;clear hK K)|with_reducible exact wT|refine wA ?_|(refine wB (fun h=>?_) (fun h=>?_)<;>first|exact wN h|subst (h:(_:Bool)=_)|skip)|(refine wQ ?_;clear hQ hR hE hM)|(refine zaj hM (hc _ (zae hlt)) ?_;try (refine no_implicit_lambda% (st ?_);try with_reducible exact wT))|fail)
  ·rw[←hg,if_pos h]
  ·exact ⟨k+1,by omega,⟨by omega,by rw[←hg,if_neg (by rw[h];simp)];rfl⟩,(by (try dsimp only);(first|omega|(simp;done)|(simp;omega)))⟩
 ·rw[List.drop_eq_nil_of_le hge]at hg
  (repeat' first|refine zaa [0,1,4,5,7,8,9,16] fun K hK=>?_|(refine hK.go ?_;clear hK K)|with_reducible exact wT|refine wA ?_|(refine wB (fun h=>?_) (fun h=>?_)<;>first|exact wN h|subst (h:(_:Bool)=_)|skip)|(refine wQ ?_;clear hQ hR hE hM)|fail)
  rw[←hg];rfl
theorem any_trn (hH:HasAll P inv) {jc:Nat} {caps:List AV} {p:TrainD→Bool} (l:List TrainD) (hc:∀ x∈l,PC P inv jc ([.agg x.c]++caps) (·=.b (p x))) (hl:l.length≤1000000000):PC P inv 253 [.sl 8 (l.map TrainD.c),.fn jc caps] (·=.b (l.any p)):=by
 rw[←zjx]
 refine PC.fn hH cd253 fun w0 M Q hM hE hQ hR=>?_;dsimp only[cd253,qm,ql,qf,qi,qb,qc,qp,qv,qN,qT,qF,qt]at hQ ⊢
 (repeat' first|refine zaa [0,1,4] fun K hK=>?_|(refine hK.go ?_;clear hK K)|with_reducible exact wT|refine wA ?_|(refine wB (fun h=>?_) (fun h=>?_)<;>first|exact wN h|subst (h:(_:Bool)=_)|skip)|(refine wQ ?_;clear hQ hR hE hM)|refine wC (zlU hH l hc hl) ?_|fail)
theorem is272_pc (hH:HasAll P inv) (n:Int) (x:TrainD):PC P inv 272 ([.agg x.c]++[.ip 1 [[.n n]] 0 0]) (·=.b (decide (x.id=n))):=by
 refine PC.fn hH cd272 fun w0 M Q hM hE hQ hR=>?_;dsimp only[cd272,qm,ql,qf,qi,qb,qc,qp,qv,qN,qT,qF,qt]at hQ ⊢
 (repeat' first|refine zaa [0,1,2,3] fun K hK=>?_|(refine hK.go ?_;clear hK K)|with_reducible exact wT|refine wA ?_|(refine wB (fun h=>?_) (fun h=>?_)<;>first|exact wN h|subst (h:(_:Bool)=_)|skip)|(refine wQ ?_;clear hQ hR hE hM)|fail)
theorem zmY (hH:HasAll P inv) (m:MoveD) (x:TrainD):PC P inv 264 ([.agg x.c]++[.ip 4 [m.c] 0 0]) (·=.b (decide (x.id=m.tr))):=by
 refine PC.fn hH cd264 fun w0 M Q hM hE hQ hR=>?_;dsimp only[cd264,qm,ql,qf,qi,qb,qc,qp,qv,qN,qT,qF,qt]at hQ ⊢
 (repeat' first|refine zaa [0,1,2,3] fun K hK=>?_|(refine hK.go ?_;clear hK K)|with_reducible exact wT|refine wA ?_|(refine wB (fun h=>?_) (fun h=>?_)<;>first|exact wN h|subst (h:(_:Bool)=_)|skip)|(refine wQ ?_;clear hQ hR hE hM)|fail)
theorem zqE (hH:HasAll P inv) (x:TrainD) (n:Int) (h1:0≤x.id∧x.id≤1000) (h2:0≤n∧n≤1000):PC P inv 257 [.agg x.c,.n n] (·=.n (x.id-n)):=by
 refine PC.fn hH cd257 fun w0 M Q hM hE hQ hR=>?_;dsimp only[cd257,qm,ql,qf,qi,qb,qc,qp,qv,qN,qT,qF,qt]at hQ ⊢
 (repeat' first|refine zaa [0,1,2,4] fun K hK=>?_|(refine hK.go ?_;clear hK K)|with_reducible exact wT|refine wA ?_|(refine wB (fun h=>?_) (fun h=>?_)<;>first|exact wN h|subst (h:(_:Bool)=_)|skip)|(refine wQ ?_;clear hQ hR hE hM)|fail)
 all_goals first|rfl|trace_state
theorem zdX (hH:HasAll P inv) (id:Int) (v:Int) (hv:0≤v∧v≤255):PC P inv 259 [.n id,.i .u8 v] (·=.sl 4 [[.i .u8 1,.n id,.n v,.s0 1]]):=by
 refine PC.fn hH cd259 fun w0 M Q hM hE hQ hR=>?_;dsimp only[cd259,qm,ql,qf,qi,qb,qc,qp,qv,qN,qT,qF,qt]at hQ ⊢
 (repeat' first|refine zaa [0,1,4] fun K hK=>?_|(refine hK.go ?_;clear hK K)|with_reducible exact wT|refine wA ?_|(refine wB (fun h=>?_) (fun h=>?_)<;>first|exact wN h|subst (h:(_:Bool)=_)|skip)|(refine wQ ?_;clear hQ hR hE hM)|fail)
 all_goals first|rfl|trace_state
theorem zky (v:Int):∀ (l:List Int) (k:Nat),(decide (0≤zif v k l))=l.any fun x=>decide (x=v)
 |[],k=>by simp[zif]
 |x::r,k=>by
  rw[zif,List.any_cons]
  by_cases e:v=x
  ·rw[if_pos e,decide_eq_true e.symm,Bool.true_or]
   exact decide_eq_true (by omega)
  ·rw[if_neg e,decide_eq_false (p:=x=v) (fun h9=>e h9.symm),Bool.false_or]
   exact zky v r (k+1)
theorem zp8 (hH:HasAll P inv) (l:List Int) (v:Int) (hl:l.length≤1000000000):PC P inv 255 [.sl 1 (l.map zck),.n v] (·=.b (l.any fun x=>decide (x=v))):=by
 have c1:=zdN hH l v hl
 rw[←zky v l 0]
 generalize zif v 0 l=i at *
 refine PC.fn hH cd255 fun w0 M Q hM hE hQ hR=>?_;dsimp only[cd255,qm,ql,qf,qi,qb,qc,qp,qv,qN,qT,qF,qt]at hQ ⊢
 (repeat' first|refine zaa [0,1,4] fun K hK=>?_|(refine hK.go ?_;clear hK K)|with_reducible exact wT|refine wA ?_|(refine wB (fun h=>?_) (fun h=>?_)<;>first|exact wN h|subst (h:(_:Bool)=_)|skip)|(refine wQ ?_;clear hQ hR hE hM)|refine wC c1 ?_|fail)
theorem is254_pc (hH:HasAll P inv) (S:Section) (x:TrainD) (hx:x.secs.length≤1000):PC P inv 254 ([.agg x.c]++[.ip 3 [S.c] 0 0]) (·=.b (x.secs.any fun y=>decide (y=S.id))):=by
 have c1:=zp8 hH x.secs S.id (by omega)
 refine PC.fn hH cd254 fun w0 M Q hM hE hQ hR=>?_;dsimp only[cd254,qm,ql,qf,qi,qb,qc,qp,qv,qN,qT,qF,qt]at hQ ⊢
 (repeat' first|refine zaa [0,1,2,3] fun K hK=>?_|(refine hK.go ?_;clear hK K)|with_reducible exact wT|refine wA ?_|(refine wB (fun h=>?_) (fun h=>?_)<;>first|exact wN h|subst (h:(_:Bool)=_)|skip)|(refine wQ ?_;clear hQ hR hE hM)|refine wC c1 ?_|fail)
end Go.Lev
namespace Go.Lev
open Go.Eng
set_option maxRecDepth 10000
set_option maxHeartbeats 8000000
variable {P:Program} {inv:Nat→Option Nat} {w0:World} {M:Nat→Prop}
section
variable {l:List TrainD} {k:Nat}
theorem tg0 (h9:k<l.length):(l.map TrainD.c).flatten[k*8]?=some (.n (nth l k).id):=zcA (c:=TrainD.c) (l:=l) (k:=k) (i:=0) h9 (by omega)
theorem tg1 (h9:k<l.length):(l.map TrainD.c).flatten[k*8+1]?=some (.sl 1 ((nth l k).secs.map zck)):=zcA (c:=TrainD.c) (l:=l) (k:=k) (i:=1) h9 (by omega)
theorem tg2 (h9:k<l.length):(l.map TrainD.c).flatten[k*8+2]?=some (.n (nth l k).fr):=zcA (c:=TrainD.c) (l:=l) (k:=k) (i:=2) h9 (by omega)
theorem tg3 (h9:k<l.length):(l.map TrainD.c).flatten[k*8+3]?=some (.n (nth l k).ed):=zcA (c:=TrainD.c) (l:=l) (k:=k) (i:=3) h9 (by omega)
theorem tg4 (h9:k<l.length):(l.map TrainD.c).flatten[k*8+4]?=some (.n (nth l k).rt):=zcA (c:=TrainD.c) (l:=l) (k:=k) (i:=4) h9 (by omega)
theorem tg5 (h9:k<l.length):(l.map TrainD.c).flatten[k*8+5]?=some (.n (nth l k).pl):=zcA (c:=TrainD.c) (l:=l) (k:=k) (i:=5) h9 (by omega)
theorem tg6 (h9:k<l.length):(l.map TrainD.c).flatten[k*8+6]?=some (.n (nth l k).may):=zcA (c:=TrainD.c) (l:=l) (k:=k) (i:=6) h9 (by omega)
theorem tg7 (h9:k<l.length):(l.map TrainD.c).flatten[k*8+7]?=some (.n (nth l k).nx):=zcA (c:=TrainD.c) (l:=l) (k:=k) (i:=7) h9 (by omega)
end
theorem zps {p:Pln} (ho:OkP p) (n:Int):(ofW p n).1.path.length≤6:=by
 unfold ofW
 split
 ·split
  ·rename_i r e
   have h1:=(zeY ho (List.mem_of_find?_eq_some e)).2.1
   unfold zaq
   split
   ·simp
   ·exact h1
  ·simp[WayR.z]
 ·simp[WayR.z]
theorem zqf (hH:HasAll P inv) (hI:HasIds P inv) (p:Pln) (hp:Sm p) (s:State) (hs:SmS s) (hst:zai p s=0) (l:List TrainD) (k:Nat) (hk7:k<l.length) (hk8:0<(nth l k).secs.length) (hk6:l.length≤1000) (hpl:0≤(nth l k).pl) :
  PC P inv 260 [.ip 10 [stn p s++[.sl 8 (l.map TrainD.c)]] 0 0,.ip (l.length*8) [(l.map TrainD.c).flatten] 0 (k*8)] (·=.tup [.n (goT p s (nth l k)).1,.n (goT p s (nth l k)).2.1,.b (goT p s (nth l k)).2.2]):=by
 have c1:=zgZ hH hI p hp (nth l k).rt
 have c2:=zg8 hH hI p hp s (nth (nth l k).secs 0) (nth l k).ed
 have c3:=zlv hH hI p hp s hs hst (ze6 p (nth (nth l k).secs 0) (nth l k).ed)
 have x0:=zfA hk8
 have hwl:=zps (zaH hst) (nth l k).rt
 have y1:=tg1 hk7
 have y3:=tg3 hk7
 have y4:=tg4 hk7
 have y5:=tg5 hk7
 have y6:=tg6 hk7
 have y7:=tg7 hk7
 unfold goT
 unfold stn at c2 c3 ⊢
 generalize ofW p (nth l k).rt=W at *
 generalize hsg:ze6 p (nth (nth l k).secs 0) (nth l k).ed=sg at *
 generalize prId p s sg=r at *
 by_cases h1:W.2=0∧(nth l k).pl<(W.1.path.length:Int)-1
 ·rw[if_pos h1]
  obtain ⟨w1,w2⟩:=h1
  refine PC.fn hH cd260 fun w0 M Q hM hE hQ hR=>?_;dsimp only[cd260,qm,ql,qf,qi,qb,qc,qp,qv,qN,qT,qF,qt]at hQ ⊢
  (have hX:=zA @w1 (zA @w2 (zA @y1 (zA @y3 (zA @y4 (zA @y5 (zA @y6 @y7))))));(repeat' first|refine zaa [0,1,4,5,6,7,8,9,10,36,60,62,70] fun K hK=>?_|(refine hK.go ?_;clear hK K)|with_reducible exact wT|refine wA ?_|(refine wB (fun h=>?_) (fun h=>?_)<;>first|exact wN h|subst (h:(_:Bool)=_)|skip)|(refine wQ ?_;clear hQ hR hE hM)|refine wU c1 ?_|refine wC c1 ?_|fail);all_goals clear hX)
  all_goals first|rfl|(exfalso;contradiction)|(exfalso;omega)|trace_state
 ·rw[if_neg h1]
  by_cases h2:sg=0
  ·rw[if_pos h2]
   refine PC.fn hH cd260 fun w0 M Q hM hE hQ hR=>?_;dsimp only[cd260,qm,ql,qf,qi,qb,qc,qp,qv,qN,qT,qF,qt]at hQ ⊢
   (have hX:=zA @x0 (zA @h2 (zA @y1 (zA @y3 (zA @y4 (zA @y5 (zA @y6 @y7))))));(repeat' first|refine zaa [0,1,4,5,6,7,8,9,10,36,60,62,70] fun K hK=>?_|(refine hK.go ?_;clear hK K)|with_reducible exact wT|refine wA ?_|(refine wB (fun h=>?_) (fun h=>?_)<;>first|exact wN h|subst (h:(_:Bool)=_)|skip)|(refine wQ ?_;clear hQ hR hE hM)|refine wU c1 ?_|refine wC c1 ?_|refine wC c2 ?_|refine wC c3 ?_|fail);all_goals clear hX)
   all_goals first|rfl|(exfalso;contradiction)|(exfalso;omega)|trace_state
  ·rw[if_neg h2]
   by_cases h3:0<r
   ·rw[if_pos h3]
    refine PC.fn hH cd260 fun w0 M Q hM hE hQ hR=>?_;dsimp only[cd260,qm,ql,qf,qi,qb,qc,qp,qv,qN,qT,qF,qt]at hQ ⊢
    (have hX:=zA @x0 (zA @y1 (zA @y3 (zA @y4 (zA @y5 (zA @y6 @y7)))));(repeat' first|refine zaa [0,1,4,5,6,7,8,9,10,36,60,62,70] fun K hK=>?_|(refine hK.go ?_;clear hK K)|with_reducible exact wT|refine wA ?_|(refine wB (fun h=>?_) (fun h=>?_)<;>first|exact wN h|subst (h:(_:Bool)=_)|skip)|(refine wQ ?_;clear hQ hR hE hM)|refine wU c1 ?_|refine wC c1 ?_|refine wC c2 ?_|refine wC c3 ?_|fail);all_goals clear hX)
    all_goals first|rfl|(exfalso;contradiction)|(exfalso;omega)|trace_state
   ·rw[if_neg h3]
    refine PC.fn hH cd260 fun w0 M Q hM hE hQ hR=>?_;dsimp only[cd260,qm,ql,qf,qi,qb,qc,qp,qv,qN,qT,qF,qt]at hQ ⊢
    (have hX:=zA @x0 (zA @y1 (zA @y3 (zA @y4 (zA @y5 (zA @y6 @y7)))));(repeat' first|refine zaa [0,1,4,5,6,7,8,9,10,36,60,62,70] fun K hK=>?_|(refine hK.go ?_;clear hK K)|with_reducible exact wT|refine wA ?_|(refine wB (fun h=>?_) (fun h=>?_)<;>first|exact wN h|subst (h:(_:Bool)=_)|skip)|(refine wQ ?_;clear hQ hR hE hM)|refine wU c1 ?_|refine wC c1 ?_|refine wC c2 ?_|refine wC c3 ?_|fail);all_goals clear hX)
    all_goals first|rfl|(exfalso;contradiction)|(exfalso;omega)|trace_state
end Go.Lev
namespace Go.Lev
open Go.Eng
set_option maxRecDepth 10000
set_option maxHeartbeats 4000000
variable {P:Program} {inv:Nat→Option Nat} {w0:World} {M:Nat→Prop}
def sgAt (p:Pln) (a b:Int):Int:=match p.signals.find? (fun x=>decide (x.sec=a)&&decide (x.ed=b)) with|some x=>x.id|none=>0
end Go.Lev
namespace Go.Lev
open Go.Eng
theorem zgO {α:Type} [Inhabited α] (f:α→Int):∀ (l:List α),(l.map f).Pairwise (· < ·)↔∀ i,0<i→i<l.length→f (nth l (i-1))<f (nth l i)
 |[]=>by simp
 |[x]=>by
  simp
  intro i h1 h2
  omega
 |x::y::r=>by
  have ih:=zgO f (y::r)
  rw[List.map_cons,List.pairwise_cons,ih]
  constructor
  ·rintro ⟨h1,h2⟩ i hi hl
   match i,hi with
   |1,_=>exact h1 (f y) (by simp)
   |i+2,_=>exact h2 (i+1) (by omega) (by simpa using hl)
  ·intro h
   have h2:∀ i,0<i→i<(y::r).length→f (nth (y::r) (i-1))<f (nth (y::r) i):=fun i hi hl=>by
    have:=h (i+1) (by omega) (by simpa using hl)
    match i,hi with
    |i+1,_=>exact this
   refine ⟨fun z hz=>?_,h2⟩
   have h3:f x<f y:=h 1 (by omega) (by simp)
   have h4:=ih.2 h2
   rw[List.map_cons,List.pairwise_cons]at h4
   rcases List.mem_cons.1 hz with rfl|hz
   ·exact h3
   ·have:=h4.1 z hz
    omega
structure PtsP (p:Pln):Prop where
 id:∀ x∈p.points,1≤x.id∧x.id≤99
 up:∀ i,0<i→i<p.points.length→(nth p.points (i-1)).id<(nth p.points i).id
 sec:∀ x∈p.points,∃ s∈p.sections,s.id=x.sec∧s.pt=x.id
 len:(p.points.length:Int)≤6
 many:((p.sections.filter fun s=>decide (0<s.pt)).length:Int)=p.points.length
def rpF (p:Pln):Bool :=
 zbs (fun i (m:Int) zbf=>cond (!decide ((nth p.sections i).pt=0)) (zbf (m+1)) (zbf m))
  (fun m=>zbs (fun i _ zbf=>cond (decide ((nth p.points i).id<1)||(decide (99<(nth p.points i).id)||(decide ((0:Int)<i)&&decide ((nth p.points i).id≤(nth p.points (i-1)).id)||(decide (ze9 (nth p.points i).sec 0 p.sections<0)||!decide ((nth p.sections (ze9 (nth p.points i).sec 0 p.sections).toNat).pt=(nth p.points i).id))))) false (zbf ()))
   (fun _=>decide ((p.points.length:Int)≤6)&&decide (m=(p.points.length:Int))) p.points.length 0 ()) p.sections.length 0 0
end Go.Lev
namespace Go.Lev
open Go.Eng
def za2 (l:List TrainD):List Int:=l.flatMap (·.secs)
theorem zfk (a b:List TrainD):za2 (a++b)=za2 a++za2 b:=List.flatMap_append
theorem zhe {l:List TrainD} {k:Nat} (h:k<l.length):za2 (l.take (k+1))=za2 (l.take k)++(nth l k).secs:=by
 rw[List.take_add_one,List.getElem?_eq_getElem h,zfk,←zay h]
 simp[za2]
structure TrsOk (p:Pln) (s:State) (l:List TrainD):Prop where
 len:l.length≤8
 id:∀ t∈l,1≤t.id∧t.id≤99
 may:∀ t∈l,trF p s t=true
 up:(l.map (·.id)).Pairwise (· < ·)
 own:(za2 l).Nodup
def Mrk (m:List (Int×Int)) (a:List Int):Prop:=∀ n,0<zeM m n↔n∈a
theorem Mrk.set {m:List (Int×Int)} {a:List Int} (h:Mrk m a) (n:Int):Mrk (zks m n 1) (a++[n]):=by
 intro x
 rw[zd8,List.mem_append,List.mem_singleton]
 by_cases e:x=n
 ·rw[if_pos e];simp[e]
 ·rw[if_neg e,h x];simp[e]
theorem own_pre {l:List TrainD} {k:Nat} (h:(za2 l).Nodup) (hk:k<l.length):(za2 (l.take k)++(nth l k).secs).Nodup:=by
 rw[←zhe hk]
 have e:za2 l=za2 (l.take (k+1))++za2 (l.drop (k+1)):=by rw[←zfk,List.take_append_drop]
 rw[e]at h
 exact (List.nodup_append.1 h).1
theorem zpS {a:List Int} {j:Nat} (h:j<a.length):a.take (j+1)=a.take j++[nth a j]:=by
 rw[List.take_add_one,List.getElem?_eq_getElem h,←zay h];rfl
theorem ckF_iff (p:Pln) (s:State) (l:List TrainD):ckF p s l=0↔TrsOk p s l:=by
 unfold ckF
 have bad:∀ {P9:Prop},¬P9→(TrsOk p s l→P9)→((8:Int)=0↔TrsOk p s l):=fun a b=>⟨fun e=>by omega,fun c=>absurd (b c) a⟩
 refine zeu (fun r=>r=0↔TrsOk p s l) (fun k m=>(∀ i,i<k→(1≤(nth l i).id∧(nth l i).id≤99)∧(0<i→(nth l (i-1)).id<(nth l i).id)∧trF p s (nth l i)=true)∧Mrk m (za2 (l.take k))∧(za2 (l.take k)).Nodup) ⟨fun i hi=>absurd hi (by omega),fun n=>by simp[za2,zeM],by simp[za2]⟩ ?_ ?_
 ·rintro k m zbf hk ⟨h1,h2,h3⟩ hn
  (try dsimp only)
  have hmem:=zae hk
  by_cases a1:(nth l k).id<1
  ·rw[decide_eq_true a1]
   exact bad (P9:=1≤(nth l k).id) (by omega) fun c=>(c.id _ hmem).1
  rw[decide_eq_false a1]
  by_cases a2:99<(nth l k).id
  ·rw[decide_eq_true a2]
   exact bad (P9:=(nth l k).id≤99) (by omega) fun c=>(c.id _ hmem).2
  rw[decide_eq_false a2]
  have key:(0<k→(nth l (k-1)).id<(nth l k).id)→(ckT p s (nth l k) m zbf=0↔TrsOk p s l):=by
   intro a3
   unfold ckT
   cases a4:trF p s (nth l k) with
   |false=>exact bad (P9:=trF p s (nth l k)=true) (by rw[a4];simp) fun c=>c.may _ hmem
   |true =>
    unfold ckM
    refine zeu (fun r=>r=0↔TrsOk p s l) (fun j m'=>Mrk m' (za2 (l.take k)++(nth l k).secs.take j)∧(za2 (l.take k)++(nth l k).secs.take j).Nodup) ⟨by simpa using h2,by simpa using h3⟩ ?_ ?_
    ·rintro j m' next2 hj ⟨g1,g2⟩ gn
     (try dsimp only)
     have hsp:=zpS hj
     by_cases a5:0<zeM m' (nth (nth l k).secs j)
     ·rw[decide_eq_true a5]
      refine bad (P9:=(za2 (l.take k)++(nth l k).secs).Nodup) (fun c=>?_) fun c=>own_pre c.own hk
      have hin:=(g1 _).1 a5
      have e:(nth l k).secs=(nth l k).secs.take (j+1)++(nth l k).secs.drop (j+1):=(List.take_append_drop _ _).symm
      rw[e,hsp,←List.append_assoc,←List.append_assoc]at c
      have c2:=(List.nodup_append.1 c).1
      exact (List.nodup_append.1 c2).2.2 _ hin _ (by simp) rfl
     ·rw[decide_eq_false a5]
      refine gn _ ⟨?_, ?_⟩
      ·rw[hsp,←List.append_assoc];exact g1.set _
      ·rw[hsp,←List.append_assoc]
       refine List.nodup_append.2 ⟨g2,by simp,fun x hx y hy e=>?_⟩
       rw[List.mem_singleton]at hy
       rw[e,hy]at hx
       exact a5 ((g1 _).2 hx)
    ·rintro m' ⟨g1,g2⟩
     rw[List.take_length,←zhe hk]at g1 g2
     refine hn m' ⟨fun i hi=>?_,g1,g2⟩
     by_cases e:i=k
     ·subst e;exact ⟨⟨by omega,by omega⟩,a3,a4⟩
     ·exact h1 i (by omega)
  by_cases a0:0<(k:Int)
  ·rw[decide_eq_true a0]
   by_cases a3:(nth l k).id≤(nth l (k-1)).id
   ·rw[decide_eq_true a3]
    refine bad (P9:=(nth l (k-1)).id<(nth l k).id) (by omega) fun c=>?_
    exact (zgO TrainD.id l).1 c.up k (by omega) hk
   ·rw[decide_eq_false a3]
    exact key fun _=>by omega
  ·rw[decide_eq_false a0]
   exact key fun h=>by omega
 ·rintro m ⟨h1,h2,h3⟩
  (try dsimp only)
  by_cases a:8<(l.length:Int)
  ·rw[decide_eq_true a]
   exact bad (P9:=l.length≤8) (by omega) fun c=>c.len
  ·rw[decide_eq_false a]
   refine ⟨fun _=>⟨by omega,fun t ht=>?_,fun t ht=>?_, ?_,by rw[List.take_length]at h3;exact h3⟩,fun _=>rfl⟩
   ·obtain ⟨i,hi,rfl⟩:=List.getElem_of_mem ht
    rw[←zay hi];exact (h1 i hi).1
   ·obtain ⟨i,hi,rfl⟩:=List.getElem_of_mem ht
    rw[←zay hi];exact (h1 i hi).2.2
   ·exact (zgO TrainD.id l).2 fun i h0 hi=>(h1 i hi).2.1 h0
theorem zbr (p:Pln) (s:State) (l:List TrainD):ckC p s l=0↔zai p s=0∧TrsOk p s l:=by
 unfold ckC
 by_cases h:zai p s=0
 ·rw[if_pos h,ckF_iff];simp[h]
 ·rw[if_neg h];simp[h]
end Go.Lev
namespace Go.Lev
open Go.Eng
def RtOk (p:Pln) (t:TrainD):Prop:=((ofW p t.rt).2=0∧0≤t.pl∧t.pl<((ofW p t.rt).1.path.length:Int)∧nth (ofW p t.rt).1.path t.pl.toNat=nth t.secs 0)∨(t.rt=0∧t.pl=0)
structure TrOk (p:Pln) (s:State) (t:TrainD):Prop where
 one:1≤t.secs.length
 four:t.secs.length≤4
 m0:0≤t.may
 m9:t.may≤9
 sec:∀ i,i<t.secs.length→(zaw p.sections (nth t.secs i)).2=0∧¬zdj s (nth t.secs i)=0
 lead:∀ i,0<i→i<t.secs.length→zdz p (nth t.secs (i-1)) (nth t.secs i)=true
 thru:(zbH (zaw p.sections (nth t.secs 0)).1 t.fr t.ed).2=0
 rt:RtOk p t
 may:trE p t=true
theorem zgU {P9:Prop} [Decidable P9] {X:Bool}:cond (decide P9) false X=true↔¬P9∧X=true:=by
 by_cases h:P9
 ·rw[decide_eq_true h];simp[h]
 ·rw[decide_eq_false h];simp[h]
theorem zhT {P9:Prop} [Decidable P9] {X:Bool}:cond (!decide P9) false X=true↔P9∧X=true:=by
 by_cases h:P9
 ·rw[decide_eq_true h];simp[h]
 ·rw[decide_eq_false h];simp[h]
theorem zi0 {p:Pln} {t:TrainD}:trG p t=true↔(t.rt=0∧t.pl=0)∧trE p t=true:=by
 unfold trG
 rw[zhT,zhT,and_assoc]
theorem trRt_iff {p:Pln} {t:TrainD}:(cond (decide ((ofW p t.rt).2=0)) (cond (decide (0≤t.pl)) (cond (decide (t.pl<((ofW p t.rt).1.path.length:Int))) (cond (!decide (nth (ofW p t.rt).1.path t.pl.toNat=nth t.secs 0)) (trG p t) (trE p t)) (trG p t)) (trG p t)) (trG p t))=true↔RtOk p t∧trE p t=true:=by
 unfold RtOk
 by_cases h1:(ofW p t.rt).2=0
 ·rw[decide_eq_true h1]
  by_cases h2:0≤t.pl
  ·rw[decide_eq_true h2]
   by_cases h3:t.pl<((ofW p t.rt).1.path.length:Int)
   ·rw[decide_eq_true h3]
    by_cases h4:nth (ofW p t.rt).1.path t.pl.toNat=nth t.secs 0
    ·rw[decide_eq_true h4];simp[h1,h2,h3,h4]
    ·rw[decide_eq_false h4]
     simp only[Bool.not_false,cond_true]
     rw[zi0];simp[h4]
   ·rw[decide_eq_false h3]
    simp only[cond_true,cond_false]
    rw[zi0];simp[h3]
  ·rw[decide_eq_false h2]
   simp only[cond_true,cond_false]
   rw[zi0];simp[h2]
 ·rw[decide_eq_false h1]
  simp only[cond_false]
  rw[zi0];simp[h1]
theorem zb9 {p:Pln} {s:State} {t:TrainD}:trF p s t=true↔TrOk p s t:=by
 unfold trF
 rw[zgU,zgU,zgU,zgU]
 have loop:(zbs (fun i (_:Unit) zbf=>cond (!decide ((zaw p.sections (nth t.secs i)).2=0)) false (cond (decide (zdj s (nth t.secs i)=0)) false (cond (decide (0<(i:Int))) (cond (!zdz p (nth t.secs (i-1)) (nth t.secs i)) false (zbf ())) (zbf ()))))
  (fun _=>cond (!decide ((zbH (zaw p.sections (nth t.secs 0)).1 t.fr t.ed).2=0)) false
   (cond (decide ((ofW p t.rt).2=0)) (cond (decide (0≤t.pl)) (cond (decide (t.pl<((ofW p t.rt).1.path.length:Int))) (cond (!decide (nth (ofW p t.rt).1.path t.pl.toNat=nth t.secs 0)) (trG p t) (trE p t)) (trG p t)) (trG p t)) (trG p t)))
  t.secs.length 0 ())=true↔(∀ i,i<t.secs.length→((zaw p.sections (nth t.secs i)).2=0∧¬zdj s (nth t.secs i)=0)∧(0<i→zdz p (nth t.secs (i-1)) (nth t.secs i)=true))∧(zbH (zaw p.sections (nth t.secs 0)).1 t.fr t.ed).2=0∧RtOk p t∧trE p t=true:=by
  refine zeu (fun r=>r=true↔(∀ i,i<t.secs.length→((zaw p.sections (nth t.secs i)).2=0∧¬zdj s (nth t.secs i)=0)∧(0<i→zdz p (nth t.secs (i-1)) (nth t.secs i)=true))∧(zbH (zaw p.sections (nth t.secs 0)).1 t.fr t.ed).2=0∧RtOk p t∧trE p t=true)
   (fun k _=>∀ i,i<k→((zaw p.sections (nth t.secs i)).2=0∧¬zdj s (nth t.secs i)=0)∧(0<i→zdz p (nth t.secs (i-1)) (nth t.secs i)=true)) (fun i hi=>absurd hi (by omega)) ?_ ?_
  ·intro k _ zbf hk h1 hn
   have more:((zaw p.sections (nth t.secs k)).2=0∧¬zdj s (nth t.secs k)=0)∧(0<k→zdz p (nth t.secs (k-1)) (nth t.secs k)=true)→_:=fun h=>hn () fun i hi=>by
    by_cases e:i=k
    ·rw[e];exact h
    ·exact h1 i (by omega)
   have key:∀ {P9:Prop},¬P9→((∀ i,i<t.secs.length→((zaw p.sections (nth t.secs i)).2=0∧¬zdj s (nth t.secs i)=0)∧(0<i→zdz p (nth t.secs (i-1)) (nth t.secs i)=true))→P9)→(false=true↔(∀ i,i<t.secs.length→((zaw p.sections (nth t.secs i)).2=0∧¬zdj s (nth t.secs i)=0)∧(0<i→zdz p (nth t.secs (i-1)) (nth t.secs i)=true))∧(zbH (zaw p.sections (nth t.secs 0)).1 t.fr t.ed).2=0∧RtOk p t∧trE p t=true) :=
    fun a b=>⟨fun e=>(by cases e),fun c=>absurd (b c.1) a⟩
   (try dsimp only)
   by_cases a1:(zaw p.sections (nth t.secs k)).2=0
   ·rw[decide_eq_true a1]
    by_cases a2:zdj s (nth t.secs k)=0
    ·rw[decide_eq_true a2]
     exact key (P9:=¬zdj s (nth t.secs k)=0) (fun h=>h a2) fun c=>(c k hk).1.2
    ·rw[decide_eq_false a2]
     by_cases a0:0<(k:Int)
     ·rw[decide_eq_true a0]
      cases a3:zdz p (nth t.secs (k-1)) (nth t.secs k) with
      |true=>exact more ⟨⟨a1,a2⟩,fun _=>a3⟩
      |false=>exact key (P9:=zdz p (nth t.secs (k-1)) (nth t.secs k)=true) (by rw[a3];simp) fun c=>(c k hk).2 (by omega)
     ·rw[decide_eq_false a0]
      exact more ⟨⟨a1,a2⟩,fun h=>absurd h (by omega)⟩
   ·rw[decide_eq_false a1]
    exact key (P9:=(zaw p.sections (nth t.secs k)).2=0) a1 fun c=>(c k hk).1.1
  ·intro _ h1
   (try dsimp only)
   rw[zhT,trRt_iff]
   exact ⟨fun h=>⟨h1,h⟩,fun h=>h.2⟩
 rw[loop]
 constructor
 ·rintro ⟨h1,h2,h3,h4,h5,h6,h7,h8⟩
  exact ⟨by omega,by omega,by omega,by omega,fun i hi=>(h5 i hi).1,fun i h0 hi=>(h5 i hi).2 h0,h6,h7,h8⟩
 ·intro h
  have:=h.one;have:=h.four;have:=h.m0;have:=h.m9
  exact ⟨by omega,by omega,by omega,by omega,fun i hi=>⟨h.sec i hi,fun h0=>h.lead i h0 hi⟩,h.thru,h.rt,h.may⟩
end Go.Lev
namespace Go.Lev
open Go.Eng
theorem zkh {l:List Section} {n:Int} (h:(zaw l n).2=0):(zaw l n).1∈l∧(zaw l n).1.id=n:=by
 unfold zaw at h ⊢
 split at h
 ·rename_i hm
  rw[if_pos hm]
  split at h
  ·simp at h
  ·rename_i hn
   rw[if_neg hn]
   rcases zeg n l 0 with ⟨e,_⟩|⟨q,hq,e,hid⟩
   ·exact absurd (by rw[e];decide) hn
   ·rw[e]
    have:((0:Nat):Int)+(q:Int)=(q:Int):=by omega
    rw[this,Int.toNat_natCast]
    exact ⟨zae hq,hid⟩
 ·simp at h
theorem zej {S:Section} {a b:Int}:(zbH S a b).2=0↔zca S=true∧(0≤a∧a≤2)∧(0≤b∧b≤2)∧¬zbb S.pt a b=0:=by
 unfold zbH
 by_cases h:zca S=true
 ·rw[if_pos h]
  by_cases h2:a<0∨2<a∨b<0∨2<b∨zbb S.pt a b=0
  ·rw[if_pos h2]
   exact ⟨fun e=>absurd e (by decide),fun c=>absurd h2 (by rintro (q|q|q|q|q)<;>first|omega|exact c.2.2.2 q)⟩
  ·rw[if_neg h2]
   exact ⟨fun _=>⟨h,by omega,by omega,fun e=>h2 (by simp[e])⟩,fun _=>rfl⟩
 ·rw[if_neg h]
  exact ⟨fun e=>absurd e (by decide),fun c=>absurd c.1 h⟩
theorem zmw {p:Pln} {t:TrainD} (h:t.may=0) (h2:t.nx=0):trE p t=true:=by
 unfold trE
 rw[decide_eq_true h,decide_eq_true h2];rfl
theorem zhf (l:List TrainD):za2 l=(l.map (·.secs)).flatten:=by unfold za2;rw[List.flatMap_def]
theorem TrsOk.set {p:Pln} {s:State} {l:List TrainD} (h:TrsOk p s l) {k:Nat} (hk:k<l.length) {t:TrainD} (hid:t.id=(nth l k).id) (hsec:t.secs=(nth l k).secs) (hok:TrOk p s t):TrsOk p s (l.set k t) where
 len:=by rw[List.length_set];exact h.len
 id:=fun x hx=>by
  rcases List.mem_or_eq_of_mem_set hx with hx|rfl
  ·exact h.id x hx
  ·rw[hid];exact h.id _ (zae hk)
 may:=fun x hx=>by
  rcases List.mem_or_eq_of_mem_set hx with hx|rfl
  ·exact h.may x hx
  ·exact zb9.2 hok
 up:=by
  rw[List.map_set,hid]
  have:(l.map (·.id)).set k (nth l k).id=l.map (·.id):=by
   have h9:=List.set_getElem_self (as:=l.map (·.id)) (i:=k) (by simpa using hk)
   rw[List.getElem_map,←zay hk]at h9
   exact h9
  rw[this];exact h.up
 own:=by
  rw[zhf,List.map_set,hsec]
  have:(l.map (·.secs)).set k (nth l k).secs=l.map (·.secs):=by
   have h9:=List.set_getElem_self (as:=l.map (·.secs)) (i:=k) (by simpa using hk)
   rw[List.getElem_map,←zay hk]at h9
   exact h9
  rw[this,←zhf];exact h.own
theorem flat_sub {r l:List TrainD} (h:r.Sublist l):(za2 r).Sublist (za2 l):=by
 induction h with
 |slnil=>exact List.Sublist.refl _
 |cons x _ ih=>exact ih.trans (List.sublist_append_right x.secs _)
 |cons_cons x _ ih=>exact (List.Sublist.refl x.secs).append ih
theorem TrsOk.sub {p:Pln} {s:State} {l r:List TrainD} (h:TrsOk p s l) (hs:r.Sublist l):TrsOk p s r where
 len:=Nat.le_trans hs.length_le h.len
 id:=fun x hx=>h.id x (hs.subset hx)
 may:=fun x hx=>h.may x (hs.subset hx)
 up:=h.up.sublist (hs.map _)
 own:=by
  have:=h.own
  exact this.sublist (flat_sub hs)
theorem zdA (x:TrainD) (r:List TrainD) (t:TrainD):zge (x::r) t=if x.id<t.id then x::zge r t else t::x::r:=by
 unfold zge
 by_cases h:x.id<t.id
 ·rw[if_pos h];simp[h]
 ·rw[if_neg h];simp[h]
theorem zdM (t:TrainD):∀ (l:List TrainD) (x:TrainD),x∈zge l t↔x=t∨x∈l
 |[],x=>by simp[zge]
 |y::r,x=>by
  rw[zdA]
  split
  ·rw[List.mem_cons,zdM t r x,List.mem_cons]
   constructor
   ·rintro (h|h|h)<;>simp[h]
   ·rintro (h|h|h)<;>simp[h]
  ·simp[List.mem_cons]
theorem zjw (t:TrainD):∀ (l:List TrainD),(zge l t).length=l.length+1
 |[]=>by simp[zge]
 |y::r=>by rw[zdA];split<;>simp[zjw t r]
theorem zlT {t:TrainD}:∀ {l:List TrainD},(l.map (·.id)).Pairwise (· < ·)→(∀ x∈l,x.id≠t.id)→((zge l t).map (·.id)).Pairwise (· < ·)
 |[],_,_=>by simp[zge]
 |y::r,h,hne=>by
  rw[List.map_cons,List.pairwise_cons]at h
  rw[zdA]
  split
  ·rename_i hlt
   rw[List.map_cons,List.pairwise_cons]
   refine ⟨fun i hi=>?_,zlT h.2 fun x hx=>hne x (by simp[hx])⟩
   obtain ⟨x,hx,rfl⟩:=List.mem_map.1 hi
   rcases (zdM t r x).1 hx with rfl|hx
   ·exact hlt
   ·exact h.1 _ (List.mem_map_of_mem hx)
  ·rename_i hlt
   have hy:=hne y (by simp)
   rw[List.map_cons,List.pairwise_cons]
   refine ⟨fun i hi=>?_,by rw[List.map_cons,List.pairwise_cons];exact h⟩
   rw[List.map_cons,List.mem_cons]at hi
   rcases hi with rfl|hi
   ·omega
   ·have:=h.1 _ hi;omega
theorem TrOk.take {p:Pln} {s:State} {t:TrainD} (h:TrOk p s t) (n:Int):TrOk p (zhd s n 1) t where
 one:=h.one
 four:=h.four
 m0:=h.m0
 m9:=h.m9
 sec:=fun i hi=>⟨(h.sec i hi).1,fun e=>(h.sec i hi).2 (zid e).1⟩
 lead:=h.lead
 thru:=h.thru
 rt:=h.rt
 may:=h.may
theorem TrsOk.take {p:Pln} {s:State} {l:List TrainD} (h:TrsOk p s l) (n:Int):TrsOk p (zhd s n 1) l where
 len:=h.len
 id:=h.id
 may:=fun t ht=>zb9.2 ((zb9.1 (h.may t ht)).take n)
 up:=h.up
 own:=h.own
end Go.Lev
