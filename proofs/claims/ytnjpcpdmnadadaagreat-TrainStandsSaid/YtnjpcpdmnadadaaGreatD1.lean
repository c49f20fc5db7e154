/-
  A part of the engine that walks the functions' codes, and of the functions' contracts. Conditions: those that each theorem names.
-/
import Derived.Test.YtnjpcpdmnadadaaGreatL14
import Derived.IntWalk
import Derived.Laws.IdiomCopy
set_option linter.unusedSimpArgs false
set_option linter.unusedVariables false
set_option linter.unusedSectionVars false
namespace Go.Lev
open Go.Eng
set_option maxRecDepth 10000
set_option maxHeartbeats 4000000
variable {P:Program} {inv:Nat→Option Nat} {w0:World} {M:Nat→Prop}
theorem hasSgn (hH:HasAll P inv) {jc:Nat} {caps:List AV} {q:Sgn→Bool} (l:List Sgn) (hc:∀ x∈l,PC P inv jc ([.agg x.c]++caps) (·=.b (q x))) (hl:l.length≤1000000000):PC P inv 215 [.sl 3 (l.map Sgn.c),.fn jc caps] (·=.b (l.any q)):=by
 have c1:=zp2 hH l hc hl
 have e:=ze0 q l
 refine PC.fn hH cd215 fun w0 M Q hM hE hQ hR=>?_;dsimp only[cd215,qm,ql,qf,qi,qb,qc,qp,qv,qN,qT,qF,qt]at hQ ⊢
 (have hX:=@e;(repeat' first|refine zaa [0,1,4] fun K hK=>?_|(refine hK.go ?_;clear hK K)|with_reducible exact wT|refine wA ?_|(refine wB (fun h=>?_) (fun h=>?_)<;>first|exact wN h|subst (h:(_:Bool)=_)|skip)|(refine wQ ?_;clear hQ hR hE hM)|refine wC c1 ?_|fail);all_goals clear hX)
end Go.Lev
namespace Go.Lev
open Go.Eng
set_option maxRecDepth 10000
set_option maxHeartbeats 4000000
variable {P:Program} {inv:Nat→Option Nat} {w0:World} {M:Nat→Prop}
theorem is216_pc (hH:HasAll P inv) (n:Int) (x:Sgn):PC P inv 216 ([.agg x.c]++[.ip 1 [[.n n]] 0 0]) (·=.b (decide (x.id=n))):=by
 refine PC.fn hH cd216 fun w0 M Q hM hE hQ hR=>?_;dsimp only[cd216,qm,ql,qf,qi,qb,qc,qp,qv,qN,qT,qF,qt]at hQ ⊢
 (repeat' first|refine zaa [0,1,2,3] fun K hK=>?_|(refine hK.go ?_;clear hK K)|with_reducible exact wT|refine wA ?_|(refine wB (fun h=>?_) (fun h=>?_)<;>first|exact wN h|subst (h:(_:Bool)=_)|skip)|(refine wQ ?_;clear hQ hR hE hM)|fail)
theorem zib (hH:HasAll P inv) (hI:HasIds P inv) (p:Pln) (hp:Sm p) (s:State) (hs:SmS s) (n:Int):PC P inv 199 [.agg p.c,.agg s.c,.n n] (·=.tup [.b (decide (sgC p s n=0)&&goB p s n),.n (sgC p s n)]):=by
 have c0:=zht hH hI p hp s hs
 have c1:=hasSgn hH p.signals (fun x _=>is216_pc hH n x) (Nat.le_trans hp.sgn (by omega))
 rw[show (p.signals.any fun x=>decide (x.id=n))=isSgn p n from rfl]at c1
 have hrl:=hp.rte
 unfold sgC
 by_cases hst:zai p s=0
 ·rw[hst]at c0
  simp only[if_pos hst]
  rw[show zga p s=zeU p s by unfold zga;rw[if_pos hst]]at c0
  cases ht:isSgn p n with
  |false =>
   rw[ht]at c1
   generalize zeU p s=bs at *
   refine PC.fn hH cd199 fun w0 M Q hM hE hQ hR=>?_;dsimp only[cd199,qm,ql,qf,qi,qb,qc,qp,qv,qN,qT,qF,qt]at hQ ⊢
   (repeat' first|refine zaa [0,1,2,3,4,5,6,7,8,9,10,11,19,25,27,28,29,30,43] fun K hK=>?_|(refine hK.go ?_;clear hK K)|with_reducible exact wT|refine wA ?_|(refine wB (fun h=>?_) (fun h=>?_)<;>first|exact wN h|subst (h:(_:Bool)=_)|skip)|(refine wQ ?_;clear hQ hR hE hM)|refine wC c0 ?_|refine wS c1 ?_|fail)
   all_goals first|rfl|(exfalso;contradiction)|skip
  |true =>
   rw[ht]at c1
   have hl:(zeU p s).length=p.routes.length:=by simp[zeU]
   have hn:∀ i,i<p.routes.length→nth (zeU p s) i=zd3 p s (nth p.routes i):=fun i hi=>nthm _ hi
   unfold goB
   generalize zeU p s=bs at *
   generalize zd3 p s=f at *
   refine PC.fn hH cd199 fun w0 M Q hM hE hQ hR=>?_;dsimp only[cd199,qm,ql,qf,qi,qb,qc,qp,qv,qN,qT,qF,qt]at hQ ⊢
   (repeat' first|refine zaa [0,1,2,3,4,5,6,7,8,9,10,11,19,25,27,28,29,30,43] fun K hK=>?_|(refine hK.go ?_;clear hK K)|with_reducible exact wT|refine wA ?_|(refine wB (fun h=>?_) (fun h=>?_)<;>first|exact wN h|subst (h:(_:Bool)=_)|skip)|(refine wQ ?_;clear hQ hR hE hM)|refine wC c0 ?_|refine wS c1 ?_|fail)
   all_goals first|(exfalso;contradiction)|skip
   refine zaz (ι:=Nat) [5,6,7,8,27,28,29] (fun z=>[(29,.n z)]) (fun _=>[]) (fun z=>z) (p.routes.length) (fun z=>(((p.routes.drop z).any fun r=>decide (r.entry=n)&&f r)=(p.routes.any fun r=>decide (r.entry=n)&&f r))) (0) ?_;rintro k ⟨hk,hg⟩;(try dsimp only at hk hg ⊢);rcases Nat.lt_or_ge k p.routes.length with hlt|hge
   ·rw[zag hlt,List.any_cons]at hg
    have hn:=hn k hlt
    by_cases h1:(nth p.routes k).entry=n
    ·have h2:decide ((nth p.routes k).entry=n)=true:=decide_eq_true h1
     rw[h2,Bool.true_and]at hg
     cases h3:f (nth p.routes k) with
     |true =>
      rw[h3]at hn hg
      (have hX:=zA @h2 @hn;(repeat' first|refine zaa [0,1,2,3,4,5,6,7,8,9,10,11,19,25,27,28,29,30,43] fun K hK=>?_|(refine hK.go ?_;clear hK K)|with_reducible exact wT|refine wA ?_|(refine wB (fun h=>?_) (fun h=>?_)<;>first|exact wN h|subst (h:(_:Bool)=_)|skip)|(refine wQ ?_;clear hQ hR hE hM)|fail);all_goals clear hX)
      all_goals first|(exfalso;contradiction)|(simpa using hg)
     |false =>
      rw[h3]at hn hg
      (have hX:=zA @h2 @hn;(repeat' first|refine zaa [0,1,2,3,4,5,6,7,8,9,10,11,19,25,27,28,29,30,43] fun K hK=>?_|(refine hK.go ?_;clear hK K)|with_reducible exact wT|refine wA ?_|(refine wB (fun h=>?_) (fun h=>?_)<;>first|exact wN h|subst (h:(_:Bool)=_)|skip)|(refine wQ ?_;clear hQ hR hE hM)|fail);all_goals clear hX)
      all_goals first|(exfalso;contradiction)|exact ⟨k+1,by omega,⟨by omega,by simpa using hg⟩,by omega⟩
    ·have h2:decide ((nth p.routes k).entry=n)=false:=decide_eq_false h1
     rw[h2,Bool.false_and,Bool.false_or]at hg
     (have hX:=@h2;(repeat' first|refine zaa [0,1,2,3,4,5,6,7,8,9,10,11,19,25,27,28,29,30,43] fun K hK=>?_|(refine hK.go ?_;clear hK K)|with_reducible exact wT|refine wA ?_|(refine wB (fun h=>?_) (fun h=>?_)<;>first|exact wN h|subst (h:(_:Bool)=_)|skip)|(refine wQ ?_;clear hQ hR hE hM)|fail);all_goals clear hX)
     all_goals first|(exfalso;contradiction)|exact ⟨k+1,by omega,⟨by omega,hg⟩,by omega⟩
   ·rw[List.drop_eq_nil_of_le hge,List.any_nil]at hg
    (repeat' first|refine zaa [0,1,2,3,4,5,6,7,8,9,10,11,19,25,27,28,29,30,43] fun K hK=>?_|(refine hK.go ?_;clear hK K)|with_reducible exact wT|refine wA ?_|(refine wB (fun h=>?_) (fun h=>?_)<;>first|exact wN h|subst (h:(_:Bool)=_)|skip)|(refine wQ ?_;clear hQ hR hE hM)|fail)
    all_goals first|(rw[←hg];rfl)|(simp[←hg])
 ·simp only[if_neg hst]
  rw[show zga p s=[] by unfold zga;rw[if_neg hst]]at c0
  generalize zai p s=e at c0 hst ⊢
  refine PC.fn hH cd199 fun w0 M Q hM hE hQ hR=>?_;dsimp only[cd199,qm,ql,qf,qi,qb,qc,qp,qv,qN,qT,qF,qt]at hQ ⊢
  (repeat' first|refine zaa [0,1,2,3,4,5,6,7,8,9,10,11,19,25,27,28,29,30,43] fun K hK=>?_|(refine hK.go ?_;clear hK K)|with_reducible exact wT|refine wA ?_|(refine wB (fun h=>?_) (fun h=>?_)<;>first|exact wN h|subst (h:(_:Bool)=_)|skip)|(refine wQ ?_;clear hQ hR hE hM)|refine wC c0 ?_|fail)
  all_goals first|rfl|(exfalso;contradiction)|simp[hst]
end Go.Lev
namespace Go.Lev
open Go.Eng
set_option maxRecDepth 10000
set_option maxHeartbeats 4000000
variable {P:Program} {inv:Nat→Option Nat} {w0:World} {M:Nat→Prop}
theorem zqg (p:Pln) (f:Rte→Bool) (n:Int):(goX p f n=-1∧∀ r∈p.routes,(decide (r.entry=n)&&f r)=false)∨∃ i:Nat,i<p.routes.length∧goX p f n=(i:Int)∧(nth p.routes i).entry=n∧f (nth p.routes i)=true:=by
 rcases zbX (fun r=>decide (r.entry=n)&&f r) p.routes 0 with ⟨h1,h2⟩|⟨i,h1,h2,h3⟩
 ·refine .inl ⟨h1,fun r hr=>?_⟩
  have:=List.find?_eq_none.1 h2 r hr
  simpa using this
 ·have:=List.find?_some h3
  simp only[Bool.and_eq_true,decide_eq_true_eq]at this
  exact .inr ⟨i,h1,by unfold goX;omega,this.1,this.2⟩
end Go.Lev
namespace Go.Lev
open Go.Eng
theorem zoX (a b:Int):∀ (l:List Sgn) (v:Int),sgL a b l v=v∨∃ x∈l,sgL a b l v=x.id
 |[],v=>.inl rfl
 |x::r,v=>by
  rw[sgL]
  rcases zoX a b r (if x.sec=a∧x.ed=b then x.id else v) with h|⟨y,hy,h⟩
  ·rw[h]
   split
   ·exact .inr ⟨x,by simp,rfl⟩
   ·exact .inl rfl
  ·exact .inr ⟨y,by simp[hy],h⟩
theorem stV_some {p:Pln} {a b:Int} (h:¬ze6 p a b=0):stC p a b=0∧zbA p=true∧isSgn p (ze6 p a b)=true:=by
 unfold ze6 at h ⊢
 split at h
 ·rename_i h1
  rw[if_pos h1]
  refine ⟨h1, ?_, ?_⟩
  ·cases ho:zbA p with
   |true=>rfl
   |false=>unfold stC at h1;rw[ho]at h1;simp at h1
  ·rcases zoX a b p.signals 0 with e|⟨x,hx,e⟩
   ·exact absurd e h
   ·rw[e];exact List.any_eq_true.2 ⟨x,hx,by simp⟩
 ·exact absurd rfl h
theorem rteOf_at {p:Pln} (hp:zbA p=true) {i:Nat} (hi:i<p.routes.length):zcK p (nth p.routes i).id=(nth p.routes i,0):=by
 unfold zcK
 rw[if_pos hp,zjC Rte.id (zfn (zeL hp)) hi rfl]
theorem zpm {p:Pln} {s:State} {n:Int} (hp:zbA p=true) (h:0<prId p s n):(zcK p (prId p s n)).2=0∧(zcK p (prId p s n)).1.entry=n∧goB p s n=true:=by
 unfold prId at h ⊢
 rcases zqg p (zd3 p s) n with ⟨e,_⟩|⟨i,hi,e,he,hf⟩
 ·rw[e,if_pos (by decide)]at h;exact absurd h (by decide)
 ·rw[e,if_neg (by omega),Int.toNat_natCast,rteOf_at hp hi]
  refine ⟨rfl,he,List.any_eq_true.2 ⟨_,zae hi, ?_⟩⟩
  rw[he,decide_eq_true rfl]
  exact hf
theorem znv (p:Pln) (s:State) (l:List TrainD) (n se ed:Int):tsF p s l (mvR p s l ⟨2,n,se,ed⟩).2.1 (mvR p s l ⟨2,n,se,ed⟩).1 n=true:=by
 unfold tsF
 by_cases he:(mvR p s l ⟨2,n,se,ed⟩).1=0
 ·rw[decide_eq_true he]
  by_cases hc:ckC p s l=0
  ·have hst:=((zbr p s l).1 hc).1
   have hT:=((zbr p s l).1 hc).2
   have hm:mvR p s l ⟨2,n,se,ed⟩=ze8 p s l n (zig p s l):=by unfold mvR;rw[if_pos hc,if_neg (show ¬(2:Int)=1 by decide),if_pos rfl]
   rw[hm]at he ⊢
   unfold ze8 at he ⊢
   rcases zaV l n with ⟨e,_⟩|⟨k,hk,e,hid⟩
   ·rw[e,if_pos (by decide)]at he;simp at he
   rw[e,if_neg (by omega),Int.toNat_natCast]at he ⊢
   have ht:=zb9.1 (hT.may _ (zae hk))
   unfold zig at he ⊢
   split at he
   ·simp at he
   rename_i n1
   rw[if_neg n1]
   split at he
   ·simp at he
   rename_i n2
   rw[if_neg n2]
   split at he
   rotate_left
   ·rename_i n3;exact absurd he n3
   rename_i n3
   rw[if_pos n3]
   split at he
   rotate_left
   ·simp at he
   rename_i n4
   rw[if_pos n4]
   have e2:=zjO (t:=zgF p s (nth l k)) hk hT.up rfl
   have e3:(zgF p s (nth l k)).id=n:=hid
   rw[e3]at e2
   simp only[e2]
   rw[decide_eq_false (show ¬(k:Int)<0 by omega),Int.toNat_natCast,zbg _ _ _ _ hk,if_pos rfl]
   have hgo:¬(goT p s (nth l k)).2.2=false:=fun h=>n2 (.inl h)
   show tsG p s (nth l k) (zgF p s (nth l k))=true
   have hH2:¬((ofW p (nth l k).rt).2=0∧(nth l k).pl<((ofW p (nth l k).rt).1.path.length:Int)-1)→tsH p s (nth l k) (zgF p s (nth l k))=true:=by
    intro h9
    unfold tsH zgF
    unfold goT at hgo ⊢
    rw[if_neg h9]at hgo ⊢
    generalize hsg:ze6 p (nth (nth l k).secs 0) (nth l k).ed=sg at hgo ⊢
    by_cases h0:sg=0
    ·rw[if_pos h0]at hgo;exact absurd rfl hgo
    rw[if_neg h0]at hgo ⊢
    obtain ⟨s1,s2,s3⟩:=stV_some (p:=p) (a:=nth (nth l k).secs 0) (b:=(nth l k).ed) (by rw[hsg];exact h0)
    rw[hsg]at s3
    have s4:sgC p s sg=0:=by unfold sgC;rw[if_pos hst,if_pos s3]
    by_cases h1:0<prId p s sg
    ·obtain ⟨r1,r2,r3⟩:=zpm (s:=s) s2 h1
     simp only[if_pos h1,s1,s4,h0,r1,r2,r3]
     simp
    ·simp only[if_neg h1]at hgo ⊢
     have hmay:0<(nth l k).may:=by simpa using hgo
     have hE:=ht.may
     unfold trE at hE
     rw[decide_eq_false (show ¬(nth l k).may=0 by omega)]at hE
     simp only[cond_false]at hE
     by_cases r1:(zcK p (nth l k).nx).2=0
     ·rw[decide_eq_true r1]at hE
      simp only[cond_true,decide_eq_true_eq,hsg]at hE
      simp only[s1,s4,h0,r1,←hE,hmay]
      simp
     ·rw[decide_eq_false r1]at hE;simp at hE
   unfold tsG
   by_cases h1:(ofW p (nth l k).rt).2=0
   ·rw[decide_eq_true h1]
    by_cases h2:(nth l k).pl<((ofW p (nth l k).rt).1.path.length:Int)-1
    ·rw[decide_eq_true h2]
     unfold zgF goT
     rw[if_pos ⟨h1,h2⟩]
     simp
    ·rw[decide_eq_false h2]
     exact hH2 fun h=>h2 h.2
   ·rw[decide_eq_false h1]
    exact hH2 fun h=>h1 h.1
  ·have hm:mvR p s l ⟨2,n,se,ed⟩=(ckC p s l,[],[]):=if_neg hc
   rw[hm]at he
   exact absurd he hc
 ·rw[decide_eq_false he];rfl
end Go.Lev
namespace Go.Lev
open Go.Eng
set_option maxRecDepth 10000
set_option maxHeartbeats 8000000
variable {P:Program} {inv:Nat→Option Nat} {w0:World} {M:Nat→Prop}
theorem zia (hH:HasAll P inv) (hI:HasIds P inv) (hIn:HasIns P inv) (c0:PC P inv 212 [] (·=.b true)) (p:Pln) (hp:Pln.ok p) (s:State) (l:List TrainD) (n:Int):PC P inv 381 [.agg p.c,.agg s.c,.agg (wld l),.n n] (·=.b true):=by
 have c1:=zex hH p s l
 cases hg:(gPl p||(zgG s||gTr l)) with
 |true =>
  rw[hg]at c1
  unfold wld at *
  refine PC.fn hH cd381 fun w0 M Q hM hE hQ hR=>?_;dsimp only[cd381,qm,ql,qf,qi,qb,qc,qp,qv,qN,qT,qF,qt]at hQ ⊢
  (repeat' first|refine zaa [0,1,2,3,4,5,6,8,9,10,11,13,14,15,16,17,18,19,20,21,22,23,32,48,56,86,108,154] fun K hK=>?_|(refine hK.go ?_;clear hK K)|with_reducible exact wT|refine wA ?_|(refine wB (fun h=>?_) (fun h=>?_)<;>first|exact wN h|subst (h:(_:Bool)=_)|skip)|(refine wQ ?_;clear hQ hR hE hM)|refine wC c0 ?_|refine wC c1 ?_|fail)
 |false =>
  rw[hg]at c1
  simp only[Bool.or_eq_false_iff]at hg
  have hp':=sm31 hp hg.1
  have hs':=zmB hg.2.1
  obtain ⟨hl30,hls30⟩:=tr31 hg.2.2
  have c2:=zbK hH hI hIn p hp' s hs' l (by omega) (fun t ht=>Nat.le_trans (hls30 t ht) (by omega)) ⟨2,n,0,0⟩ (by dsimp only;omega)
  have hF:=znv p s l n 0 0
  have hX:=zjo p s l ⟨2,n,0,0⟩
  have he:=@zpB p s l ⟨2,n,0,0⟩
  generalize mvR p s l ⟨2,n,0,0⟩=R at *
  obtain ⟨e,X,A⟩:=R
  have c4:=zfP hH l (by omega) n
  dsimp only at hF hX he
  unfold zoj zcm MoveD.c at c2
  dsimp only at c2
  by_cases h0:e=0
  ·subst h0
   have hc:=he rfl
   have hT:=((zbr p s l).1 hc).2
   unfold tsF at hF
   rw[decide_eq_true rfl]at hF
   have c3:=zfP hH X (by omega) n
   rcases zaV l n with ⟨e1,_⟩|⟨k,hk7,e1,_⟩
   ·rw[e1]at hF;simp at hF
   rcases zaV X n with ⟨e2,_⟩|⟨q,hq7,e2,_⟩
   ·rw[e1,e2,decide_eq_false (by omega)]at hF;simp at hF
   rw[e1,e2,decide_eq_false (by omega),decide_eq_false (by omega),Int.toNat_natCast,Int.toNat_natCast]at hF
   rw[e1]at c4
   rw[e2]at c3
   have ht:=zb9.1 (hT.may _ (zae hk7))
   have hk8:=ht.one
   have hpl:0≤(nth l k).pl:=by
    rcases ht.rt with h|h
    ·exact h.2.1
    ·omega
   change tsG p s (nth l k) (nth X q)=true at hF
   have c5:=zgZ hH hI p hp' (nth l k).rt
   have c6:=zg4 hH hI p hp' (nth (nth l k).secs 0) (nth l k).ed
   have c7:=zib hH hI p hp' s hs' (ze6 p (nth (nth l k).secs 0) (nth l k).ed)
   have c8:=zd4 hH hI p hp' (nth X q).rt
   have hpa:=zps (zaH ((zbr p s l).1 hc).1) (nth l k).rt
   unfold tsG tsH at hF
   generalize ofW p (nth l k).rt=W at *
   generalize sgC p s (ze6 p (nth (nth l k).secs 0) (nth l k).ed)=C at *
   generalize goB p s (ze6 p (nth (nth l k).secs 0) (nth l k).ed)=G at *
   generalize ze6 p (nth (nth l k).secs 0) (nth l k).ed=V at *
   generalize stC p (nth (nth l k).secs 0) (nth l k).ed=D at *
   generalize zcK p (nth X q).rt=U at *
   unfold wld at *
   clear hT ht hc he
   refine PC.fn hH cd381 fun w0 M Q hM hE hQ hR=>?_;dsimp only[cd381,qm,ql,qf,qi,qb,qc,qp,qv,qN,qT,qF,qt]at hQ ⊢
   skip
   (repeat' first|refine zaa [0,1,2,3,4,5,6,8,9,10,11,13,14,15,16,17,18,19,20,21,22,23,32,48,56,86,108,154] fun K hK=>?_|(refine hK.go ?_;clear hK K)|with_reducible exact wT|refine wA ?_|(refine wE (fun h0 h=>?_) (fun h0 h=>?_)<;>first|exact wN h|((try replace hF:=wX hF);clear h0;first|exact hF.elim|((try subst (h:(_:Bool)=_));try replace hF:=wX hF)))|(refine wQ ?_;clear hQ hR hE hM)|refine wC c0 ?_|refine wC c1 ?_|refine wC c4 ?_|refine wC c2 ?_|refine wC c3 ?_|refine wU c3 ?_|refine wC c5 ?_|refine wC c6 ?_|refine wC c7 ?_|refine wC c8 ?_|fail)
   all_goals first|exact hF|exact congrArg AV.b hF|(exfalso;contradiction)|(exfalso;omega)|skip
   all_goals trace_state
  ·unfold wld at *
   clear hF he
   refine PC.fn hH cd381 fun w0 M Q hM hE hQ hR=>?_;dsimp only[cd381,qm,ql,qf,qi,qb,qc,qp,qv,qN,qT,qF,qt]at hQ ⊢
   (repeat' first|refine zaa [0,1,2,3,4,5,6,8,9,10,11,13,14,15,16,17,18,19,20,21,22,23,32,48,56,86,108,154] fun K hK=>?_|(refine hK.go ?_;clear hK K)|with_reducible exact wT|refine wA ?_|(refine wB (fun h=>?_) (fun h=>?_)<;>first|exact wN h|subst (h:(_:Bool)=_)|skip)|(refine wQ ?_;clear hQ hR hE hM)|refine wC c0 ?_|refine wC c1 ?_|refine wC c4 ?_|refine wC c2 ?_|fail)
   all_goals first|rfl|(exfalso;contradiction)|(exfalso;omega)|trace_state
end Go.Lev
namespace Go.Lev
open Go.Eng
variable {P:Program} {inv:Nat→Option Nat}
theorem zoC (hH:HasAll P inv) (hI:HasIds P inv) (hIn:HasIns P inv) (p:Pln) (hp:Pln.ok p) (s:State) (l:List TrainD) (n:Int):PC P inv 381 [.agg p.c,.agg s.c,.agg (wld l),.n n] (·=.b true):=zia hH hI hIn (zdD hH hI hIn) p hp s l n
end Go.Lev
