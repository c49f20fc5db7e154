/-
  A part of the engine that walks the functions' codes, and of the functions' contracts. Conditions: those that each theorem names.
-/
import Derived.Test.YtibpmipffibbpaaGreatQ6
import Derived.IntWalk
set_option linter.unusedSimpArgs false
set_option linter.unusedVariables false
set_option linter.unusedSectionVars false
namespace Go.Lev
open Go.Eng
set_option maxRecDepth 10000
set_option maxHeartbeats 4000000
variable {P:Program} {inv:Nat→Option Nat}
@[simp] theorem cnt1_0 (f:Nat→Bool):zhV f 0=0:=rfl
@[simp] theorem cnt2_0 (g:Nat→Nat→Bool) (n:Nat):cnt2 g n 0=0:=rfl
theorem idx_ask (hH:HasAll P inv) {jc:Nat} {caps:List AV} {p:AskR→Bool} (l:List AskR) (hc:∀ x∈l,PC P inv jc ([.agg x.c]++caps) (·=.b (p x))) (hl:l.length≤1000000000):PC P inv 266 [.sl 3 (l.map AskR.c),.fn jc caps] (·=.n (zbn p 0 l)):=by
 refine PC.fn hH cd266 fun w0 M Q hM hE hQ hR=>?_;dsimp only[cd266,qm,ql,qf,qi,qb,qc,qp,qv,qN,qT,qF,qt]at hQ ⊢
 (repeat' first|refine zaa [0,1,4,5,7,8,9,16] fun K hK=>?_|(refine hK.go ?_;clear hK K)|with_reducible exact wT|refine wA ?_|(refine wB (fun h=>?_) (fun h=>?_)<;>first|exact wN h|subst (h:(_:Bool)=_)|skip)|(refine wQ ?_;clear hQ hR hE hM)|fail)
 refine zcm (fun k=>[(0,.sl 3 (l.map AskR.c)),(1,.fn jc caps),(7,.n l.length),(8,.n k)]) (fun k=>[]) (l.length) (fun k=>zbn p k (l.drop k)=zbn p 0 l) ?_;rintro k ⟨hk,hg⟩;rcases Nat.lt_or_ge k l.length with hlt|hge
 ·rw[zah hlt]at hg
  rw[zbn]at hg
  (repeat' first|refine zaa [0,1,4,5,7,8,9,16] fun K hK=>?_|(refine hK.go ?_;clear hK K)|with_reducible exact wT|refine wA ?_|(refine wB (fun h=>?_) (fun h=>?_)<;>first|exact wN h|subst (h:(_:Bool)=_)|skip)|(refine wQ ?_;clear hQ hR hE hM)|(refine zas hM (hc _ (zaf hlt)) ?_;try (refine no_implicit_lambda% (st ?_);try with_reducible exact wT))|fail)
  ·rw[←hg,if_pos h]
  ·exact ⟨k+1,by omega,⟨by omega,by rw[←hg,if_neg (by rw[h];simp)];rfl⟩,(by (try dsimp only);(first|omega|(simp;done)|(simp;omega)))⟩
 ·rw[List.drop_eq_nil_of_le hge]at hg
  (repeat' first|refine zaa [0,1,4,5,7,8,9,16] fun K hK=>?_|(refine hK.go ?_;clear hK K)|with_reducible exact wT|refine wA ?_|(refine wB (fun h=>?_) (fun h=>?_)<;>first|exact wN h|subst (h:(_:Bool)=_)|skip)|(refine wQ ?_;clear hQ hR hE hM)|fail)
  rw[←hg];rfl
end Go.Lev
namespace Go.Lev
open Go.Eng
set_option maxRecDepth 10000
set_option maxHeartbeats 4000000
variable {P:Program} {inv:Nat→Option Nat}
theorem zlo (hH:HasAll P inv) (l:List Flk) (h:l.length≤1000000):PC P inv 128 [.sl 2 (l.map Flk.c)] (·=.sl 2 (l.map Flk.c)):=by
 refine PC.fn hH cd128 fun w0 M Q hM hE hQ hR=>?_;dsimp only[cd128,qm,ql,qf,qi,qb,qc,qp,qv,qN,qT,qF,qt]at hQ ⊢
 (repeat' first|refine zaa [0,2,4] fun K hK=>?_|(refine hK.go ?_;clear hK K)|with_reducible exact wT|refine wA ?_|(refine wB (fun h=>?_) (fun h=>?_)<;>first|exact wN h|subst (h:(_:Bool)=_)|skip)|(refine wQ ?_;clear hQ hR hE hM)|fail)
 ·have h0:l.length=0:=by assumption
  obtain rfl:=List.length_eq_zero_iff.1 h0
  rfl
theorem zmr (hH:HasAll P inv) (r:Rte) (h:r.path.length≤1000000∧r.over.length≤1000000∧r.flanks.length≤1000000):PC P inv 99 [.agg r.c] (·=.agg r.c):=by
 refine PC.fn hH cd99 fun w0 M Q hM hE hQ hR=>?_;dsimp only[cd99,qm,ql,qf,qi,qb,qc,qp,qv,qN,qT,qF,qt]at hQ ⊢
 (repeat' first|refine zaa [0,1,2] fun K hK=>?_|(refine hK.go ?_;clear hK K)|with_reducible exact wT|refine wA ?_|(refine wB (fun h=>?_) (fun h=>?_)<;>first|exact wN h|subst (h:(_:Bool)=_)|skip)|(refine wQ ?_;clear hQ hR hE hM)|(refine zas hM (zds hH _ h.1) ?_;try (refine no_implicit_lambda% (st ?_);try with_reducible exact wT))|(refine zas hM (zds hH _ h.2.1) ?_;try (refine no_implicit_lambda% (st ?_);try with_reducible exact wT))|(refine zas hM (zlo hH _ h.2.2) ?_;try (refine no_implicit_lambda% (st ?_);try with_reducible exact wT))|fail)
theorem zls (hH:HasAll P inv) (hI:HasIds P inv) (p:Pln) (hp:Sm p) (n:Int):PC P inv 98 [.agg p.c,.sl 7 (p.routes.map Rte.c),.n n] (·=.tup [.agg (zeR p n).1.c,.n (zeR p n).2]):=by
 have c0:=zfW hH hI p hp
 have c1:=find_rte hH hI p.routes (Nat.le_trans hp.rte (by omega)) n
 cases ho:zce p with
 |false =>
  rw[show zbB p=8 by simp[zbB,ho]]at c0
  rw[show zeR p n=(Rte.z,8) by simp[zeR,ho]]
  refine PC.fn hH cd98 fun w0 M Q hM hE hQ hR=>?_;dsimp only[cd98,qm,ql,qf,qi,qb,qc,qp,qv,qN,qT,qF,qt]at hQ ⊢
  (repeat' first|refine zaa [0,1,2,3,6,7,8,9,10,11,15,25] fun K hK=>?_|(refine hK.go ?_;clear hK K)|with_reducible exact wT|refine wA ?_|(refine wB (fun h=>?_) (fun h=>?_)<;>first|exact wN h|subst (h:(_:Bool)=_)|skip)|(refine wQ ?_;clear hQ hR hE hM)|refine wC c0 ?_|fail)
  all_goals (first|rfl|omega)
 |true =>
  rw[show zbB p=0 by simp[zbB,ho]]at c0
  unfold zeR
  rw[if_pos ho]
  revert c1
  generalize (p.routes.find? fun x=>decide (x.id=n))=x
  intro c1
  cases x with
  |none =>
   refine PC.fn hH cd98 fun w0 M Q hM hE hQ hR=>?_;dsimp only[cd98,qm,ql,qf,qi,qb,qc,qp,qv,qN,qT,qF,qt]at hQ ⊢
   (have hX:=zA @Option.isSome_none.{0} (zA @Option.isSome_some.{0} (zA @Option.getD_none.{0} @Option.getD_some.{0}));(repeat' first|refine zaa [0,1,2,3,6,7,8,9,10,11,15,25] fun K hK=>?_|(refine hK.go ?_;clear hK K)|with_reducible exact wT|refine wA ?_|(refine wB (fun h=>?_) (fun h=>?_)<;>first|exact wN h|subst (h:(_:Bool)=_)|skip)|(refine wQ ?_;clear hQ hR hE hM)|refine wC c0 ?_|refine wC c1 ?_|fail);all_goals clear hX)
   all_goals (first|rfl|omega)
  |some r =>
   refine PC.fn hH cd98 fun w0 M Q hM hE hQ hR=>?_;dsimp only[cd98,qm,ql,qf,qi,qb,qc,qp,qv,qN,qT,qF,qt]at hQ ⊢
   (have hX:=zA @Option.isSome_none.{0} (zA @Option.isSome_some.{0} (zA @Option.getD_none.{0} @Option.getD_some.{0}));(repeat' first|refine zaa [0,1,2,3,6,7,8,9,10,11,15,25] fun K hK=>?_|(refine hK.go ?_;clear hK K)|with_reducible exact wT|refine wA ?_|(refine wB (fun h=>?_) (fun h=>?_)<;>first|exact wN h|subst (h:(_:Bool)=_)|skip)|(refine wQ ?_;clear hQ hR hE hM)|refine wC c0 ?_|refine wC c1 ?_|fail);all_goals clear hX)
   all_goals (first|rfl|omega)
theorem rteOf_sm (p:Pln) (n:Int):(zeR p n).1.path.length≤1000000∧(zeR p n).1.over.length≤1000000∧(zeR p n).1.flanks.length≤1000000:=by
 unfold zeR
 split
 ·rename_i ho
  split
  ·rename_i r h
   simp only[zce,Bool.and_eq_true,List.all_eq_true]at ho
   have h1:=ho.2.2.2.2 r (zdP h).1
   simp only[zft,zfs,Bool.and_eq_true,Bool.not_eq_true',decide_eq_false_iff_not]at h1
   dsimp only
   omega
  ·simp[Rte.z]
 ·simp[Rte.z]
theorem zjO (hH:HasAll P inv) (hI:HasIds P inv) (p:Pln) (hp:Sm p) (n:Int):PC P inv 89 [.agg p.c,.n n] (·=.tup [.agg (zeR p n).1.c,.n (zeR p n).2]):=by
 refine PC.fn hH cd89 fun w0 M Q hM hE hQ hR=>?_;dsimp only[cd89,qm,ql,qf,qi,qb,qc,qp,qv,qN,qT,qF,qt]at hQ ⊢
 (repeat' first|refine zaa [0,1,2,4,5,6,7] fun K hK=>?_|(refine hK.go ?_;clear hK K)|with_reducible exact wT|refine wA ?_|(refine wB (fun h=>?_) (fun h=>?_)<;>first|exact wN h|subst (h:(_:Bool)=_)|skip)|(refine wQ ?_;clear hQ hR hE hM)|refine wC (zls hH hI p hp n) ?_|(refine zas hM (zmr hH _ (rteOf_sm p n)) ?_;try (refine no_implicit_lambda% (st ?_);try with_reducible exact wT))|fail)
end Go.Lev
namespace Go.Lev
open Go.Eng
set_option maxRecDepth 10000
set_option maxHeartbeats 4000000
variable {P:Program} {inv:Nat→Option Nat} {w0:World} {M:Nat→Prop}
theorem znt (hH:HasAll P inv) (hI:HasIds P inv) (p:Pln) (hp:Sm p) (n:Int):PC P inv 76 [.agg p.c,.n n] (·=.tup [.agg (ofW p n).1.c,.n (ofW p n).2]):=by
 have c0:=zjO hH hI p hp n
 unfold ofW
 cases ho:zce p with
 |false =>
  rw[if_neg (by simp)]
  rw[show zeR p n=(Rte.z,8) by simp[zeR,ho]]at c0
  refine PC.fn hH cd76 fun w0 M Q hM hE hQ hR=>?_;dsimp only[cd76,qm,ql,qf,qi,qb,qc,qp,qv,qN,qT,qF,qt]at hQ ⊢
  (repeat' first|refine zaa [0,1,2,4,5,6,7,8,17] fun K hK=>?_|(refine hK.go ?_;clear hK K)|with_reducible exact wT|refine wA ?_|(refine wB (fun h=>?_) (fun h=>?_)<;>first|exact wN h|subst (h:(_:Bool)=_)|skip)|(refine wQ ?_;clear hQ hR hE hM)|refine wC c0 ?_|fail)
  all_goals first|rfl|(exfalso;contradiction)
 |true =>
  rw[if_pos rfl]
  unfold zeR at c0
  rw[if_pos ho]at c0
  cases hf:(p.routes.find? fun x=>decide (x.id=n)) with
  |none =>
   rw[hf]at c0
   dsimp only at c0 ⊢
   refine PC.fn hH cd76 fun w0 M Q hM hE hQ hR=>?_;dsimp only[cd76,qm,ql,qf,qi,qb,qc,qp,qv,qN,qT,qF,qt]at hQ ⊢
   (repeat' first|refine zaa [0,1,2,4,5,6,7,8,17] fun K hK=>?_|(refine hK.go ?_;clear hK K)|with_reducible exact wT|refine wA ?_|(refine wB (fun h=>?_) (fun h=>?_)<;>first|exact wN h|subst (h:(_:Bool)=_)|skip)|(refine wQ ?_;clear hQ hR hE hM)|refine wC c0 ?_|fail)
   all_goals first|rfl|(exfalso;contradiction)
  |some r =>
   rw[hf]at c0
   dsimp only at c0 ⊢
   have c1:=zlG hH p hp (zg9 ho) (zdP hf).1
   generalize zaj p r=W at c1 ⊢
   refine PC.fn hH cd76 fun w0 M Q hM hE hQ hR=>?_;dsimp only[cd76,qm,ql,qf,qi,qb,qc,qp,qv,qN,qT,qF,qt]at hQ ⊢
   (repeat' first|refine zaa [0,1,2,4,5,6,7,8,17] fun K hK=>?_|(refine hK.go ?_;clear hK K)|with_reducible exact wT|refine wA ?_|(refine wB (fun h=>?_) (fun h=>?_)<;>first|exact wN h|subst (h:(_:Bool)=_)|skip)|(refine wQ ?_;clear hQ hR hE hM)|refine wC c0 ?_|refine wC c1 ?_|fail)
end Go.Lev
namespace Go.Lev
open Go.Eng
set_option maxRecDepth 10000
set_option maxHeartbeats 4000000
variable {P:Program} {inv:Nat→Option Nat} {w0:World} {M:Nat→Prop}
theorem zoq (hH:HasAll P inv) (n:Int) (x:Switch):PC P inv 88 ([.agg x.c]++[.ip 1 [[.n n]] 0 0]) (·=.b (decide (x.id=n))):=by
 refine PC.fn hH cd88 fun w0 M Q hM hE hQ hR=>?_;dsimp only[cd88,qm,ql,qf,qi,qb,qc,qp,qv,qN,qT,qF,qt]at hQ ⊢
 (repeat' first|refine zaa [0,1,2,3] fun K hK=>?_|(refine hK.go ?_;clear hK K)|with_reducible exact wT|refine wA ?_|(refine wB (fun h=>?_) (fun h=>?_)<;>first|exact wN h|subst (h:(_:Bool)=_)|skip)|(refine wQ ?_;clear hQ hR hE hM)|fail)
theorem det_po (hH:HasAll P inv) (hI:HasIds P inv) (p:Pln) (hp:Sm p) (s:State) (hs:SmS s) (n v:Int) (he:zcG p s n v=0):PO P inv 74 [.agg p.c,.agg s.c,.n n,.n v] (.tup [zky 6 (setL s n v),.n 0]) (zkz 6 (setL s n v)):=by
 have hc:zae p s=0∧zk9 s n∧(0≤v∧v≤2):=by
  unfold zcG at he
  split at he
  ·rename_i h1
   split at he
   ·rename_i h2
    split at he
    ·rename_i h3;exact ⟨h1,h2,h3⟩
    ·cases he
   ·cases he
  ·rename_i h1;exact absurd he h1
 obtain ⟨hc,⟨t,ht,htn⟩,hv⟩:=hc
 have c0:=zbH hH hI p hp s hs
 rw[hc]at c0
 have c1:=zc3 hH s hs
 obtain ⟨h1,h2,h3⟩:=hs
 have c2:=zhh hH s.switches (fun x _=>zoq hH n x) (by omega)
 have hno:(s.switches.map Switch.id).Nodup:=by rw[zcT (zad hc).2.1];exact zcD (zao hc)
 rcases za3 Switch.id n s.switches with ⟨_,h4⟩|⟨k,hk,h4,h5⟩
 ·exact absurd htn (h4 t ht)
 ·rw[h4]at c2
  have e1:=zgg Switch.id n (fun t=>(⟨t.id,v,t.call⟩:Switch)) hno hk h5
  have e2:=zb7 (c:=Switch.c) (l:=s.switches) (k:=k) (i:=1) hk (by omega) (.i .i64 v) (⟨(nth s.switches k).id,v,(nth s.switches k).call⟩:Switch) rfl
  rw[e1]at e2
  unfold stV stR at c1
  refine PO.fn hH cd74 fun w0 M Q hM hE hQ hR=>?_;dsimp only[cd74,qm,ql,qf,qi,qb,qc,qp,qv,qN,qT,qF,qt]at hQ ⊢
  skip
  (have hX:=@e2;(repeat' first|refine zaa [0,1,2,3,4,5,6,8,9,10,11,16,26,33] fun K hK=>?_|(refine hK.go ?_;clear hK K)|with_reducible exact wT|refine wA ?_|(refine wB (fun h=>?_) (fun h=>?_)<;>first|exact wN h|subst (h:(_:Bool)=_)|skip)|(refine wQ ?_;clear hQ hR)|refine wC c0 ?_|refine wO c1 ?_|(refine AC.callK 30 (by omega) (by first|omega|exact wF|((refine no_implicit_lambda% (st ?_);try with_reducible exact wT);omega)) (zaq (F:=cd87) (hH.has _ _ rfl) (Nat.le_of_ble_eq_true rfl) fun Q hQ hR=>?_);dsimp only[cd87,qm,ql,qf,qi,qb,qc,qp,qv,qN,qT,qF,qt]at hQ ⊢;try (refine no_implicit_lambda% (st ?_);try with_reducible exact wT))|refine wS c2 ?_|fail);all_goals clear hX)
  all_goals (left;unfold zky zkz setL;dsimp only;rw[zcn];constructor)
  all_goals (refine no_implicit_lambda% (st ?_);try with_reducible exact wT)
theorem det_pc (hH:HasAll P inv) (hI:HasIds P inv) (p:Pln) (hp:Sm p) (s:State) (hs:SmS s) (n v:Int):PC P inv 74 [.agg p.c,.agg s.c,.n n,.n v] (·=.tup [.agg (detR p s n v).c,.n (zcG p s n v)]):=by
 unfold detR
 by_cases he:zcG p s n v=0
 ·have:=(det_po hH hI p hp s hs n v he).pc
  rw[zdW]at this
  rw[if_pos he,he]
  exact this
 ·rw[if_neg he]
  have c0:=zbH hH hI p hp s hs
  have c1:=zc3 hH s hs
  unfold zcG at he ⊢
  by_cases hc:zae p s=0
  ·rw[if_pos hc]at he ⊢
   rw[hc]at c0
   obtain ⟨h1,h2,h3⟩:=hs
   have c2:=zhh hH s.switches (fun x _=>zoq hH n x) (by omega)
   unfold stV stR at c1
   rcases za3 Switch.id n s.switches with ⟨h4,h5⟩|⟨k,hk,h4,h5⟩
   ·rw[if_neg (fun ⟨t,ht,e⟩=>h5 t ht e)]
    rw[h4]at c2
    refine PC.fn hH cd74 fun w0 M Q hM hE hQ hR=>?_;dsimp only[cd74,qm,ql,qf,qi,qb,qc,qp,qv,qN,qT,qF,qt]at hQ ⊢
    skip
    (repeat' first|refine zaa [0,1,2,3,4,5,6,8,9,10,11,16,26,33] fun K hK=>?_|(refine hK.go ?_;clear hK K)|with_reducible exact wT|refine wA ?_|(refine wB (fun h=>?_) (fun h=>?_)<;>first|exact wN h|subst (h:(_:Bool)=_)|skip)|(refine wQ ?_;clear hQ hR)|refine wC c0 ?_|refine wO c1 ?_|(refine AC.callK 30 (by omega) (by first|omega|exact wF|((refine no_implicit_lambda% (st ?_);try with_reducible exact wT);omega)) (zaq (F:=cd87) (hH.has _ _ rfl) (Nat.le_of_ble_eq_true rfl) fun Q hQ hR=>?_);dsimp only[cd87,qm,ql,qf,qi,qb,qc,qp,qv,qN,qT,qF,qt]at hQ ⊢;try (refine no_implicit_lambda% (st ?_);try with_reducible exact wT))|refine wS c2 ?_|fail)
    all_goals first|rfl|(exfalso;contradiction)|skip
   ·rw[if_pos ⟨_,zaf hk,h5⟩]at he ⊢
    rw[h4]at c2
    by_cases hv:0≤v∧v≤2
    ·rw[if_pos hv]at he;exact absurd rfl he
    ·rw[if_neg hv]
     refine PC.fn hH cd74 fun w0 M Q hM hE hQ hR=>?_;dsimp only[cd74,qm,ql,qf,qi,qb,qc,qp,qv,qN,qT,qF,qt]at hQ ⊢
     skip
     (repeat' first|refine zaa [0,1,2,3,4,5,6,8,9,10,11,16,26,33] fun K hK=>?_|(refine hK.go ?_;clear hK K)|with_reducible exact wT|refine wA ?_|(refine wB (fun h=>?_) (fun h=>?_)<;>first|exact wN h|subst (h:(_:Bool)=_)|skip)|(refine wQ ?_;clear hQ hR)|refine wC c0 ?_|refine wO c1 ?_|(refine AC.callK 30 (by omega) (by first|omega|exact wF|((refine no_implicit_lambda% (st ?_);try with_reducible exact wT);omega)) (zaq (F:=cd87) (hH.has _ _ rfl) (Nat.le_of_ble_eq_true rfl) fun Q hQ hR=>?_);dsimp only[cd87,qm,ql,qf,qi,qb,qc,qp,qv,qN,qT,qF,qt]at hQ ⊢;try (refine no_implicit_lambda% (st ?_);try with_reducible exact wT))|refine wS c2 ?_|fail)
     all_goals first|rfl|(exfalso;omega)|skip
  ·rw[if_neg hc]
   generalize zae p s=e at c0 hc ⊢
   refine PC.fn hH cd74 fun w0 M Q hM hE hQ hR=>?_;dsimp only[cd74,qm,ql,qf,qi,qb,qc,qp,qv,qN,qT,qF,qt]at hQ ⊢
   (repeat' first|refine zaa [0,1,2,3,4,5,6,8,9,10,11,16,26,33] fun K hK=>?_|(refine hK.go ?_;clear hK K)|with_reducible exact wT|refine wA ?_|(refine wB (fun h=>?_) (fun h=>?_)<;>first|exact wN h|subst (h:(_:Bool)=_)|skip)|(refine wQ ?_;clear hQ hR hE hM)|refine wC c0 ?_|fail)
   all_goals first|rfl|(exfalso;contradiction)|skip
end Go.Lev
namespace Go.Lev
open Go.Eng
theorem ofW_at {p:Pln} {s:State} (h:zae p s=0) {i:Nat} (hi:i<s.locks.length):ofW p (nth s.locks i).id=((zaj p (nth p.routes i)).1,0):=by
 obtain ⟨h1,h2,_⟩:=zad h
 obtain ⟨hok,hw,_⟩:=za0 h1
 have hl:=zap h2
 have hr:nth p.routes i∈p.routes:=zaf (by omega)
 have hl2:=zej h2 hi
 simp only[zcp,Bool.and_eq_true,decide_eq_true_eq]at hl2
 have hp:zce p=true:=by simp only[zbq,Bool.and_eq_true]at h1;exact h1.1
 unfold ofW
 rw[if_pos hp,hl2.1,zll Rte.id (zgL hok) hr]
 dsimp only
 rw[hw _ hr]
end Go.Lev
namespace Go.Lev
open Go.Eng
theorem isPnt_ix {p:Pln} {n:Int} (h:zhR p n=true):∃ k,k<p.points.length∧(nth p.points k).id=n:=by
 obtain ⟨x,hx,e⟩:=List.any_eq_true.1 h
 obtain ⟨k,hk,rfl⟩:=zfC hx
 exact ⟨k,hk,by simpa using e⟩
end Go.Lev
namespace Go.Lev
open Go.Eng
set_option maxRecDepth 10000
set_option maxHeartbeats 4000000
variable {P:Program} {inv:Nat→Option Nat} {w0:World} {M:Nat→Prop}
theorem zoz (hH:HasAll P inv) (l:List Lock) (v:Lock) (hl:l.length≤1000000000):PC P inv 265 [.sl 4 (l.map Lock.c),.agg v.c] (·=.n (zbn (fun x=>decide (v.id=x.id)&&(decide (v.phase=x.phase)&&(decide (v.gone=x.gone)&&decide (v.left=x.left)))) 0 l)):=by
 refine PC.fn hH cd265 fun w0 M Q hM hE hQ hR=>?_;dsimp only[cd265,qm,ql,qf,qi,qb,qc,qp,qv,qN,qT,qF,qt]at hQ ⊢
 (repeat' first|refine zaa [0,1,3,4,5,7,8,9,16] fun K hK=>?_|(refine hK.go ?_;clear hK K)|with_reducible exact wT|refine wA ?_|(refine wB (fun h=>?_) (fun h=>?_)<;>first|exact wN h|subst (h:(_:Bool)=_)|skip)|(refine wQ ?_;clear hQ hR hE hM)|fail)
 refine zat (ι:=Nat) [0,3,4,7,8] (fun z=>[(8,.n z)]) (fun _=>[]) (fun z=>z) (l.length) (fun z=>(zbn (fun x=>decide (v.id=x.id)&&(decide (v.phase=x.phase)&&(decide (v.gone=x.gone)&&decide (v.left=x.left)))) z (l.drop z)=zbn (fun x=>decide (v.id=x.id)&&(decide (v.phase=x.phase)&&(decide (v.gone=x.gone)&&decide (v.left=x.left)))) 0 l)) (0) ?_;rintro k ⟨hk,hg⟩;(try dsimp only at hk hg ⊢);rcases Nat.lt_or_ge k l.length with hlt|hge
 ·rw[zah hlt]at hg
  rw[zbn]at hg
  cases ht:(decide (v.id=(nth l k).id)&&(decide (v.phase=(nth l k).phase)&&(decide (v.gone=(nth l k).gone)&&decide (v.left=(nth l k).left)))) with
  |true =>
   rw[if_pos ht]at hg
   (have hX:=@ht;(repeat' first|refine zaa [0,1,3,4,5,7,8,9,16] fun K hK=>?_|(refine hK.go ?_;clear hK K)|with_reducible exact wT|refine wA ?_|(refine wB (fun h=>?_) (fun h=>?_)<;>first|exact wN h|subst (h:(_:Bool)=_)|skip)|(refine wQ ?_;clear hQ hR hE hM)|fail);all_goals clear hX)
   all_goals first|exact hg|(exfalso;contradiction)
  |false =>
   rw[if_neg (by rw[ht];simp)]at hg
   (have hX:=@ht;(repeat' first|refine zaa [0,1,3,4,5,7,8,9,16] fun K hK=>?_|(refine hK.go ?_;clear hK K)|with_reducible exact wT|refine wA ?_|(refine wB (fun h=>?_) (fun h=>?_)<;>first|exact wN h|subst (h:(_:Bool)=_)|skip)|(refine wQ ?_;clear hQ hR hE hM)|fail);all_goals clear hX)
   all_goals first|(exfalso;contradiction)|exact ⟨k+1,by omega,⟨by omega,hg⟩,by omega⟩
 ·rw[List.drop_eq_nil_of_le hge]at hg
  (repeat' first|refine zaa [0,1,3,4,5,7,8,9,16] fun K hK=>?_|(refine hK.go ?_;clear hK K)|with_reducible exact wT|refine wA ?_|(refine wB (fun h=>?_) (fun h=>?_)<;>first|exact wN h|subst (h:(_:Bool)=_)|skip)|(refine wQ ?_;clear hQ hR hE hM)|fail)
  rw[←hg];rfl
theorem has_lck (hH:HasAll P inv) (l:List Lock) (v:Lock) (hl:l.length≤1000000000):PC P inv 241 [.sl 4 (l.map Lock.c),.agg v.c] (·=.b (l.any fun x=>decide (v.id=x.id)&&(decide (v.phase=x.phase)&&(decide (v.gone=x.gone)&&decide (v.left=x.left))))):=by
 have c1:=zoz hH l v hl
 have e:=zex (fun x:Lock=>decide (v.id=x.id)&&(decide (v.phase=x.phase)&&(decide (v.gone=x.gone)&&decide (v.left=x.left)))) l
 revert c1 e
 generalize zbn (fun x:Lock=>decide (v.id=x.id)&&(decide (v.phase=x.phase)&&(decide (v.gone=x.gone)&&decide (v.left=x.left)))) 0 l=i
 generalize (l.any fun x=>decide (v.id=x.id)&&(decide (v.phase=x.phase)&&(decide (v.gone=x.gone)&&decide (v.left=x.left))))=t
 intro c1 e
 refine PC.fn hH cd241 fun w0 M Q hM hE hQ hR=>?_;dsimp only[cd241,qm,ql,qf,qi,qb,qc,qp,qv,qN,qT,qF,qt]at hQ ⊢
 (have hX:=@e;(repeat' first|refine zaa [0,1,3,4] fun K hK=>?_|(refine hK.go ?_;clear hK K)|with_reducible exact wT|refine wA ?_|(refine wB (fun h=>?_) (fun h=>?_)<;>first|exact wN h|subst (h:(_:Bool)=_)|skip)|(refine wQ ?_;clear hQ hR hE hM)|refine wC c1 ?_|fail);all_goals clear hX)
theorem hasSwt (hH:HasAll P inv) {jc:Nat} {caps:List AV} {q:Switch→Bool} (l:List Switch) (hc:∀ x∈l,PC P inv jc ([.agg x.c]++caps) (·=.b (q x))) (hl:l.length≤1000000000):PC P inv 238 [.sl 3 (l.map Switch.c),.fn jc caps] (·=.b (l.any q)):=by
 have c1:=zhh hH l hc hl
 have e:=zex q l
 refine PC.fn hH cd238 fun w0 M Q hM hE hQ hR=>?_;dsimp only[cd238,qm,ql,qf,qi,qb,qc,qp,qv,qN,qT,qF,qt]at hQ ⊢
 (have hX:=@e;(repeat' first|refine zaa [0,1,4] fun K hK=>?_|(refine hK.go ?_;clear hK K)|with_reducible exact wT|refine wA ?_|(refine wB (fun h=>?_) (fun h=>?_)<;>first|exact wN h|subst (h:(_:Bool)=_)|skip)|(refine wQ ?_;clear hQ hR hE hM)|refine wC c1 ?_|fail);all_goals clear hX)
theorem hasAsk (hH:HasAll P inv) {jc:Nat} {caps:List AV} {q:AskR→Bool} (l:List AskR) (hc:∀ x∈l,PC P inv jc ([.agg x.c]++caps) (·=.b (q x))) (hl:l.length≤1000000000):PC P inv 247 [.sl 3 (l.map AskR.c),.fn jc caps] (·=.b (l.any q)):=by
 have c1:=idx_ask hH l hc hl
 have e:=zex q l
 refine PC.fn hH cd247 fun w0 M Q hM hE hQ hR=>?_;dsimp only[cd247,qm,ql,qf,qi,qb,qc,qp,qv,qN,qT,qF,qt]at hQ ⊢
 (have hX:=@e;(repeat' first|refine zaa [0,1,4] fun K hK=>?_|(refine hK.go ?_;clear hK K)|with_reducible exact wT|refine wA ?_|(refine wB (fun h=>?_) (fun h=>?_)<;>first|exact wN h|subst (h:(_:Bool)=_)|skip)|(refine wQ ?_;clear hQ hR hE hM)|refine wC c1 ?_|fail);all_goals clear hX)
theorem hasSgn (hH:HasAll P inv) {jc:Nat} {caps:List AV} {q:Sgn→Bool} (l:List Sgn) (hc:∀ x∈l,PC P inv jc ([.agg x.c]++caps) (·=.b (q x))) (hl:l.length≤1000000000):PC P inv 215 [.sl 3 (l.map Sgn.c),.fn jc caps] (·=.b (l.any q)):=by
 have c1:=zoB hH l hc hl
 have e:=zex q l
 refine PC.fn hH cd215 fun w0 M Q hM hE hQ hR=>?_;dsimp only[cd215,qm,ql,qf,qi,qb,qc,qp,qv,qN,qT,qF,qt]at hQ ⊢
 (have hX:=@e;(repeat' first|refine zaa [0,1,4] fun K hK=>?_|(refine hK.go ?_;clear hK K)|with_reducible exact wT|refine wA ?_|(refine wB (fun h=>?_) (fun h=>?_)<;>first|exact wN h|subst (h:(_:Bool)=_)|skip)|(refine wQ ?_;clear hQ hR hE hM)|refine wC c1 ?_|fail);all_goals clear hX)
end Go.Lev
namespace Go.Lev
open Go.Eng
theorem swt_pnt {p:Pln} {s:State} (h:zal p s=true) {k:Nat} (hk:k<s.switches.length):(nth s.switches k).id=(nth p.points k).id:=by
 have:=(zcZ _ _ _).1 (by simp only[zal,Bool.and_eq_true]at h;exact h.2.1)
 have:=this.2 k hk
 simp only[ziw,Bool.and_eq_true,decide_eq_true_eq]at this
 exact this.1
end Go.Lev
namespace Go.Lev
open Go.Eng
theorem zoo {p:Pln} {n:Int} (h:∃ x∈p.points,x.id=n):zhR p n=true:=by
 obtain ⟨x,hx,e⟩:=h
 exact List.any_eq_true.2 ⟨x,hx,by simpa using e⟩
theorem zjY {p:Pln} (h:OkP p) {r:Rte} (hr:r∈p.routes) {a:AskR} (ha:a∈(zaj p r).1.asks):zhR p a.pnt=true:=zoo (zbv h hr ha).1
section
variable {p:Pln} {s:State} {n:Int} {i:Nat} (h:MaySet p s n i)
include h
end
end Go.Lev
namespace Go.Lev
open Go.Eng
set_option maxRecDepth 10000
set_option maxHeartbeats 4000000
variable {P:Program} {inv:Nat→Option Nat} {w0:World} {M:Nat→Prop}
section
variable (hH:HasAll P inv) (s:State) (hs:SmS s)
include hH hs
theorem pr236 (m:Int):PC P inv 236 ([.n m]++[.ip 3 [s.c] 0 0]) (·=.b (frT s m)):=by
 have c1:=zoF hH s.tracks ⟨m,0⟩ (by have:=hs.1;omega)
 rw[show (s.tracks.any fun x=>decide ((⟨m,0⟩:Track).id=x.id)&&decide ((⟨m,0⟩:Track).is=x.is))=frT s m from rfl]at c1
 refine PC.fn hH cd236 fun w0 M Q hM hE hQ hR=>?_;dsimp only[cd236,qm,ql,qf,qi,qb,qc,qp,qv,qN,qT,qF,qt]at hQ ⊢
 (repeat' first|refine zaa [0,1,3] fun K hK=>?_|(refine hK.go ?_;clear hK K)|with_reducible exact wT|refine wA ?_|(refine wB (fun h=>?_) (fun h=>?_)<;>first|exact wN h|subst (h:(_:Bool)=_)|skip)|(refine wQ ?_;clear hQ hR hE hM)|refine wC c1 ?_|fail)
theorem pr243 (m:Int):PC P inv 243 ([.n m]++[.ip 1 [[.fn 236 [.ip 3 [s.c] 0 0]]] 0 0]) (·=.b (!frT s m)):=by
 have c1:=pr236 hH s hs m
 refine PC.fn hH cd243 fun w0 M Q hM hE hQ hR=>?_;dsimp only[cd243,qm,ql,qf,qi,qb,qc,qp,qv,qN,qT,qF,qt]at hQ ⊢
 (repeat' first|refine zaa [0,1,3] fun K hK=>?_|(refine hK.go ?_;clear hK K)|with_reducible exact wT|refine wA ?_|(refine wB (fun h=>?_) (fun h=>?_)<;>first|exact wN h|subst (h:(_:Bool)=_)|skip)|(refine wQ ?_;clear hQ hR hE hM)|refine wC c1 ?_|fail)
theorem pr245 (m:Int):PC P inv 245 ([.n m]++[.ip 1 [[.fn 236 [.ip 3 [s.c] 0 0]]] 0 0]) (·=.b (!frT s m)):=by
 have c1:=pr236 hH s hs m
 refine PC.fn hH cd245 fun w0 M Q hM hE hQ hR=>?_;dsimp only[cd245,qm,ql,qf,qi,qb,qc,qp,qv,qN,qT,qF,qt]at hQ ⊢
 (repeat' first|refine zaa [0,1,3] fun K hK=>?_|(refine hK.go ?_;clear hK K)|with_reducible exact wT|refine wA ?_|(refine wB (fun h=>?_) (fun h=>?_)<;>first|exact wN h|subst (h:(_:Bool)=_)|skip)|(refine wQ ?_;clear hQ hR hE hM)|refine wC c1 ?_|fail)
omit hs in
theorem pr239 (a:AskR) (x:Switch):PC P inv 239 ([.agg x.c]++[.ip 3 [a.c] 0 0]) (·=.b (decide (x.id=a.pnt)&&decide (x.lie=a.lie))):=by
 refine PC.fn hH cd239 fun w0 M Q hM hE hQ hR=>?_;dsimp only[cd239,qm,ql,qf,qi,qb,qc,qp,qv,qN,qT,qF,qt]at hQ ⊢
 (repeat' first|refine zaa [0,1,2,3] fun K hK=>?_|(refine hK.go ?_;clear hK K)|with_reducible exact wT|refine wA ?_|(refine wB (fun h=>?_) (fun h=>?_)<;>first|exact wN h|subst (h:(_:Bool)=_)|skip)|(refine wQ ?_;clear hQ hR hE hM)|fail)
 all_goals (simp[*];done)
theorem pr237 (a:AskR):PC P inv 237 ([.agg a.c]++[.ip 3 [s.c] 0 0]) (·=.b (lieT s a)):=by
 have c1:=hasSwt hH s.switches (fun x _=>pr239 hH a x) (by have:=hs.2.1;omega)
 rw[show (s.switches.any fun x=>decide (x.id=a.pnt)&&decide (x.lie=a.lie))=lieT s a from rfl]at c1
 refine PC.fn hH cd237 fun w0 M Q hM hE hQ hR=>?_;dsimp only[cd237,qm,ql,qf,qi,qb,qc,qp,qv,qN,qT,qF,qt]at hQ ⊢
 (repeat' first|refine zaa [0,1,2,3] fun K hK=>?_|(refine hK.go ?_;clear hK K)|with_reducible exact wT|refine wA ?_|(refine wB (fun h=>?_) (fun h=>?_)<;>first|exact wN h|subst (h:(_:Bool)=_)|skip)|(refine wQ ?_;clear hQ hR hE hM)|refine wS c1 ?_|fail)
theorem pr248 (a:AskR):PC P inv 248 ([.agg a.c]++[.ip 1 [[.fn 237 [.ip 3 [s.c] 0 0]]] 0 0]) (·=.b (!lieT s a)):=by
 have c1:=pr237 hH s hs a
 refine PC.fn hH cd248 fun w0 M Q hM hE hQ hR=>?_;dsimp only[cd248,qm,ql,qf,qi,qb,qc,qp,qv,qN,qT,qF,qt]at hQ ⊢
 (repeat' first|refine zaa [0,1,2,3] fun K hK=>?_|(refine hK.go ?_;clear hK K)|with_reducible exact wT|refine wA ?_|(refine wB (fun h=>?_) (fun h=>?_)<;>first|exact wN h|subst (h:(_:Bool)=_)|skip)|(refine wQ ?_;clear hQ hR hE hM)|refine wC c1 ?_|fail)
theorem pr242 (w:WayR) (hw:w.path.length≤1000):PC P inv 242 [.ip 4 [w.c] 0 0,.ip 1 [[.fn 236 [.ip 3 [s.c] 0 0]]] 0 0] (·=.b (!(w.path.any fun m=>!frT s m))):=by
 have c1:=zoG hH w.path (fun x _=>pr243 hH s hs x) (by omega)
 refine PC.fn hH cd242 fun w0 M Q hM hE hQ hR=>?_;dsimp only[cd242,qm,ql,qf,qi,qb,qc,qp,qv,qN,qT,qF,qt]at hQ ⊢
 (repeat' first|refine zaa [0,1,2] fun K hK=>?_|(refine hK.go ?_;clear hK K)|with_reducible exact wT|refine wA ?_|(refine wB (fun h=>?_) (fun h=>?_)<;>first|exact wN h|subst (h:(_:Bool)=_)|skip)|(refine wQ ?_;clear hQ hR hE hM)|refine wC c1 ?_|fail)
theorem pr244 (w:WayR) (hw:w.over.length≤1000):PC P inv 244 [.ip 4 [w.c] 0 0,.ip 1 [[.fn 236 [.ip 3 [s.c] 0 0]]] 0 0] (·=.b (!(w.over.any fun m=>!frT s m))):=by
 have c1:=zoG hH w.over (fun x _=>pr245 hH s hs x) (by omega)
 refine PC.fn hH cd244 fun w0 M Q hM hE hQ hR=>?_;dsimp only[cd244,qm,ql,qf,qi,qb,qc,qp,qv,qN,qT,qF,qt]at hQ ⊢
 (repeat' first|refine zaa [0,1,2] fun K hK=>?_|(refine hK.go ?_;clear hK K)|with_reducible exact wT|refine wA ?_|(refine wB (fun h=>?_) (fun h=>?_)<;>first|exact wN h|subst (h:(_:Bool)=_)|skip)|(refine wQ ?_;clear hQ hR hE hM)|refine wC c1 ?_|fail)
theorem pr246 (w:WayR) (hw:w.asks.length≤1000):PC P inv 246 [.ip 4 [w.c] 0 0,.ip 1 [[.fn 237 [.ip 3 [s.c] 0 0]]] 0 0] (·=.b (!(w.asks.any fun a=>!lieT s a))):=by
 have c1:=hasAsk hH w.asks (fun x _=>pr248 hH s hs x) (by omega)
 refine PC.fn hH cd246 fun w0 M Q hM hE hQ hR=>?_;dsimp only[cd246,qm,ql,qf,qi,qb,qc,qp,qv,qN,qT,qF,qt]at hQ ⊢
 (repeat' first|refine zaa [0,1,2] fun K hK=>?_|(refine hK.go ?_;clear hK K)|with_reducible exact wT|refine wA ?_|(refine wB (fun h=>?_) (fun h=>?_)<;>first|exact wN h|subst (h:(_:Bool)=_)|skip)|(refine wQ ?_;clear hQ hR hE hM)|refine wC c1 ?_|fail)
theorem pr240 (n:Int):PC P inv 240 [.ip 3 [s.c] 0 0,.ip 1 [[.n n]] 0 0] (·=.b (zmz s n)):=by
 have c1:=has_lck hH s.locks ⟨n,1,0,0⟩ (by have:=hs.2.2;omega)
 rw[show (s.locks.any fun x=>decide ((⟨n,1,0,0⟩:Lock).id=x.id)&&(decide ((⟨n,1,0,0⟩:Lock).phase=x.phase)&&(decide ((⟨n,1,0,0⟩:Lock).gone=x.gone)&&decide ((⟨n,1,0,0⟩:Lock).left=x.left))))=zmz s n from rfl]at c1
 refine PC.fn hH cd240 fun w0 M Q hM hE hQ hR=>?_;dsimp only[cd240,qm,ql,qf,qi,qb,qc,qp,qv,qN,qT,qF,qt]at hQ ⊢
 (repeat' first|refine zaa [0,1,2] fun K hK=>?_|(refine hK.go ?_;clear hK K)|with_reducible exact wT|refine wA ?_|(refine wB (fun h=>?_) (fun h=>?_)<;>first|exact wN h|subst (h:(_:Bool)=_)|skip)|(refine wQ ?_;clear hQ hR hE hM)|refine wC c1 ?_|fail)
theorem zn0 (n:Int) (w:WayR) (h1:w.path.length≤1000) (h2:w.over.length≤1000) (h3:w.asks.length≤1000):PC P inv 228 [.agg s.c,.n n,.agg w.c] (·=.b (ziP s n w)):=by
 have c1:=pr240 hH s hs n
 have c2:=pr242 hH s hs w h1
 have c3:=pr244 hH s hs w h2
 have c4:=pr246 hH s hs w h3
 unfold ziP
 generalize zmz s n=b1 at *
 generalize (w.path.any fun m=>!frT s m)=b2 at *
 generalize (w.over.any fun m=>!frT s m)=b3 at *
 generalize (w.asks.any fun a=>!lieT s a)=b4 at *
 refine PC.fn hH cd228 fun w0 M Q hM hE hQ hR=>?_;dsimp only[cd228,qm,ql,qf,qi,qb,qc,qp,qv,qN,qT,qF,qt]at hQ ⊢
 (repeat' first|refine zaa [0,1,2,3,4,5,6,7,8,10,17,18,19,20,25] fun K hK=>?_|(refine hK.go ?_;clear hK K)|with_reducible exact wT|refine wA ?_|(refine wB (fun h=>?_) (fun h=>?_)<;>first|exact wN h|subst (h:(_:Bool)=_)|skip)|(refine wQ ?_;clear hQ hR hE hM)|fail)
 refine zat (ι:=Nat) [6,17,18,19] (fun z=>[(19,.n z)]) (fun _=>[]) (fun z=>z) (4) (fun z=>((([b1,!b2,!b3,!b4]:List Bool).drop z).all id=(b1&&(!b2&&(!b3&&!b4))))) (0) ?_;rintro k ⟨hk,hg⟩;(try dsimp only at hk hg ⊢);rcases Nat.lt_or_ge k 4 with hlt|hge
 ·obtain rfl|rfl|rfl|rfl:k=0∨k=1∨k=2∨k=3:=by omega
  ·cases b1
   ·(repeat' first|refine zaa [0,1,2,3,4,5,6,7,8,10,17,18,19,20,25] fun K hK=>?_|(refine hK.go ?_;clear hK K)|with_reducible exact wT|refine wA ?_|(refine wB (fun h=>?_) (fun h=>?_)<;>first|exact wN h|subst (h:(_:Bool)=_)|skip)|(refine wQ ?_;clear hQ hR hE hM)|refine wS c1 ?_|fail)
    all_goals first|rfl|(exfalso;contradiction)
   ·(repeat' first|refine zaa [0,1,2,3,4,5,6,7,8,10,17,18,19,20,25] fun K hK=>?_|(refine hK.go ?_;clear hK K)|with_reducible exact wT|refine wA ?_|(refine wB (fun h=>?_) (fun h=>?_)<;>first|exact wN h|subst (h:(_:Bool)=_)|skip)|(refine wQ ?_;clear hQ hR hE hM)|refine wS c1 ?_|fail)
    all_goals first|exact ⟨1,by omega,⟨by omega,by simp⟩,rfl⟩|(exfalso;contradiction)
  ·cases b2
   ·(repeat' first|refine zaa [0,1,2,3,4,5,6,7,8,10,17,18,19,20,25] fun K hK=>?_|(refine hK.go ?_;clear hK K)|with_reducible exact wT|refine wA ?_|(refine wB (fun h=>?_) (fun h=>?_)<;>first|exact wN h|subst (h:(_:Bool)=_)|skip)|(refine wQ ?_;clear hQ hR hE hM)|refine wS c2 ?_|fail)
    all_goals first|exact ⟨2,by omega,⟨by omega,by simpa using hg⟩,rfl⟩|(exfalso;contradiction)
   ·(repeat' first|refine zaa [0,1,2,3,4,5,6,7,8,10,17,18,19,20,25] fun K hK=>?_|(refine hK.go ?_;clear hK K)|with_reducible exact wT|refine wA ?_|(refine wB (fun h=>?_) (fun h=>?_)<;>first|exact wN h|subst (h:(_:Bool)=_)|skip)|(refine wQ ?_;clear hQ hR hE hM)|refine wS c2 ?_|fail)
    all_goals first|(simpa using hg)|(exfalso;contradiction)
  ·cases b3
   ·(repeat' first|refine zaa [0,1,2,3,4,5,6,7,8,10,17,18,19,20,25] fun K hK=>?_|(refine hK.go ?_;clear hK K)|with_reducible exact wT|refine wA ?_|(refine wB (fun h=>?_) (fun h=>?_)<;>first|exact wN h|subst (h:(_:Bool)=_)|skip)|(refine wQ ?_;clear hQ hR hE hM)|refine wS c3 ?_|fail)
    all_goals first|exact ⟨3,by omega,⟨by omega,by simpa using hg⟩,rfl⟩|(exfalso;contradiction)
   ·(repeat' first|refine zaa [0,1,2,3,4,5,6,7,8,10,17,18,19,20,25] fun K hK=>?_|(refine hK.go ?_;clear hK K)|with_reducible exact wT|refine wA ?_|(refine wB (fun h=>?_) (fun h=>?_)<;>first|exact wN h|subst (h:(_:Bool)=_)|skip)|(refine wQ ?_;clear hQ hR hE hM)|refine wS c3 ?_|fail)
    all_goals first|(simpa using hg)|(exfalso;contradiction)
  ·cases b4
   ·(repeat' first|refine zaa [0,1,2,3,4,5,6,7,8,10,17,18,19,20,25] fun K hK=>?_|(refine hK.go ?_;clear hK K)|with_reducible exact wT|refine wA ?_|(refine wB (fun h=>?_) (fun h=>?_)<;>first|exact wN h|subst (h:(_:Bool)=_)|skip)|(refine wQ ?_;clear hQ hR hE hM)|refine wS c4 ?_|fail)
    all_goals first|exact ⟨4,by omega,⟨by omega,by simpa using hg⟩,rfl⟩|(exfalso;contradiction)
   ·(repeat' first|refine zaa [0,1,2,3,4,5,6,7,8,10,17,18,19,20,25] fun K hK=>?_|(refine hK.go ?_;clear hK K)|with_reducible exact wT|refine wA ?_|(refine wB (fun h=>?_) (fun h=>?_)<;>first|exact wN h|subst (h:(_:Bool)=_)|skip)|(refine wQ ?_;clear hQ hR hE hM)|refine wS c4 ?_|fail)
    all_goals first|(simpa using hg)|(exfalso;contradiction)
 ·obtain rfl:k=4:=by omega
  (repeat' first|refine zaa [0,1,2,3,4,5,6,7,8,10,17,18,19,20,25] fun K hK=>?_|(refine hK.go ?_;clear hK K)|with_reducible exact wT|refine wA ?_|(refine wB (fun h=>?_) (fun h=>?_)<;>first|exact wN h|subst (h:(_:Bool)=_)|skip)|(refine wQ ?_;clear hQ hR hE hM)|fail)
  all_goals first|exact hg|(simpa using hg)|trace_state
end
end Go.Lev
namespace Go.Lev
open Go.Eng
set_option maxRecDepth 10000
set_option maxHeartbeats 4000000
variable {P:Program} {inv:Nat→Option Nat} {w0:World} {M:Nat→Prop}
theorem zg0 (hH:HasAll P inv) (hI:HasIds P inv) (p:Pln) (hp:Sm p) (s:State) (hs:SmS s):PC P inv 213 [.agg p.c,.agg s.c] (·=.tup [.sl 1 ((zfz p s).map bool1),.n (zae p s)]):=by
 have c0:=of_pc hH hI p hp s hs
 have hRl:=zhc p s
 have hRe:=ziS p s
 by_cases hst:zae p s=0
 ·have hok:=zao hst
  have hR:ofR p s=⟨(zaF p s).1,(zaF p s).2.1,zaM p,0⟩:=by unfold ofR;rw[if_pos hst]
  rw[hR]at c0 hRl
  dsimp only at c0 hRl
  rw[hst,show zfz p s=zes p s by unfold zfz;rw[if_pos hst]]
  have hc:∀ k,k<p.routes.length→PC P inv 228 [.agg s.c,.n (nth p.routes k).id,.agg (nth (zaM p) k).c] (·=.b (zc7 p s (nth p.routes k))):=fun k hk=>by
   have hl:=zcw hok (zaf hk)
   rw[show nth (zaM p) k=(zaj p (nth p.routes k)).1 from nthm _ hk]
   exact zn0 hH s hs _ _ hl.2.2.1 hl.2.2.2 hl.1
  have hwlen:(zaM p).length=p.routes.length:=by simp[zaM]
  have hrl:=hp.rte
  obtain ⟨f,hf⟩:∃ f,f=zc7 p s:=⟨_,rfl⟩
  rw[show zes p s=p.routes.map f by rw[hf];rfl]
  rw[←hf]at hc
  clear hf hok hst hR hRe
  generalize zaM p=ws at *
  generalize zaF p s=GR at *
  obtain ⟨H,A,B⟩:=GR
  dsimp only at *
  obtain ⟨G,Z,hg⟩:=zjk
  rw[←hg.eq]at c0
  have hfold:=hg.fold
  have hlen0:=hg.len (.s0 4) hg.zl hg.zl
  have hlen:=hg.len (.sl 4 (ws.map Way.c)) hRl.1 hRl.2
  have hov:=hg.ov (.s0 4) (.sl 4 (ws.map Way.c)) hg.zl hg.zl hRl.1 hRl.2
  have hbd0:=hg.bd0 Z Z
  have hbd:=hg.bd H A (ws.map Way.c)
  have hba:=hg.ba H A (ws.map Way.c)
  have hgw:=hg.get (.sl 4 (ws.map Way.c)) hRl.1 hRl.2
  clear hg
  refine PC.fn hH cd213 fun w0 M Q hM hE hQ hR=>?_;dsimp only[cd213,qm,ql,qf,qi,qb,qc,qp,qv,qN,qT,qF,qt]at hQ ⊢
  (have hX:=zA @hfold (zA @hlen0 (zA @hlen (zA @hov (zA @hbd0 (zA @hbd @hba)))));(repeat' first|refine zaa [0,1,2,3,4,5,6,7,8,16,19,20,21,22,37] fun K hK=>?_|(refine hK.go ?_;clear hK K)|with_reducible exact wT|refine wA ?_|(refine wB (fun h=>?_) (fun h=>?_)<;>first|exact wN h|subst (h:(_:Bool)=_)|skip)|(refine wQ ?_;clear hQ hR hE hM)|refine wC c0 ?_|fail);all_goals clear hX)
  all_goals first|(exfalso;contradiction)|skip
  refine AWp.empty 4 3 1 rfl (Nat.zero_le _) (by simp -dsimp -implicitDefEqProofs (disch:=omega) only[go_sem,reduceIte,↓reduceIte,Nat.reduceEqDiff,Nat.reduceLT,Nat.reduceLeDiff,Nat.reduceAdd,Nat.reduceSub,Nat.reduceMul,Int.reduceToNat,Int.reduceLT,Int.reduceLE,Int.reduceEq,Int.reduceNeg,Int.reduceNe,reduceCtorEq,hlen,hbd,hba]) (by simp -dsimp -implicitDefEqProofs (disch:=omega) only[go_sem,reduceIte,↓reduceIte,Nat.reduceEqDiff,Nat.reduceLT,Nat.reduceLeDiff,Nat.reduceAdd,Nat.reduceSub,Nat.reduceMul,Int.reduceToNat,Int.reduceLT,Int.reduceLE,Int.reduceEq,Int.reduceNeg,Int.reduceNe,reduceCtorEq,hlen,hbd,hba]) ?_
  simp -dsimp -implicitDefEqProofs (disch:=omega) only[go_sem,reduceIte,↓reduceIte,Nat.reduceEqDiff,Nat.reduceLT,Nat.reduceLeDiff,Nat.reduceAdd,Nat.reduceSub,Nat.reduceMul,Int.reduceToNat,Int.reduceLT,Int.reduceLE,Int.reduceEq,Int.reduceNeg,Int.reduceNe,reduceCtorEq,hlen,hbd,hba]
  refine zat (ι:=Nat×(List Bool)) [3,4,5,6,19,20,21] (fun z=>[(4,.sm 3 z.2.length 0 z.2.length 1),(21,.n z.1)]) (fun z=>[(3,.cells (z.2.map AV.b) (decide (0<z.2.length)))]) (fun z=>z.1) (p.routes.length) (fun z=>(z.2.length=z.1)∧(z.2++(p.routes.drop z.1).map f=p.routes.map f)) (0,([]:List Bool)) ?_;rintro ⟨k,bs⟩ ⟨hk,hl,hg⟩;(try dsimp only at hk hl hg ⊢);rcases Nat.lt_or_ge k p.routes.length with hlt|hge
  ·rw[zah hlt,List.map_cons]at hg
   have c1:=hc k hlt
   (have hX:=zA @hlen (zA @hbd (zA @hba @hgw));(repeat' first|refine zaa [0,1,2,3,4,5,6,7,8,16,19,20,21,22,37] fun K hK=>?_|(refine hK.go ?_;clear hK K)|with_reducible exact wT|refine wA ?_|(refine wB (fun h=>?_) (fun h=>?_)<;>first|exact wN h|subst (h:(_:Bool)=_)|skip)|(refine wQ ?_;clear hQ hR hE hM)|refine wC c1 ?_|fail);all_goals clear hX)
   refine ⟨(k+1,bs++[f (nth p.routes k)]),by dsimp only;omega,⟨by dsimp only;omega,by dsimp only;simp[hl],by dsimp only;rw[←hg];simp⟩,⟨by dsimp only;simp,by dsimp only;omega⟩,by dsimp only;simp⟩
  ·rw[List.drop_eq_nil_of_le hge,List.map_nil,List.append_nil]at hg
   (have hX:=zA @hlen (zA @hbd @hba);(repeat' first|refine zaa [0,1,2,3,4,5,6,7,8,16,19,20,21,22,37] fun K hK=>?_|(refine hK.go ?_;clear hK K)|with_reducible exact wT|refine wA ?_|(refine wB (fun h=>?_) (fun h=>?_)<;>first|exact wN h|subst (h:(_:Bool)=_)|skip)|(refine wQ ?_;clear hQ hR hE hM)|fail);all_goals clear hX)
   rw[hg]
 ·rw[show zfz p s=[] by unfold zfz;rw[if_neg hst]]
  rw[←hRe]at hst ⊢
  revert c0 hRl hst
  generalize ofR p s=R
  obtain ⟨G,Z,hg⟩:=zjk
  rw[←hg.eq]
  intro c0 hRl hst
  have hfold:=hg.fold
  have hlen0:=hg.len (.s0 4) hg.zl hg.zl
  have hlen:=hg.len (.sl 4 (R.ways.map Way.c)) hRl.1 hRl.2
  have hov:=hg.ov (.s0 4) (.sl 4 (R.ways.map Way.c)) hg.zl hg.zl hRl.1 hRl.2
  have hbd0:=hg.bd0 Z Z
  have hbd:=hg.bd R.hold R.ask (R.ways.map Way.c)
  have hba:=hg.ba R.hold R.ask (R.ways.map Way.c)
  refine PC.fn hH cd213 fun w0 M Q hM hE hQ hR=>?_;dsimp only[cd213,qm,ql,qf,qi,qb,qc,qp,qv,qN,qT,qF,qt]at hQ ⊢
  (have hX:=zA @hfold (zA @hlen0 (zA @hlen (zA @hov (zA @hbd0 (zA @hbd @hba)))));(repeat' first|refine zaa [0,1,2,3,4,5,6,7,8,16,19,20,21,22,37] fun K hK=>?_|(refine hK.go ?_;clear hK K)|with_reducible exact wT|refine wA ?_|(refine wB (fun h=>?_) (fun h=>?_)<;>first|exact wN h|subst (h:(_:Bool)=_)|skip)|(refine wQ ?_;clear hQ hR hE hM)|refine wC c0 ?_|fail);all_goals clear hX)
  all_goals first|rfl|(exfalso;contradiction)|skip
theorem is214_pc (hH:HasAll P inv) (n:Int) (x:Rte):PC P inv 214 ([.agg x.c]++[.ip 1 [[.n n]] 0 0]) (·=.b (decide (x.id=n))):=by
 refine PC.fn hH cd214 fun w0 M Q hM hE hQ hR=>?_;dsimp only[cd214,qm,ql,qf,qi,qb,qc,qp,qv,qN,qT,qF,qt]at hQ ⊢
 (repeat' first|refine zaa [0,1,2,3] fun K hK=>?_|(refine hK.go ?_;clear hK K)|with_reducible exact wT|refine wA ?_|(refine wB (fun h=>?_) (fun h=>?_)<;>first|exact wN h|subst (h:(_:Bool)=_)|skip)|(refine wQ ?_;clear hQ hR hE hM)|fail)
theorem is216_pc (hH:HasAll P inv) (n:Int) (x:Sgn):PC P inv 216 ([.agg x.c]++[.ip 1 [[.n n]] 0 0]) (·=.b (decide (x.id=n))):=by
 refine PC.fn hH cd216 fun w0 M Q hM hE hQ hR=>?_;dsimp only[cd216,qm,ql,qf,qi,qb,qc,qp,qv,qN,qT,qF,qt]at hQ ⊢
 (repeat' first|refine zaa [0,1,2,3] fun K hK=>?_|(refine hK.go ?_;clear hK K)|with_reducible exact wT|refine wA ?_|(refine wB (fun h=>?_) (fun h=>?_)<;>first|exact wN h|subst (h:(_:Bool)=_)|skip)|(refine wQ ?_;clear hQ hR hE hM)|fail)
theorem ziQ (hH:HasAll P inv) (hI:HasIds P inv) (p:Pln) (hp:Sm p) (s:State) (hs:SmS s) (n:Int):PC P inv 198 [.agg p.c,.agg s.c,.n n] (·=.tup [.b (decide (prC p s n=0)&&prR p s n),.n (prC p s n)]):=by
 have c0:=zg0 hH hI p hp s hs
 have c1:=zoC hH p.routes (fun x _=>is214_pc hH n x) (Nat.le_trans hp.rte (by omega))
 have hrl:=hp.rte
 unfold prC prR
 by_cases hst:zae p s=0
 ·rw[hst]at c0
  simp only[if_pos hst]
  rw[show zfz p s=zes p s by unfold zfz;rw[if_pos hst]]at c0
  have hix:rtIx p n=zbn (fun x=>decide (Rte.id x=n)) 0 p.routes:=rfl
  rcases za3 Rte.id n p.routes with ⟨h4,_⟩|⟨i,hi,h4,h5⟩
  ·rw[h4]at c1 hix
   rw[hix]
   generalize zes p s=bs at *
   refine PC.fn hH cd198 fun w0 M Q hM hE hQ hR=>?_;dsimp only[cd198,qm,ql,qf,qi,qb,qc,qp,qv,qN,qT,qF,qt]at hQ ⊢
   (repeat' first|refine zaa [0,1,2,3,4,5,6,7,8,9,10,18,25] fun K hK=>?_|(refine hK.go ?_;clear hK K)|with_reducible exact wT|refine wA ?_|(refine wB (fun h=>?_) (fun h=>?_)<;>first|exact wN h|subst (h:(_:Bool)=_)|skip)|(refine wQ ?_;clear hQ hR hE hM)|refine wC c0 ?_|refine wS c1 ?_|fail)
   all_goals first|rfl|(exfalso;contradiction)|skip
  ·rw[h4]at c1 hix
   rw[hix,if_neg (show ¬((i:Nat):Int)<0 by omega),if_neg (show ¬((i:Nat):Int)<0 by omega),Int.toNat_natCast]
   have hl:(zes p s).length=p.routes.length:=by simp[zes]
   have hn:nth (zes p s) i=zc7 p s (nth p.routes i):=nthm _ hi
   rw[←hn]
   generalize zes p s=bs at *
   refine PC.fn hH cd198 fun w0 M Q hM hE hQ hR=>?_;dsimp only[cd198,qm,ql,qf,qi,qb,qc,qp,qv,qN,qT,qF,qt]at hQ ⊢
   (repeat' first|refine zaa [0,1,2,3,4,5,6,7,8,9,10,18,25] fun K hK=>?_|(refine hK.go ?_;clear hK K)|with_reducible exact wT|refine wA ?_|(refine wB (fun h=>?_) (fun h=>?_)<;>first|exact wN h|subst (h:(_:Bool)=_)|skip)|(refine wQ ?_;clear hQ hR hE hM)|refine wC c0 ?_|refine wS c1 ?_|fail)
   all_goals first|rfl|(exfalso;contradiction)|(exfalso;omega)|simp
 ·simp only[if_neg hst]
  rw[show zfz p s=[] by unfold zfz;rw[if_neg hst]]at c0
  generalize zae p s=e at c0 hst ⊢
  refine PC.fn hH cd198 fun w0 M Q hM hE hQ hR=>?_;dsimp only[cd198,qm,ql,qf,qi,qb,qc,qp,qv,qN,qT,qF,qt]at hQ ⊢
  (repeat' first|refine zaa [0,1,2,3,4,5,6,7,8,9,10,18,25] fun K hK=>?_|(refine hK.go ?_;clear hK K)|with_reducible exact wT|refine wA ?_|(refine wB (fun h=>?_) (fun h=>?_)<;>first|exact wN h|subst (h:(_:Bool)=_)|skip)|(refine wQ ?_;clear hQ hR hE hM)|refine wC c0 ?_|fail)
  all_goals first|rfl|(exfalso;contradiction)|simp[hst]
theorem zcV (hH:HasAll P inv) (hI:HasIds P inv) (p:Pln) (hp:Sm p) (s:State) (hs:SmS s) (n:Int):PC P inv 199 [.agg p.c,.agg s.c,.n n] (·=.tup [.b (decide (sgC p s n=0)&&goB p s n),.n (sgC p s n)]):=by
 have c0:=zg0 hH hI p hp s hs
 have c1:=hasSgn hH p.signals (fun x _=>is216_pc hH n x) (Nat.le_trans hp.sgn (by omega))
 rw[show (p.signals.any fun x=>decide (x.id=n))=isSgn p n from rfl]at c1
 have hrl:=hp.rte
 unfold sgC
 by_cases hst:zae p s=0
 ·rw[hst]at c0
  simp only[if_pos hst]
  rw[show zfz p s=zes p s by unfold zfz;rw[if_pos hst]]at c0
  cases ht:isSgn p n with
  |false =>
   rw[ht]at c1
   generalize zes p s=bs at *
   refine PC.fn hH cd199 fun w0 M Q hM hE hQ hR=>?_;dsimp only[cd199,qm,ql,qf,qi,qb,qc,qp,qv,qN,qT,qF,qt]at hQ ⊢
   (repeat' first|refine zaa [0,1,2,3,4,5,6,7,8,9,10,11,19,25,27,28,29,30,43] fun K hK=>?_|(refine hK.go ?_;clear hK K)|with_reducible exact wT|refine wA ?_|(refine wB (fun h=>?_) (fun h=>?_)<;>first|exact wN h|subst (h:(_:Bool)=_)|skip)|(refine wQ ?_;clear hQ hR hE hM)|refine wC c0 ?_|refine wS c1 ?_|fail)
   all_goals first|rfl|(exfalso;contradiction)|skip
  |true =>
   rw[ht]at c1
   have hl:(zes p s).length=p.routes.length:=by simp[zes]
   have hn:∀ i,i<p.routes.length→nth (zes p s) i=zc7 p s (nth p.routes i):=fun i hi=>nthm _ hi
   unfold goB
   generalize zes p s=bs at *
   generalize zc7 p s=f at *
   refine PC.fn hH cd199 fun w0 M Q hM hE hQ hR=>?_;dsimp only[cd199,qm,ql,qf,qi,qb,qc,qp,qv,qN,qT,qF,qt]at hQ ⊢
   (repeat' first|refine zaa [0,1,2,3,4,5,6,7,8,9,10,11,19,25,27,28,29,30,43] fun K hK=>?_|(refine hK.go ?_;clear hK K)|with_reducible exact wT|refine wA ?_|(refine wB (fun h=>?_) (fun h=>?_)<;>first|exact wN h|subst (h:(_:Bool)=_)|skip)|(refine wQ ?_;clear hQ hR hE hM)|refine wC c0 ?_|refine wS c1 ?_|fail)
   all_goals first|(exfalso;contradiction)|skip
   refine zat (ι:=Nat) [5,6,7,8,27,28,29] (fun z=>[(29,.n z)]) (fun _=>[]) (fun z=>z) (p.routes.length) (fun z=>(((p.routes.drop z).any fun r=>decide (r.entry=n)&&f r)=(p.routes.any fun r=>decide (r.entry=n)&&f r))) (0) ?_;rintro k ⟨hk,hg⟩;(try dsimp only at hk hg ⊢);rcases Nat.lt_or_ge k p.routes.length with hlt|hge
   ·rw[zah hlt,List.any_cons]at hg
    have hn:=hn k hlt
    by_cases h1:(nth p.routes k).entry=n
    ·have h2:decide ((nth p.routes k).entry=n)=true:=decide_eq_true h1
     rw[h2,Bool.true_and]at hg
     cases h3:f (nth p.routes k) with
     |true =>
      rw[h3]at hn hg
      (have hX:=zA @h2 @hn;(repeat' first|refine zaa [0,1,2,3,4,5,6,7,8,9,10,11,19,25,27,28,29,30,43] fun K hK=>?_|(refine hK.go ?_;clear hK K)|with_reducible exact wT|refine wA ?_|(refine wB (fun h=>?_) (fun h=>?_)<;>first|exact wN h|subst (h:(_:Bool)=_)|skip)|(refine wQ ?_;clear hQ hR hE hM)|fail);all_goals clear hX)
      all_goals first|(exfalso;contradiction)|(simpa using hg)
     |false =>
      rw[h3]at hn hg
      (have hX:=zA @h2 @hn;(repeat' first|refine zaa [0,1,2,3,4,5,6,7,8,9,10,11,19,25,27,28,29,30,43] fun K hK=>?_|(refine hK.go ?_;clear hK K)|with_reducible exact wT|refine wA ?_|(refine wB (fun h=>?_) (fun h=>?_)<;>first|exact wN h|subst (h:(_:Bool)=_)|skip)|(refine wQ ?_;clear hQ hR hE hM)|fail);all_goals clear hX)
      all_goals first|(exfalso;contradiction)|exact ⟨k+1,by omega,⟨by omega,by simpa using hg⟩,by omega⟩
    ·have h2:decide ((nth p.routes k).entry=n)=false:=decide_eq_false h1
     rw[h2,Bool.false_and,Bool.false_or]at hg
     (have hX:=@h2;(repeat' first|refine zaa [0,1,2,3,4,5,6,7,8,9,10,11,19,25,27,28,29,30,43] fun K hK=>?_|(refine hK.go ?_;clear hK K)|with_reducible exact wT|refine wA ?_|(refine wB (fun h=>?_) (fun h=>?_)<;>first|exact wN h|subst (h:(_:Bool)=_)|skip)|(refine wQ ?_;clear hQ hR hE hM)|fail);all_goals clear hX)
     all_goals first|(exfalso;contradiction)|exact ⟨k+1,by omega,⟨by omega,hg⟩,by omega⟩
   ·rw[List.drop_eq_nil_of_le hge,List.any_nil]at hg
    (repeat' first|refine zaa [0,1,2,3,4,5,6,7,8,9,10,11,19,25,27,28,29,30,43] fun K hK=>?_|(refine hK.go ?_;clear hK K)|with_reducible exact wT|refine wA ?_|(refine wB (fun h=>?_) (fun h=>?_)<;>first|exact wN h|subst (h:(_:Bool)=_)|skip)|(refine wQ ?_;clear hQ hR hE hM)|fail)
    all_goals first|(rw[←hg];rfl)|(simp[←hg])
 ·simp only[if_neg hst]
  rw[show zfz p s=[] by unfold zfz;rw[if_neg hst]]at c0
  generalize zae p s=e at c0 hst ⊢
  refine PC.fn hH cd199 fun w0 M Q hM hE hQ hR=>?_;dsimp only[cd199,qm,ql,qf,qi,qb,qc,qp,qv,qN,qT,qF,qt]at hQ ⊢
  (repeat' first|refine zaa [0,1,2,3,4,5,6,7,8,9,10,11,19,25,27,28,29,30,43] fun K hK=>?_|(refine hK.go ?_;clear hK K)|with_reducible exact wT|refine wA ?_|(refine wB (fun h=>?_) (fun h=>?_)<;>first|exact wN h|subst (h:(_:Bool)=_)|skip)|(refine wQ ?_;clear hQ hR hE hM)|refine wC c0 ?_|fail)
  all_goals first|rfl|(exfalso;contradiction)|simp[hst]
end Go.Lev
namespace Go.Lev
open Go.Eng
theorem setLk_at {p:Pln} {s:State} (h:zae p s=0) {i:Nat} (hi:i<s.locks.length):zmz s (nth s.locks i).id=true↔(nth s.locks i).phase=1:=by
 unfold zmz
 rw[List.any_eq_true]
 constructor
 ·rintro ⟨x,hx,e⟩
  simp only[Bool.and_eq_true,decide_eq_true_eq]at e
  obtain ⟨j,hj,rfl⟩:=zfC hx
  obtain rfl:=zi1 h hi hj e.1
  exact e.2.1.symm
 ·intro e
  have h2:=zej (zad h).2.1 hi
  simp only[zcp,zaA,e,Bool.and_eq_true]at h2
  have h3:=h2.2
  simp at h3
  exact ⟨_,zaf hi,by simp[e,h3.1,h3.2]⟩
theorem zoj {p:Pln} {s:State} (h:zae p s=0) {a:AskR} (ha:zhR p a.pnt=true):lieT s a=true↔∀ k,k<s.switches.length→(nth s.switches k).id=a.pnt→(nth s.switches k).lie=a.lie:=by
 have ho:=zao h
 have hpa:=(zad h).2.1
 have hpl:=zap hpa
 obtain ⟨m,hm,em⟩:=isPnt_ix ha
 have hms:m<s.switches.length:=by omega
 have hnd:(s.switches.map Switch.id).Nodup:=by rw[zcT hpa];exact zcD ho
 have es:(nth s.switches m).id=a.pnt:=by rw[swt_pnt hpa hms,em]
 unfold lieT
 rw[List.any_eq_true]
 constructor
 ·rintro ⟨x,hx,e⟩ k hk ek
  simp only[Bool.and_eq_true,decide_eq_true_eq]at e
  obtain ⟨j,hj,rfl⟩:=zfC hx
  obtain rfl:=zk2 Switch.id hnd hj hk (e.1.trans ek.symm)
  exact e.2
 ·intro e
  refine ⟨_,zaf hms, ?_⟩
  simp only[Bool.and_eq_true,decide_eq_true_eq]
  exact ⟨es,e m hms es⟩
theorem rt_id {p:Pln} {s:State} (h:zal p s=true) {i:Nat} (hi:i<s.locks.length):(nth p.routes i).id=(nth s.locks i).id:=by
 have hl2:=zej h hi
 simp only[zcp,Bool.and_eq_true,decide_eq_true_eq]at hl2
 exact hl2.1.symm
theorem zkX {p:Pln} {s:State} (h:zae p s=0) {i:Nat} (hi:i<p.routes.length):zc7 p s (nth p.routes i)=true↔Prvd p s i:=by
 have ho:=zao h
 have hpa:=(zad h).2.1
 have hpl:=zap hpa
 have hr:nth p.routes i∈p.routes:=zaf hi
 unfold zc7 ziP
 rw[rt_id hpa (by omega)]
 simp only[Bool.and_eq_true,Bool.not_eq_true',List.any_eq_false,Bool.not_eq_false]
 rw[setLk_at h (by omega)]
 constructor
 ·rintro ⟨h1,h2,h3,h4⟩
  refine ⟨h1,fun x hx=>?_,fun a ha=>?_⟩
  ·have:frT s x=true:=by
    rcases List.mem_append.1 hx with h5|h5
    ·simpa using h2 x h5
    ·simpa using h3 x h5
   rw[zj0 ho hpa,decide_eq_true_eq]at this
   exact this
  ·have:lieT s a=true:=by simpa using h4 a ha
   exact (zoj h (zjY ho hr ha)).1 this
 ·rintro ⟨h1,h2,h3⟩
  have hf:∀ x∈zbx p i,frT s x=true:=fun x hx=>by rw[zj0 ho hpa,decide_eq_true_eq];exact h2 x hx
  refine ⟨h1,fun x hx=>?_,fun x hx=>?_,fun a ha=>?_⟩
  ·simp[hf x (List.mem_append.2 (.inl hx))]
  ·simp[hf x (List.mem_append.2 (.inr hx))]
  ·simp[(zoj h (zjY ho hr ha)).2 (h3 a ha)]
end Go.Lev
namespace Go.Lev
open Go.Eng
theorem zgj {p:Pln} {s:State} {i:Nat} (h:zae p s=0) (hi:i<p.routes.length):nth (nth p.routes i).path 0∈zbx p i:=by
 have hr:nth p.routes i∈p.routes:=zaf hi
 have h0:=(zcj (zao h) hr).1
 have hwp:=zbG ((za0 (zad h).1).2.1 _ hr)
 unfold zbx
 rw[hwp.1]
 exact List.mem_append.2 (.inl (zaf (by omega)))
theorem zlP {p:Pln} {w:Wk} {id:Int} {s:Section} (h:zhO p w id=some s):w.inn.to=id:=by
 unfold zhO at h
 split at h
 ·assumption
 ·cases h
theorem zep {p:Pln} {w:Wk} {s i:Int} {R:Int→Join→Bool} (h:(zaE p w s i R).lost=false):w.inn.to=s:=by
 unfold zaE at h
 split at h
 ·rename_i h1;rw[h1]at h;cases h
 ·split at h
  ·cases h
  ·rename_i h2;exact zlP h2
theorem stayW_in {p:Pln} {w:Wk} {s i:Int} (h:(zee p w s i).lost=false):w.inn.to=s:=by
 unfold zee at h
 split at h
 ·cases h
 ·rename_i h2;exact zlP h2
theorem stepW_in {p:Pln} {r:Rte} {y:Sgn} {all:List Int} {i:Nat} {s:Int} {w:Wk} (h:(zfn p r y all i s w).lost=false):w.inn.to=s:=by
 unfold zfn at h
 split at h
 ·exact zep h
 ·split at h
  ·exact zep h
  ·split at h
   ·exact stayW_in h
   ·exact zep h
theorem zjS {p:Pln} {r:Rte} (h:(zaj p r).2.2=0) (h0:0<r.path.length):nth r.path 0=(inOf p r.entry).to:=by
 unfold zaj at h
 split at h
 ·cases h
 ·rename_i hl
  have hl:(zgu p r).lost=false:=by simpa using hl
  unfold zgu at hl
  generalize hall:r.path++r.over=all at hl
  have hle:r.path.length≤all.length:=by rw[←hall];simp
  cases all with
  |nil =>
   have h3:r.path.length≤0:=hle
   omega
  |cons x l =>
   rw[zca]at hl
   have h1:=(zfm hle l 1 _ (by rw[List.length_cons];omega) hl).1
   have h2:=stepW_in h1
   dsimp only at h2
   have h3:nth r.path 0=x:=by
    cases hp:r.path with
    |nil=>rw[hp]at h0;simp at h0
    |cons y l2=>rw[hp]at hall;simp at hall;exact hall.1
   rw[h3]
   exact h2.symm
theorem prv_one {p:Pln} {s:State} {i j:Nat} (h:zae p s=0) (hi:i<p.routes.length) (hj:j<p.routes.length) (ei:zc7 p s (nth p.routes i)=true) (ej:zc7 p s (nth p.routes j)=true) (he:(nth p.routes i).entry=(nth p.routes j).entry):i=j:=by
 have hl:=zap (zad h).2.1
 have gi:=((zkX h hi).1 ei).hd h hi
 have gj:=((zkX h hj).1 ej).hd h hj
 have hw:=(za0 (zad h).1).2.1
 have ho:=zao h
 have e1:=zjS (hw _ (zaf hi)) (by have:=(zcj ho (zaf hi)).1;omega)
 have e2:=zjS (hw _ (zaf hj)) (by have:=(zcj ho (zaf hj)).1;omega)
 rcases Nat.lt_trichotomy i j with hlt|rfl|hlt
 ·exfalso
  have h3:=(zcy.1 h).2.2.1 i j (by omega) (by omega) (by omega)
  rw[gi,gj]at h3
  refine h3 _ (zgj h hi) ?_
  rw[e1,he,←e2]
  exact zgj h hj
 ·rfl
 ·exfalso
  have h3:=(zcy.1 h).2.2.1 i j (by omega) (by omega) (by omega)
  rw[gi,gj]at h3
  refine h3 _ (zgj h hi) ?_
  rw[e1,he,←e2]
  exact zgj h hj
theorem zoM (p:Pln) (s:State) (n:Int):goB p s n=true↔∃ i,i<p.routes.length∧(nth p.routes i).entry=n∧zc7 p s (nth p.routes i)=true:=by
 unfold goB
 rw[List.any_eq_true]
 constructor
 ·rintro ⟨r,hr,e⟩
  obtain ⟨i,hi,rfl⟩:=zfC hr
  simp only[Bool.and_eq_true,decide_eq_true_eq]at e
  exact ⟨i,hi,e⟩
 ·rintro ⟨i,hi,e⟩
  exact ⟨_,zaf hi,by simpa using e⟩
theorem sgn_at {p:Pln} {i:Nat} (hi:i<p.signals.length):isSgn p (nth p.signals i).id=true:=List.any_eq_true.2 ⟨_,zaf hi,by simp⟩
theorem ix_rte {p:Pln} (ho:OkP p) {m:Nat} (hm:m<p.routes.length):zbn (fun x=>decide (Rte.id x=(nth p.routes m).id)) 0 p.routes=(m:Int):=by
 rcases za3 Rte.id (nth p.routes m).id p.routes with ⟨_,h4⟩|⟨k,hk,h4,h5⟩
 ·exact absurd rfl (h4 _ (zaf hm))
 ·rw[h4,zk2 Rte.id (zgL ho) hk hm h5]
theorem int_gt {l:List Int} {k:Nat} (h:k<l.length):(l.map zew).flatten[k]?=some (.n (nth l k)):=by
 have:=zmc (c:=zew) (l:=l) (k:=k) (i:=0) h (by omega)
 rw[Nat.mul_one,Nat.add_zero]at this
 rw[this]
 rfl
end Go.Lev
namespace Go.Lev
open Go.Eng
theorem zgr (f:Nat→Bool):∀ k,0≤zhV f k∧(zhV f k=0↔∀ j,j<k→f j=false)
 |0=>⟨Int.le_refl _,fun _ j hj=>by omega,fun _=>rfl⟩
 |k+1=>by
  obtain ⟨h1,h2⟩:=zgr f k
  rw[zhV]
  cases hf:f k with
  |true =>
   rw[if_pos rfl]
   refine ⟨by omega,fun e=>by omega,fun e=>?_⟩
   have:=e k (by omega)
   rw[hf]at this
   cases this
  |false =>
   rw[if_neg (by decide)]
   refine ⟨h1,fun e j hj=>?_,fun e=>h2.2 fun j hj=>e j (by omega)⟩
   rcases Nat.lt_or_ge j k with h3|h3
   ·exact h2.1 e j h3
   ·obtain rfl:j=k:=by omega
    exact hf
theorem zo2 (f:Nat→Bool):∀ k,zhV f k≤k
 |0=>Int.le_refl _
 |k+1=>by
  have:=zo2 f k
  rw[zhV]
  split<;>omega
end Go.Lev
namespace Go.Lev
open Go.Eng
set_option maxRecDepth 10000
set_option maxHeartbeats 4000000
variable {P:Program} {inv:Nat→Option Nat} {w0:World} {M:Nat→Prop}
theorem zm1 {p:Pln} {s:State} {n v:Int} (h:zae p s=0):zcG p s n v=0↔zk9 s n∧(0≤v∧v≤2):=by
 unfold zcG
 rw[if_pos h]
 by_cases h1:zk9 s n
 ·rw[if_pos h1]
  by_cases h2:0≤v∧v≤2
  ·rw[if_pos h2];simp[h1,h2]
  ·rw[if_neg h2];simp[h2]
 ·rw[if_neg h1];simp[h1]
end Go.Lev
namespace Go.Lev
open Go.Eng
set_option maxRecDepth 10000
set_option maxHeartbeats 4000000
variable {P:Program} {inv:Nat→Option Nat} {w0:World} {M:Nat→Prop}
theorem zjP (hH:HasAll P inv):PC P inv 197 [] (·=.agg zcf.c):=by
 have h:PC P inv 197 [] (·=.agg [.n 1,.n 0,.sl 3 (zcf.sections.map Section.c),.sl 2 (zcf.points.map Pnt.c),.sl 3 (zcf.signals.map Sgn.c),.sl 7 [[.n 1,.n 1,.n 0,.sl 1 [[.n 2],[.n 3]],.s0 1,.s0 2,.n 3],[.n 2,.n 1,.n 0,.sl 1 [[.n 2],[.n 4]],.s0 1,.s0 2,.n 4]]]):=by
  refine PC.fn hH cd197 fun w0 M Q hM hE hQ hR=>?_;dsimp only[cd197,qm,ql,qf,qi,qb,qc,qp,qv,qN,qT,qF,qt]at hQ ⊢
  (repeat' first|refine zaa [0] fun K hK=>?_|(refine hK.go ?_;clear hK K)|with_reducible exact wT|refine wA ?_|(refine wB (fun h=>?_) (fun h=>?_)<;>first|exact wN h|subst (h:(_:Bool)=_)|skip)|(refine wQ ?_;clear hQ hR hE hM)|fail)
  rfl
 exact h.nzr
theorem zmJ (hH:HasAll P inv) (hI:HasIds P inv):PC P inv 196 [] (·=.tup [.agg stQ.c,.b true]):=by
 suffices h:PO P inv 196 [] (.tup [zky 3 stQ,.b true]) (zkz 3 stQ) by
  have:=h.pc
  rw[zh1]at this
  exact this
 have c0:=zjP hH
 have c1:=sAt_po hH hI zcf smC okC
 rw[atC]at c1
 unfold stV stR at c1
 have e1:stN.tracks.length=4:=rfl
 have e2:stN.switches.length=1:=rfl
 have e3:stN.locks.length=2:=rfl
 have q1:stN.tracks.mapIdx zhS=stQ.tracks:=rfl
 have q2:stN.switches=stQ.switches:=rfl
 have q3:stN.locks=stQ.locks:=rfl
 have r1:stQ.tracks.length=4:=rfl
 have r2:stQ.switches.length=1:=rfl
 have r3:stQ.locks.length=2:=rfl
 generalize stN=S at *
 generalize stQ=T at *
 rw[e1,e2,e3]at c1
 refine PO.fn hH cd196 fun w0 M Q hM hE hQ hR=>?_;dsimp only[cd196,qm,ql,qf,qi,qb,qc,qp,qv,qN,qT,qF,qt]at hQ ⊢
 (have hX:=zA @e1 (zA @e2 @e3);(repeat' first|refine zaa [0,1,2,3,4,14] fun K hK=>?_|(refine hK.go ?_;clear hK K)|with_reducible exact wT|refine wA ?_|(refine wB (fun h=>?_) (fun h=>?_)<;>first|exact wN h|subst (h:(_:Bool)=_)|skip)|(refine wR ?_;clear hQ hR hE hM)|refine wC c0 ?_|refine wO c1 ?_|fail);all_goals clear hX)
 refine zat (ι:=Nat) [0,1,2,3,4] (fun z=>[(4,.n z)]) (fun z=>[(3,.cells ((zf4 zhS z S.tracks).map Track.c).flatten true)]) (fun z=>z) (4) (fun _=>True) (0) ?_;rintro k ⟨hk,-⟩;(try dsimp only at hk ⊢);rcases Nat.lt_or_ge k 4 with hlt|hge
 ·have hk:k<S.tracks.length:=by omega
  have d1:=zge zhS hk
  have d2:=zb7 (c:=Track.c) (l:=zf4 zhS k S.tracks) (k:=k) (i:=1) (by rw[zcL];exact hk) (by omega) (.i .u8 0) (zhS k (nth S.tracks k)) (by rw[zdV _ hk];rfl)
  rw[d1]at d2
  (have hX:=@d2;(repeat' first|refine zaa [0,1,2,3,4,14] fun K hK=>?_|(refine hK.go ?_;clear hK K)|with_reducible exact wT|refine wA ?_|(refine wB (fun h=>?_) (fun h=>?_)<;>first|exact wN h|subst (h:(_:Bool)=_)|skip)|(refine wR ?_;clear hQ hR hE hM)|fail);all_goals clear hX)
  exact ⟨k+1,by omega,by omega,by omega,rfl⟩
 ·rw[zgf _ (by omega),q1]
  (repeat' first|refine zaa [0,1,2,3,4,14] fun K hK=>?_|(refine hK.go ?_;clear hK K)|with_reducible exact wT|refine wA ?_|(refine wB (fun h=>?_) (fun h=>?_)<;>first|exact wN h|subst (h:(_:Bool)=_)|skip)|(refine wR ?_;clear hQ hR hE hM)|fail)
  all_goals first|(exfalso;omega)|skip
  left
  unfold zky zkz
  rw[r1,r2,r3,←q2,←q3]
  constructor
  ·(try (refine no_implicit_lambda% (st ?_);try with_reducible exact wT))
   first|rfl|(simp;done)|trace_state
  ·(try (refine no_implicit_lambda% (st ?_);try with_reducible exact wT))
   first|rfl|(simp;done)|trace_state
theorem smQ2:SmS stQ2:=⟨by decide,by decide,by decide⟩
theorem det12:zcG zcf zkA 5 1=0∧detR zcf zkA 5 1=stQ2:=by
 have h:zcG zcf zkA 5 1=0:=(zm1 (by decide +kernel)).2 ⟨⟨⟨5,0,1⟩,by decide,rfl⟩,by decide⟩
 exact ⟨h,by unfold detR;rw[if_pos h];rfl⟩
theorem znf (hH:HasAll P inv) (hI:HasIds P inv):PC P inv 195 [] (·=.b true):=by
 have c0:=zjP hH
 have c1:=zmJ hH hI
 have c2:=zia hH hI zcf smC stQ smQ 1
 have c3:=zcV hH hI zcf smC zkA smQ1 1
 have c4:=det_pc hH hI zcf smC zkA smQ1 5 1
 have c5:=zcV hH hI zcf smC stQ2 smQ2 1
 rw[setQ1,setQ2]at c2
 rw[show sgC zcf zkA 1=0 by decide +kernel,show goB zcf zkA 1=false by decide +kernel]at c3
 rw[det12.1,det12.2]at c4
 rw[show sgC zcf stQ2 1=0 by decide +kernel,show goB zcf stQ2 1=true by decide +kernel]at c5
 unfold stQ at c1 c2
 unfold zkA at c2 c3 c4
 unfold stQ2 at c4 c5
 refine PC.fn hH cd195 fun w0 M Q hM hE hQ hR=>?_;dsimp only[cd195,qm,ql,qf,qi,qb,qc,qp,qv,qN,qT,qF,qt]at hQ ⊢
 (repeat' first|refine zaa [0,1,2,3,4,5,6,7,8,9,17,23,35] fun K hK=>?_|(refine hK.go ?_;clear hK K)|with_reducible exact wT|refine wA ?_|(refine wB (fun h=>?_) (fun h=>?_)<;>first|exact wN h|subst (h:(_:Bool)=_)|skip)|(refine wQ ?_;clear hQ hR hE hM)|refine wC c1 ?_|refine wU c0 ?_|refine wU c2 ?_|refine wU c3 ?_|refine wU c4 ?_|refine wU c5 ?_|refine wC c0 ?_|refine wC c2 ?_|refine wC c3 ?_|refine wC c4 ?_|refine wC c5 ?_|fail)
 all_goals first|rfl|(exfalso;contradiction)|trace_state
end Go.Lev
namespace Go.Lev
open Go.Eng
set_option maxRecDepth 10000
set_option maxHeartbeats 4000000
variable {P:Program} {inv:Nat→Option Nat} {w0:World} {M:Nat→Prop}
theorem prC_at {p:Pln} {t:State} {n:Int} {i:Nat} (h:zae p t=0) (hi:rtIx p n=(i:Int)):prC p t n=0∧prR p t n=zc7 p t (nth p.routes i):=by
 unfold prC prR
 rw[if_pos h,hi,if_neg (by omega),if_neg (by omega),Int.toNat_natCast]
 exact ⟨rfl,rfl⟩
end Go.Lev
namespace Go.Lev
open Go.Eng
set_option maxRecDepth 10000
set_option maxHeartbeats 4000000
variable {P:Program} {inv:Nat→Option Nat} {w0:World} {M:Nat→Prop}
theorem zmj {f:Nat→Bool}:∀ {k:Nat},(∀ i j,i<k→j<k→f i=true→f j=true→i=j)→zhV f k≤1
 |0,_=>by simp
 |k+1,h=>by
  have ih:=zmj (f:=f) (k:=k) fun i j hi hj=>h i j (by omega) (by omega)
  rw[zhV]
  cases hf:f k with
  |false=>rw[if_neg (by decide)];exact ih
  |true =>
   rw[if_pos rfl]
   have:zhV f k=0:=(zgr f k).2.2 fun j hj=>by
    cases hj2:f j with
    |false=>rfl
    |true=>have:=h j k (by omega) (by omega) hj2 hf;omega
   omega
theorem znZ {p:Pln} {s:State} {i:Nat} (h:zae p s=0) (hi:i<p.routes.length) (g:Prvd p s i):∀ a∈zbk p i,∀ k,k<s.switches.length→(nth s.switches k).id=a.pnt→(nth s.switches k).call=a.lie:=by
 intro a ha k hk e
 have hpa:=(zad h).2.1
 have hpl:=zap hpa
 have his:i<s.locks.length:=by omega
 have hl:=zej hpa his
 simp only[zcp,zaA,g.ph,Bool.and_eq_true]at hl
 have h3:=hl.2
 simp at h3
 have has:znb p s i=zbk p i:=by
  unfold znb zbz
  rw[if_neg (by rw[g.ph];decide)]
  refine List.filter_eq_self.2 fun a _=>?_
  simp only[zcX,Bool.or_eq_true,decide_eq_true_eq]
  omega
 have h4:=(zcy.1 h).2.2.2 i his a (by rw[has];exact ha)
 rw[←e,zkk (zao h) hpa (zaf hk)]at h4
 exact h4
theorem safe_end {p:Pln} {s:State} (h:zae p s=0) (n:Int):(zhV (sfF p s n) p.routes.length=1∧goB p s n=true)∨(zhV (sfF p s n) p.routes.length=0∧goB p s n=false):=by
 have h1:=zmj (f:=sfF p s n) (k:=p.routes.length) fun i j hi hj ei ej=>by
  unfold sfF at ei ej
  simp only[Bool.and_eq_true,decide_eq_true_eq]at ei ej
  exact prv_one h hi hj ei.2 ej.2 (ei.1.trans ej.1.symm)
 obtain ⟨h2,h3⟩:=zgr (sfF p s n) p.routes.length
 cases hg:goB p s n with
 |true =>
  obtain ⟨i,hi,e1,e2⟩:=zoM p s n |>.1 hg
  refine .inl ⟨?_,rfl⟩
  have:¬zhV (sfF p s n) p.routes.length=0:=fun e=>by
   have:=h3.1 e i hi
   unfold sfF at this
   rw[e1,e2]at this
   simp at this
  omega
 |false =>
  refine .inr ⟨h3.2 fun j hj=>?_,rfl⟩
  cases hf:sfF p s n j with
  |false=>rfl
  |true =>
   unfold sfF at hf
   simp only[Bool.and_eq_true,decide_eq_true_eq]at hf
   have:=zoM p s n |>.2 ⟨j,hj,hf.1,hf.2⟩
   rw[hg]at this
   cases this
theorem zm2 (hH:HasAll P inv) (hI:HasIds P inv) (p:Pln) (hp:Sm p) (s:State) (hs:SmS s) (hst:zae p s=0) (id:Int) (l:List Int) (hl:l.length≤1000000) (hx:∀ x∈l,nth (zaF p s).1 x.toNat=id∧zhg p x=true∧ze1 s x=0):PC P inv 351 [.agg p.c,.agg s.c,.n id,.sl 1 (l.map zew)] (·=.b true):=by
 have hc:∀ x∈l,PC P inv 67 [.agg p.c,.agg s.c,.n x] (·=.tup [.n id,.n 0]):=fun x hx'=>by
  have h1:=zhj hH hI p hp s hs x
  unfold zey at h1
  rw[if_pos hst,if_pos (hx x hx').2.1,(hx x hx').1]at h1
  exact h1
 have hf:∀ x∈l,∀ k,k<s.tracks.length→(nth s.tracks k).id=x→(nth s.tracks k).is=0:=fun x hx' k hk e=>by
  have:=(hx x hx').2.2
  rw[←e,zl4 (zao hst) (zad hst).2.1 hk]at this
  exact this
 have hl1:=hs.1
 clear hx hst
 refine PC.fn hH cd351 fun w0 M Q hM hE hQ hR=>?_;dsimp only[cd351,qm,ql,qf,qi,qb,qc,qp,qv,qN,qT,qF,qt]at hQ ⊢
 (repeat' first|refine zaa [0,1,2,3,4,5,8,9,10,11,12,16,26,35,40,62] fun K hK=>?_|(refine hK.go ?_;clear hK K)|with_reducible exact wT|refine wA ?_|(refine wB (fun h=>?_) (fun h=>?_)<;>first|exact wN h|subst (h:(_:Bool)=_)|skip)|(refine wQ ?_;clear hQ hR hE hM)|fail)
 refine zat (ι:=Nat) [2,3,4,5,8,9] (fun z=>[(9,.n z)]) (fun _=>[]) (fun z=>z) (l.length) (fun _=>True) (0) ?_;rintro a ⟨hk,-⟩;(try dsimp only at hk ⊢);rcases Nat.lt_or_ge a l.length with hlt|hge
 ·have ha9:a<l.length:=by assumption
  have d1:=hc _ (zaf ha9)
  have d2:=hf _ (zaf ha9)
  have d0:=int_gt ha9
  (have hX:=@d0;(repeat' first|refine zaa [0,1,2,3,4,5,8,9,10,11,12,16,26,35,40,62] fun K hK=>?_|(refine hK.go ?_;clear hK K)|with_reducible exact wT|refine wA ?_|(refine wB (fun h=>?_) (fun h=>?_)<;>first|exact wN h|subst (h:(_:Bool)=_)|skip)|(refine wQ ?_;clear hQ hR hE hM)|refine wC d1 ?_|refine wU d1 ?_|fail);all_goals clear hX)
  all_goals first|(exfalso;contradiction)|skip
  refine zat (ι:=Nat) [2,3,4,5,8,9,12] (fun z=>[(12,.n z)]) (fun _=>[]) (fun z=>z) (s.tracks.length) (fun _=>True) (0) ?_;rintro k ⟨hk,-⟩;(try dsimp only at hk ⊢);rcases Nat.lt_or_ge k s.tracks.length with hlt|hge
  ·have hk9:k<s.tracks.length:=by assumption
   by_cases e:(nth s.tracks k).id=nth l a
   ·have q1:=d2 k hk9 e
    (have hX:=zA @d0 (zA @e @q1);(repeat' first|refine zaa [0,1,2,3,4,5,8,9,10,11,12,16,26,35,40,62] fun K hK=>?_|(refine hK.go ?_;clear hK K)|with_reducible exact wT|refine wA ?_|(refine wB (fun h=>?_) (fun h=>?_)<;>first|exact wN h|subst (h:(_:Bool)=_)|skip)|(refine wQ ?_;clear hQ hR hE hM)|fail);all_goals clear hX)
    all_goals first|(exfalso;contradiction)|(exfalso;omega)|exact ⟨k+1,by omega,by omega,by omega⟩|trace_state
   ·have z:=decide_eq_false e
    (have hX:=zA @d0 @z;(repeat' first|refine zaa [0,1,2,3,4,5,8,9,10,11,12,16,26,35,40,62] fun K hK=>?_|(refine hK.go ?_;clear hK K)|with_reducible exact wT|refine wA ?_|(refine wB (fun h=>?_) (fun h=>?_)<;>first|exact wN h|subst (h:(_:Bool)=_)|skip)|(refine wQ ?_;clear hQ hR hE hM)|fail);all_goals clear hX)
    all_goals first|(exfalso;contradiction)|(exfalso;omega)|exact ⟨k+1,by omega,by omega,by omega⟩|trace_state
  ·(repeat' first|refine zaa [0,1,2,3,4,5,8,9,10,11,12,16,26,35,40,62] fun K hK=>?_|(refine hK.go ?_;clear hK K)|with_reducible exact wT|refine wA ?_|(refine wB (fun h=>?_) (fun h=>?_)<;>first|exact wN h|subst (h:(_:Bool)=_)|skip)|(refine wQ ?_;clear hQ hR hE hM)|fail)
   all_goals first|(exfalso;contradiction)|(exfalso;omega)|exact ⟨a+1,by omega,by omega,by omega⟩|trace_state
 ·(repeat' first|refine zaa [0,1,2,3,4,5,8,9,10,11,12,16,26,35,40,62] fun K hK=>?_|(refine hK.go ?_;clear hK K)|with_reducible exact wT|refine wA ?_|(refine wB (fun h=>?_) (fun h=>?_)<;>first|exact wN h|subst (h:(_:Bool)=_)|skip)|(refine wQ ?_;clear hQ hR hE hM)|fail)
  all_goals first|rfl|(exfalso;contradiction)|trace_state
theorem proveSafe_pc (hH:HasAll P inv) (hI:HasIds P inv) (p:Pln) (hp:Pln.ok p) (s:State) (at':Int):PC P inv 341 [.agg p.c,.agg s.c,.n at'] (·=.b true):=by
 have c0:=znf hH hI
 have c1:=zfZ hH p
 have c2:=zjw hH s
 cases g1:zie p with
 |true =>
  rw[g1]at c1
  refine PC.fn hH cd341 fun w0 M Q hM hE hQ hR=>?_;dsimp only[cd341,qm,ql,qf,qi,qb,qc,qp,qv,qN,qT,qF,qt]at hQ ⊢
  (repeat' first|refine zaa [0,1,2,3,4,6,7,8,9,10,11,12,13,14,15,16,17,18,19,47,58,62,67,96,109,131,132,134,139,146,184] fun K hK=>?_|(refine hK.go ?_;clear hK K)|with_reducible exact wT|refine wA ?_|(refine wB (fun h=>?_) (fun h=>?_)<;>first|exact wN h|subst (h:(_:Bool)=_)|skip)|(refine wQ ?_;clear hQ hR hE hM)|refine wC c0 ?_|refine wC c1 ?_|fail)
 |false =>
  rw[g1]at c1
  cases g2:zi3 s with
  |true =>
   rw[g2]at c2
   refine PC.fn hH cd341 fun w0 M Q hM hE hQ hR=>?_;dsimp only[cd341,qm,ql,qf,qi,qb,qc,qp,qv,qN,qT,qF,qt]at hQ ⊢
   (repeat' first|refine zaa [0,1,2,3,4,6,7,8,9,10,11,12,13,14,15,16,17,18,19,47,58,62,67,96,109,131,132,134,139,146,184] fun K hK=>?_|(refine hK.go ?_;clear hK K)|with_reducible exact wT|refine wA ?_|(refine wB (fun h=>?_) (fun h=>?_)<;>first|exact wN h|subst (h:(_:Bool)=_)|skip)|(refine wQ ?_;clear hQ hR hE hM)|refine wC c0 ?_|refine wC c1 ?_|refine wC c2 ?_|fail)
  |false =>
   rw[g2]at c2
   have sp:=sm_of hp g1
   have ss:=smS_of g2
   have c3:=zbH hH hI p sp s ss
   have hsl:=sp.sgn
   have hrl:=sp.rte
   by_cases hst:zae p s=0∧0≤at'∧at'<p.signals.length
   ·obtain ⟨hst,ha1,ha2⟩:=hst
    obtain ⟨k0,rfl⟩:∃ i:Nat,at'=i:=⟨at'.toNat,by omega⟩
    have hk0:k0<p.signals.length:=by omega
    rw[hst]at c3
    have ho:=zao hst
    have hpa:=(zad hst).2.1
    have hpl:=zap hpa
    have hl2:=ss.2.1
    have hl3:=ss.2.2
    have c4:=zcV hH hI p sp s ss (nth p.signals k0).id
    rw[show sgC p s (nth p.signals k0).id=0 by unfold sgC;rw[if_pos hst,if_pos (sgn_at hk0)]]at c4
    rw[show decide ((0:Int)=0)=true from rfl,Bool.true_and]at c4
    have hend:=safe_end hst (nth p.signals k0).id
    have dR:∀ i,i<p.routes.length→PC P inv 198 [.agg p.c,.agg s.c,.n (nth p.routes i).id] (·=.tup [.b (zc7 p s (nth p.routes i)),.n 0]):=fun i hi=>by
     have h1:=ziQ hH hI p sp s ss (nth p.routes i).id
     have h2:=prC_at hst (ix_rte ho hi:rtIx p (nth p.routes i).id=(i:Int))
     rw[h2.1,h2.2]at h1
     exact h1
    have dW:∀ i,i<p.routes.length→PC P inv 76 [.agg p.c,.n (nth p.routes i).id] (·=.tup [.agg (zaj p (nth p.routes i)).1.c,.n 0])∧(zaj p (nth p.routes i)).1.path.length≤1000∧(zaj p (nth p.routes i)).1.over.length≤1000∧(zaj p (nth p.routes i)).1.asks.length≤1000:=fun i hi=>by
     have his:i<s.locks.length:=by omega
     have h1:=znt hH hI p sp (nth s.locks i).id
     rw[ofW_at hst his,←rt_id hpa his]at h1
     have h2:=zcw ho (zaf hi)
     exact ⟨h1,by omega,by omega,by omega⟩
    have dC:∀ i,i<p.routes.length→zc7 p s (nth p.routes i)=true→(nth s.locks i).phase=1∧PC P inv 351 [.agg p.c,.agg s.c,.n (nth p.routes i).id,.sl 1 ((zbx p i).map zew)] (·=.b true) ∧
      ∀ a∈zbk p i,∀ k,k<s.switches.length→(nth s.switches k).id=a.pnt→(nth s.switches k).lie=a.lie∧(nth s.switches k).call=a.lie:=fun i hi e=>by
     have his:i<s.locks.length:=by omega
     have g:=(zkX hst hi).1 e
     have h2:=(dW i hi).2
     refine ⟨g.ph,zm2 hH hI p sp s ss hst _ _ (by unfold zbx;rw[List.length_append];have:=zcw ho (zaf hi);omega) fun x hx=>?_,fun a ha k hk e2=>⟨g.ask a ha k hk e2,znZ hst hi g a ha k hk e2⟩⟩
     have hwp:=zbG ((za0 (zad hst).1).2.1 _ (zaf hi))
     have hx2:=hx
     unfold zbx at hx2
     rw[hwp.1,hwp.2.1]at hx2
     obtain ⟨q,hq,eq⟩:=(zdi ho (zaf hi)).1 x hx2
     have hr:=zcA ho hq
     refine ⟨?_,List.any_eq_true.2 ⟨q,hq,by simpa using eq⟩,g.sec x hx⟩
     rw[(ze4 hst his (by omega)).2 (by rw[g.hd hst hi];exact hx),rt_id hpa his]
    have hcb:∀ i,0≤zhV (sfF p s (nth p.signals k0).id) i∧zhV (sfF p s (nth p.signals k0).id) i≤i:=fun i=>⟨(zgr _ i).1,zo2 _ i⟩
    have hcs:∀ i,zhV (sfF p s (nth p.signals k0).id) (i+1)=if (decide ((nth p.routes i).entry=(nth p.signals k0).id)&&zc7 p s (nth p.routes i))=true then zhV (sfF p s (nth p.signals k0).id) i+1 else zhV (sfF p s (nth p.signals k0).id) i:=fun i=>rfl
    generalize sfF p s (nth p.signals k0).id=f at *
    generalize goB p s (nth p.signals k0).id=G at *
    clear hst ho hpa
    refine PC.fn hH cd341 fun w0 M Q hM hE hQ hR=>?_;dsimp only[cd341,qm,ql,qf,qi,qb,qc,qp,qv,qN,qT,qF,qt]at hQ ⊢
    (repeat' first|refine zaa [0,1,2,3,4,6,7,8,9,10,11,12,13,14,15,16,17,18,19,47,58,62,67,96,109,131,132,134,139,146,184] fun K hK=>?_|(refine hK.go ?_;clear hK K)|with_reducible exact wT|refine wA ?_|(refine wB (fun h=>?_) (fun h=>?_)<;>first|exact wN h|subst (h:(_:Bool)=_)|skip)|(refine wQ ?_;clear hQ hR hE hM)|refine wC c0 ?_|refine wC c1 ?_|refine wC c2 ?_|refine wC c3 ?_|refine wC c4 ?_|refine wU c4 ?_|fail)
    all_goals first|(exfalso;contradiction)|(exfalso;omega)|skip
    refine zat (ι:=Nat) [2,3,4,6,7,8,10,11] (fun z=>[(10,.n (zhV f z)),(11,.n z)]) (fun _=>[]) (fun z=>z) (p.routes.length) (fun _=>True) (0) ?_;rintro i ⟨hk,-⟩;(try dsimp only at hk ⊢);rcases Nat.lt_or_ge i p.routes.length with hlt|hge
    ·have hi9:i<p.routes.length:=by assumption
     have d1:=dR i hi9
     have hb:=hcb i
     have hs9:=hcs i
     obtain ⟨d2,b1,b2,b3⟩:=dW i hi9
     have dc:=dC i hi9
     clear dR dW dC hcb hcs hend
     generalize zhV f i=c1' at *
     have f0:((zaj p (nth p.routes i)).1.path.map zew).flatten++((zaj p (nth p.routes i)).1.over.map zew).flatten=((zbx p i).map zew).flatten:=by unfold zbx;simp
     have f1:(zaj p (nth p.routes i)).1.path.length+(zaj p (nth p.routes i)).1.over.length=(zbx p i).length:=by unfold zbx;simp
     have hask:(zaj p (nth p.routes i)).1.asks=zbk p i:=rfl
     generalize zbx p i=all at *
     generalize zbk p i=asl9 at *
     generalize (zaj p (nth p.routes i)).1=w at *
     cases hpv:zc7 p s (nth p.routes i) with
     |false =>
      rw[hpv]at d1 hs9
      rw[Bool.and_false,if_neg (by decide)]at hs9
      clear dc
      (repeat' first|refine zaa [0,1,2,3,4,6,7,8,9,10,11,12,13,14,15,16,17,18,19,47,58,62,67,96,109,131,132,134,139,146,184] fun K hK=>?_|(refine hK.go ?_;clear hK K)|with_reducible exact wT|refine wA ?_|(refine wB (fun h=>?_) (fun h=>?_)<;>first|exact wN h|subst (h:(_:Bool)=_)|skip)|(refine wQ ?_;clear hQ hR hE hM)|refine wC d1 ?_|fail)
      all_goals first|(exfalso;contradiction)|(exfalso;omega)|exact ⟨i+1,by omega,by omega,hs9.symm,by omega⟩|exact ⟨i+1,by omega,by omega,hs9,by omega⟩|trace_state
     |true =>
      obtain ⟨e1,d3,d4⟩:=dc hpv
      rw[hpv]at d1 hs9
      by_cases he:(nth p.routes i).entry=(nth p.signals k0).id
      ·rw[decide_eq_true he,Bool.true_and,if_pos rfl]at hs9
       clear dc hpv
       (have hX:=zA @e1 (zA @he (zA @f0 @f1));(repeat' first|refine zaa [0,1,2,3,4,6,7,8,9,10,11,12,13,14,15,16,17,18,19,47,58,62,67,96,109,131,132,134,139,146,184] fun K hK=>?_|(refine hK.go ?_;clear hK K)|with_reducible exact wT|refine wA ?_|(refine wB (fun h=>?_) (fun h=>?_)<;>first|exact wN h|subst (h:(_:Bool)=_)|skip)|(refine wQ ?_;clear hQ hR hE hM)|refine wC d1 ?_|refine wC d2 ?_|refine wS d3 ?_|fail);all_goals clear hX)
       all_goals first|(exfalso;contradiction)|(exfalso;omega)|skip
       refine zat (ι:=Nat) [2,3,4,6,7,8,10,11,15,17] (fun z=>[(17,.n z)]) (fun _=>[]) (fun z=>z) (w.asks.length) (fun _=>True) (0) ?_;rintro a ⟨hk,-⟩;(try dsimp only at hk ⊢);rcases Nat.lt_or_ge a w.asks.length with hlt|hge
       ·have ha9:a<w.asks.length:=by assumption
        have d5:=d4 _ (by rw[←hask];exact zaf ha9)
        (repeat' first|refine zaa [0,1,2,3,4,6,7,8,9,10,11,12,13,14,15,16,17,18,19,47,58,62,67,96,109,131,132,134,139,146,184] fun K hK=>?_|(refine hK.go ?_;clear hK K)|with_reducible exact wT|refine wA ?_|(refine wB (fun h=>?_) (fun h=>?_)<;>first|exact wN h|subst (h:(_:Bool)=_)|skip)|(refine wQ ?_;clear hQ hR hE hM)|fail)
        refine zat (ι:=Nat) [2,3,4,6,7,8,10,11,15,17,18] (fun z=>[(18,.n z)]) (fun _=>[]) (fun z=>z) (s.switches.length) (fun _=>True) (0) ?_;rintro k ⟨hk,-⟩;(try dsimp only at hk ⊢);rcases Nat.lt_or_ge k s.switches.length with hlt|hge
        ·have hk9:k<s.switches.length:=by assumption
         by_cases e:(nth s.switches k).id=(nth w.asks a).pnt
         ·obtain ⟨q1,q2⟩:=d5 k hk9 e
          (have hX:=zA @e (zA @q1 @q2);(repeat' first|refine zaa [0,1,2,3,4,6,7,8,9,10,11,12,13,14,15,16,17,18,19,47,58,62,67,96,109,131,132,134,139,146,184] fun K hK=>?_|(refine hK.go ?_;clear hK K)|with_reducible exact wT|refine wA ?_|(refine wB (fun h=>?_) (fun h=>?_)<;>first|exact wN h|subst (h:(_:Bool)=_)|skip)|(refine wQ ?_;clear hQ hR hE hM)|fail);all_goals clear hX)
          all_goals first|(exfalso;contradiction)|(exfalso;omega)|exact ⟨k+1,by omega,by omega,by omega⟩|trace_state
         ·have z:=decide_eq_false e
          (have hX:=@z;(repeat' first|refine zaa [0,1,2,3,4,6,7,8,9,10,11,12,13,14,15,16,17,18,19,47,58,62,67,96,109,131,132,134,139,146,184] fun K hK=>?_|(refine hK.go ?_;clear hK K)|with_reducible exact wT|refine wA ?_|(refine wB (fun h=>?_) (fun h=>?_)<;>first|exact wN h|subst (h:(_:Bool)=_)|skip)|(refine wQ ?_;clear hQ hR hE hM)|fail);all_goals clear hX)
          all_goals first|(exfalso;contradiction)|(exfalso;omega)|exact ⟨k+1,by omega,by omega,by omega⟩|trace_state
        ·(repeat' first|refine zaa [0,1,2,3,4,6,7,8,9,10,11,12,13,14,15,16,17,18,19,47,58,62,67,96,109,131,132,134,139,146,184] fun K hK=>?_|(refine hK.go ?_;clear hK K)|with_reducible exact wT|refine wA ?_|(refine wB (fun h=>?_) (fun h=>?_)<;>first|exact wN h|subst (h:(_:Bool)=_)|skip)|(refine wQ ?_;clear hQ hR hE hM)|fail)
         all_goals first|(exfalso;contradiction)|(exfalso;omega)|exact ⟨a+1,by omega,by omega,by omega⟩|trace_state
       ·(repeat' first|refine zaa [0,1,2,3,4,6,7,8,9,10,11,12,13,14,15,16,17,18,19,47,58,62,67,96,109,131,132,134,139,146,184] fun K hK=>?_|(refine hK.go ?_;clear hK K)|with_reducible exact wT|refine wA ?_|(refine wB (fun h=>?_) (fun h=>?_)<;>first|exact wN h|subst (h:(_:Bool)=_)|skip)|(refine wQ ?_;clear hQ hR hE hM)|fail)
        all_goals first|(exfalso;contradiction)|(exfalso;omega)|exact ⟨i+1,by omega,by omega,hs9.symm,by omega⟩|exact ⟨i+1,by omega,by omega,hs9,by omega⟩|trace_state
      ·rw[decide_eq_false he,Bool.false_and,if_neg (by decide)]at hs9
       have z:=decide_eq_false he
       clear dc hpv d4
       (have hX:=zA @e1 @z;(repeat' first|refine zaa [0,1,2,3,4,6,7,8,9,10,11,12,13,14,15,16,17,18,19,47,58,62,67,96,109,131,132,134,139,146,184] fun K hK=>?_|(refine hK.go ?_;clear hK K)|with_reducible exact wT|refine wA ?_|(refine wB (fun h=>?_) (fun h=>?_)<;>first|exact wN h|subst (h:(_:Bool)=_)|skip)|(refine wQ ?_;clear hQ hR hE hM)|refine wC d1 ?_|fail);all_goals clear hX)
       all_goals first|(exfalso;contradiction)|(exfalso;omega)|exact ⟨i+1,by omega,by omega,hs9.symm,by omega⟩|exact ⟨i+1,by omega,by omega,hs9,by omega⟩|trace_state
    ·obtain rfl:i=p.routes.length:=by omega
     clear dR dW dC hcb hcs
     rcases hend with ⟨w1,w2⟩|⟨w1,w2⟩
     ·subst w2
      (have hX:=@w1;(repeat' first|refine zaa [0,1,2,3,4,6,7,8,9,10,11,12,13,14,15,16,17,18,19,47,58,62,67,96,109,131,132,134,139,146,184] fun K hK=>?_|(refine hK.go ?_;clear hK K)|with_reducible exact wT|refine wA ?_|(refine wB (fun h=>?_) (fun h=>?_)<;>first|exact wN h|subst (h:(_:Bool)=_)|skip)|(refine wQ ?_;clear hQ hR hE hM)|fail);all_goals clear hX)
      all_goals first|rfl|(exfalso;contradiction)|(exfalso;omega)|trace_state
     ·subst w2
      (have hX:=@w1;(repeat' first|refine zaa [0,1,2,3,4,6,7,8,9,10,11,12,13,14,15,16,17,18,19,47,58,62,67,96,109,131,132,134,139,146,184] fun K hK=>?_|(refine hK.go ?_;clear hK K)|with_reducible exact wT|refine wA ?_|(refine wB (fun h=>?_) (fun h=>?_)<;>first|exact wN h|subst (h:(_:Bool)=_)|skip)|(refine wQ ?_;clear hQ hR hE hM)|fail);all_goals clear hX)
      all_goals first|rfl|(exfalso;contradiction)|(exfalso;omega)|trace_state
   ·have key:¬zae p s=0∨at'<0∨(p.signals.length:Int)≤at':=by
     by_cases h1:zae p s=0
     ·right
      by_cases h2:at'<0
      ·exact .inl h2
      ·exact .inr (by omega)
     ·exact .inl h1
    clear hst
    generalize zae p s=e at *
    refine PC.fn hH cd341 fun w0 M Q hM hE hQ hR=>?_;dsimp only[cd341,qm,ql,qf,qi,qb,qc,qp,qv,qN,qT,qF,qt]at hQ ⊢
    (repeat' first|refine zaa [0,1,2,3,4,6,7,8,9,10,11,12,13,14,15,16,17,18,19,47,58,62,67,96,109,131,132,134,139,146,184] fun K hK=>?_|(refine hK.go ?_;clear hK K)|with_reducible exact wT|refine wA ?_|(refine wB (fun h=>?_) (fun h=>?_)<;>first|exact wN h|subst (h:(_:Bool)=_)|skip)|(refine wQ ?_;clear hQ hR hE hM)|refine wC c0 ?_|refine wC c1 ?_|refine wC c2 ?_|refine wC c3 ?_|fail)
    all_goals first|rfl|(exfalso;contradiction)|(exfalso;omega)|trace_state
end Go.Lev
