/-
  A part of the engine that walks the functions' codes, and of the functions' contracts. Conditions: those that each theorem names.
-/
import Derived.Test.YthjfjbajmhkbbaaGreatL8
import Derived.IntWalk
set_option linter.unusedSimpArgs false
set_option linter.unusedVariables false
set_option linter.unusedSectionVars false
namespace Go.Lev
open Go.Eng
set_option maxRecDepth 10000
set_option maxHeartbeats 4000000
variable {P:Program} {inv:Nat→Option Nat} {w0:World} {M:Nat→Prop}
theorem zpI (hH:HasAll P inv) (n:Int) (x:Track):PC P inv 86 ([.agg x.c]++[.ip 1 [[.n n]] 0 0]) (·=.b (decide (x.id=n))):=by
 refine PC.fn hH cd86 fun w0 M Q hM hE hQ hR=>?_;dsimp only[cd86,qm,ql,qf,qi,qb,qc,qp,qv,qN,qT,qF,qt]at hQ ⊢
 (repeat' first|refine zaa [0,1,2,3] fun K hK=>?_|(refine hK.go ?_;clear hK K)|with_reducible exact wT|refine wA ?_|(refine wB (fun h=>?_) (fun h=>?_)<;>first|exact wN h|subst (h:(_:Bool)=_)|skip)|(refine wQ ?_;clear hQ hR hE hM)|fail)
theorem zpH (hH:HasAll P inv) (n:Int) (x:Switch):PC P inv 88 ([.agg x.c]++[.ip 1 [[.n n]] 0 0]) (·=.b (decide (x.id=n))):=by
 refine PC.fn hH cd88 fun w0 M Q hM hE hQ hR=>?_;dsimp only[cd88,qm,ql,qf,qi,qb,qc,qp,qv,qN,qT,qF,qt]at hQ ⊢
 (repeat' first|refine zaa [0,1,2,3] fun K hK=>?_|(refine hK.go ?_;clear hK K)|with_reducible exact wT|refine wA ?_|(refine wB (fun h=>?_) (fun h=>?_)<;>first|exact wN h|subst (h:(_:Bool)=_)|skip)|(refine wQ ?_;clear hQ hR hE hM)|fail)
theorem zoN (hH:HasAll P inv) (hI:HasIds P inv) (p:Pln) (hp:Sm p) (s:State) (hs:SmS s) (n v:Int) (he:zbO p s n v=0):PO P inv 73 [.agg p.c,.agg s.c,.n n,.n v] (.tup [zen 6 (zkc s n v),.n 0]) (zdn 6 (zkc s n v)):=by
 have hc:zag p s=0∧zlV s n∧(v=0∨v=1):=by
  unfold zbO at he
  split at he
  ·rename_i h1
   split at he
   ·rename_i h2
    split at he
    ·rename_i h3;exact ⟨h1,h2,h3⟩
    ·cases he
   ·cases he
  ·rename_i h1;exact absurd he h1
 obtain ⟨hc,⟨t,ht,htn⟩,hv⟩:=hc
 have c0:=zcs hH hI p hp s hs
 rw[hc]at c0
 have c1:=zc5 hH s hs
 obtain ⟨h1,h2,h3⟩:=hs
 have c2:=zl1 hH s.tracks (fun x _=>zpI hH n x) (by omega)
 have hno:(s.tracks.map Track.id).Nodup:=by rw[zfX (zad hc).2.1];exact zfk (zar hc)
 rcases zav Track.id n s.tracks with ⟨_,h4⟩|⟨k,hk,h4,h5⟩
 ·exact absurd htn (h4 t ht)
 ·rw[h4]at c2
  have e1:=zcE Track.id n (fun t=>(⟨t.id,v⟩:Track)) hno hk h5
  have e2:=zaz (c:=Track.c) (l:=s.tracks) (k:=k) (i:=1) hk (by omega) (.i .u8 v) (⟨(nth s.tracks k).id,v⟩:Track) rfl
  rw[e1]at e2
  unfold stV stR at c1
  refine PO.fn hH cd73 fun w0 M Q hM hE hQ hR=>?_;dsimp only[cd73,qm,ql,qf,qi,qb,qc,qp,qv,qN,qT,qF,qt]at hQ ⊢
  skip
  (have hX:=@e2;(repeat' first|refine zaa [0,1,2,3,4,5,6,8,9,10,11,16,26,33] fun K hK=>?_|(refine hK.go ?_;clear hK K)|with_reducible exact wT|refine wA ?_|(refine wB (fun h=>?_) (fun h=>?_)<;>first|exact wN h|subst (h:(_:Bool)=_)|skip)|(refine wQ ?_;clear hQ hR)|refine wC c0 ?_|refine wO c1 ?_|(refine AC.callK 30 (by omega) (by first|omega|exact wF|((refine no_implicit_lambda% (st ?_);try with_reducible exact wT);omega)) (zam (F:=cd85) (hH.has _ _ rfl) (Nat.le_of_ble_eq_true rfl) fun Q hQ hR=>?_);dsimp only[cd85,qm,ql,qf,qi,qb,qc,qp,qv,qN,qT,qF,qt]at hQ ⊢;try (refine no_implicit_lambda% (st ?_);try with_reducible exact wT))|refine wS c2 ?_|fail);all_goals clear hX)
  all_goals (left;unfold zen zdn zkc;dsimp only;rw[zbe];constructor)
  all_goals (refine no_implicit_lambda% (st ?_);try with_reducible exact wT)
theorem zqg (hH:HasAll P inv) (hI:HasIds P inv) (p:Pln) (hp:Sm p) (s:State) (hs:SmS s) (n v:Int) (he:zbH p s n v=0):PO P inv 74 [.agg p.c,.agg s.c,.n n,.n v] (.tup [zen 6 (zkq s n v),.n 0]) (zdn 6 (zkq s n v)):=by
 have hc:zag p s=0∧zlW s n∧(0≤v∧v≤2):=by
  unfold zbH at he
  split at he
  ·rename_i h1
   split at he
   ·rename_i h2
    split at he
    ·rename_i h3;exact ⟨h1,h2,h3⟩
    ·cases he
   ·cases he
  ·rename_i h1;exact absurd he h1
 obtain ⟨hc,⟨t,ht,htn⟩,hv⟩:=hc
 have c0:=zcs hH hI p hp s hs
 rw[hc]at c0
 have c1:=zc5 hH s hs
 obtain ⟨h1,h2,h3⟩:=hs
 have c2:=zhR hH s.switches (fun x _=>zpH hH n x) (by omega)
 have hno:(s.switches.map Switch.id).Nodup:=by rw[zcR (zad hc).2.1];exact zbJ (zar hc)
 rcases zav Switch.id n s.switches with ⟨_,h4⟩|⟨k,hk,h4,h5⟩
 ·exact absurd htn (h4 t ht)
 ·rw[h4]at c2
  have e1:=zcE Switch.id n (fun t=>(⟨t.id,v,t.call⟩:Switch)) hno hk h5
  have e2:=zaz (c:=Switch.c) (l:=s.switches) (k:=k) (i:=1) hk (by omega) (.i .i64 v) (⟨(nth s.switches k).id,v,(nth s.switches k).call⟩:Switch) rfl
  rw[e1]at e2
  unfold stV stR at c1
  refine PO.fn hH cd74 fun w0 M Q hM hE hQ hR=>?_;dsimp only[cd74,qm,ql,qf,qi,qb,qc,qp,qv,qN,qT,qF,qt]at hQ ⊢
  skip
  (have hX:=@e2;(repeat' first|refine zaa [0,1,2,3,4,5,6,8,9,10,11,16,26,33] fun K hK=>?_|(refine hK.go ?_;clear hK K)|with_reducible exact wT|refine wA ?_|(refine wB (fun h=>?_) (fun h=>?_)<;>first|exact wN h|subst (h:(_:Bool)=_)|skip)|(refine wQ ?_;clear hQ hR)|refine wC c0 ?_|refine wO c1 ?_|(refine AC.callK 30 (by omega) (by first|omega|exact wF|((refine no_implicit_lambda% (st ?_);try with_reducible exact wT);omega)) (zam (F:=cd87) (hH.has _ _ rfl) (Nat.le_of_ble_eq_true rfl) fun Q hQ hR=>?_);dsimp only[cd87,qm,ql,qf,qi,qb,qc,qp,qv,qN,qT,qF,qt]at hQ ⊢;try (refine no_implicit_lambda% (st ?_);try with_reducible exact wT))|refine wS c2 ?_|fail);all_goals clear hX)
  all_goals (left;unfold zen zdn zkq;dsimp only;rw[zbe];constructor)
  all_goals (refine no_implicit_lambda% (st ?_);try with_reducible exact wT)
theorem sec_pc (hH:HasAll P inv) (hI:HasIds P inv) (p:Pln) (hp:Sm p) (s:State) (hs:SmS s) (n v:Int):PC P inv 73 [.agg p.c,.agg s.c,.n n,.n v] (·=.tup [.agg (secR p s n v).c,.n (zbO p s n v)]):=by
 unfold secR
 by_cases he:zbO p s n v=0
 ·have:=(zoN hH hI p hp s hs n v he).pc
  rw[zbL]at this
  rw[if_pos he,he]
  exact this
 ·rw[if_neg he]
  have c0:=zcs hH hI p hp s hs
  have c1:=zc5 hH s hs
  unfold zbO at he ⊢
  by_cases hc:zag p s=0
  ·rw[if_pos hc]at he ⊢
   rw[hc]at c0
   obtain ⟨h1,h2,h3⟩:=hs
   have c2:=zl1 hH s.tracks (fun x _=>zpI hH n x) (by omega)
   unfold stV stR at c1
   rcases zav Track.id n s.tracks with ⟨h4,h5⟩|⟨k,hk,h4,h5⟩
   ·rw[if_neg (fun ⟨t,ht,e⟩=>h5 t ht e)]
    rw[h4]at c2
    refine PC.fn hH cd73 fun w0 M Q hM hE hQ hR=>?_;dsimp only[cd73,qm,ql,qf,qi,qb,qc,qp,qv,qN,qT,qF,qt]at hQ ⊢
    skip
    (repeat' first|refine zaa [0,1,2,3,4,5,6,8,9,10,11,16,26,33] fun K hK=>?_|(refine hK.go ?_;clear hK K)|with_reducible exact wT|refine wA ?_|(refine wB (fun h=>?_) (fun h=>?_)<;>first|exact wN h|subst (h:(_:Bool)=_)|skip)|(refine wQ ?_;clear hQ hR)|refine wC c0 ?_|refine wO c1 ?_|(refine AC.callK 30 (by omega) (by first|omega|exact wF|((refine no_implicit_lambda% (st ?_);try with_reducible exact wT);omega)) (zam (F:=cd85) (hH.has _ _ rfl) (Nat.le_of_ble_eq_true rfl) fun Q hQ hR=>?_);dsimp only[cd85,qm,ql,qf,qi,qb,qc,qp,qv,qN,qT,qF,qt]at hQ ⊢;try (refine no_implicit_lambda% (st ?_);try with_reducible exact wT))|refine wS c2 ?_|fail)
    all_goals first|rfl|(exfalso;contradiction)|skip
   ·rw[if_pos ⟨_,zab hk,h5⟩]at he ⊢
    rw[h4]at c2
    by_cases hv:v=0∨v=1
    ·rw[if_pos hv]at he;exact absurd rfl he
    ·rw[if_neg hv]
     refine PC.fn hH cd73 fun w0 M Q hM hE hQ hR=>?_;dsimp only[cd73,qm,ql,qf,qi,qb,qc,qp,qv,qN,qT,qF,qt]at hQ ⊢
     skip
     (repeat' first|refine zaa [0,1,2,3,4,5,6,8,9,10,11,16,26,33] fun K hK=>?_|(refine hK.go ?_;clear hK K)|with_reducible exact wT|refine wA ?_|(refine wB (fun h=>?_) (fun h=>?_)<;>first|exact wN h|subst (h:(_:Bool)=_)|skip)|(refine wQ ?_;clear hQ hR)|refine wC c0 ?_|refine wO c1 ?_|(refine AC.callK 30 (by omega) (by first|omega|exact wF|((refine no_implicit_lambda% (st ?_);try with_reducible exact wT);omega)) (zam (F:=cd85) (hH.has _ _ rfl) (Nat.le_of_ble_eq_true rfl) fun Q hQ hR=>?_);dsimp only[cd85,qm,ql,qf,qi,qb,qc,qp,qv,qN,qT,qF,qt]at hQ ⊢;try (refine no_implicit_lambda% (st ?_);try with_reducible exact wT))|refine wS c2 ?_|fail)
     all_goals first|rfl|(exfalso;omega)|skip
  ·rw[if_neg hc]
   generalize zag p s=e at c0 hc ⊢
   refine PC.fn hH cd73 fun w0 M Q hM hE hQ hR=>?_;dsimp only[cd73,qm,ql,qf,qi,qb,qc,qp,qv,qN,qT,qF,qt]at hQ ⊢
   (repeat' first|refine zaa [0,1,2,3,4,5,6,8,9,10,11,16,26,33] fun K hK=>?_|(refine hK.go ?_;clear hK K)|with_reducible exact wT|refine wA ?_|(refine wB (fun h=>?_) (fun h=>?_)<;>first|exact wN h|subst (h:(_:Bool)=_)|skip)|(refine wQ ?_;clear hQ hR hE hM)|refine wC c0 ?_|fail)
   all_goals first|rfl|(exfalso;contradiction)|skip
theorem det_pc (hH:HasAll P inv) (hI:HasIds P inv) (p:Pln) (hp:Sm p) (s:State) (hs:SmS s) (n v:Int):PC P inv 74 [.agg p.c,.agg s.c,.n n,.n v] (·=.tup [.agg (zma p s n v).c,.n (zbH p s n v)]):=by
 unfold zma
 by_cases he:zbH p s n v=0
 ·have:=(zqg hH hI p hp s hs n v he).pc
  rw[zbL]at this
  rw[if_pos he,he]
  exact this
 ·rw[if_neg he]
  have c0:=zcs hH hI p hp s hs
  have c1:=zc5 hH s hs
  unfold zbH at he ⊢
  by_cases hc:zag p s=0
  ·rw[if_pos hc]at he ⊢
   rw[hc]at c0
   obtain ⟨h1,h2,h3⟩:=hs
   have c2:=zhR hH s.switches (fun x _=>zpH hH n x) (by omega)
   unfold stV stR at c1
   rcases zav Switch.id n s.switches with ⟨h4,h5⟩|⟨k,hk,h4,h5⟩
   ·rw[if_neg (fun ⟨t,ht,e⟩=>h5 t ht e)]
    rw[h4]at c2
    refine PC.fn hH cd74 fun w0 M Q hM hE hQ hR=>?_;dsimp only[cd74,qm,ql,qf,qi,qb,qc,qp,qv,qN,qT,qF,qt]at hQ ⊢
    skip
    (repeat' first|refine zaa [0,1,2,3,4,5,6,8,9,10,11,16,26,33] fun K hK=>?_|(refine hK.go ?_;clear hK K)|with_reducible exact wT|refine wA ?_|(refine wB (fun h=>?_) (fun h=>?_)<;>first|exact wN h|subst (h:(_:Bool)=_)|skip)|(refine wQ ?_;clear hQ hR)|refine wC c0 ?_|refine wO c1 ?_|(refine AC.callK 30 (by omega) (by first|omega|exact wF|((refine no_implicit_lambda% (st ?_);try with_reducible exact wT);omega)) (zam (F:=cd87) (hH.has _ _ rfl) (Nat.le_of_ble_eq_true rfl) fun Q hQ hR=>?_);dsimp only[cd87,qm,ql,qf,qi,qb,qc,qp,qv,qN,qT,qF,qt]at hQ ⊢;try (refine no_implicit_lambda% (st ?_);try with_reducible exact wT))|refine wS c2 ?_|fail)
    all_goals first|rfl|(exfalso;contradiction)|skip
   ·rw[if_pos ⟨_,zab hk,h5⟩]at he ⊢
    rw[h4]at c2
    by_cases hv:0≤v∧v≤2
    ·rw[if_pos hv]at he;exact absurd rfl he
    ·rw[if_neg hv]
     refine PC.fn hH cd74 fun w0 M Q hM hE hQ hR=>?_;dsimp only[cd74,qm,ql,qf,qi,qb,qc,qp,qv,qN,qT,qF,qt]at hQ ⊢
     skip
     (repeat' first|refine zaa [0,1,2,3,4,5,6,8,9,10,11,16,26,33] fun K hK=>?_|(refine hK.go ?_;clear hK K)|with_reducible exact wT|refine wA ?_|(refine wB (fun h=>?_) (fun h=>?_)<;>first|exact wN h|subst (h:(_:Bool)=_)|skip)|(refine wQ ?_;clear hQ hR)|refine wC c0 ?_|refine wO c1 ?_|(refine AC.callK 30 (by omega) (by first|omega|exact wF|((refine no_implicit_lambda% (st ?_);try with_reducible exact wT);omega)) (zam (F:=cd87) (hH.has _ _ rfl) (Nat.le_of_ble_eq_true rfl) fun Q hQ hR=>?_);dsimp only[cd87,qm,ql,qf,qi,qb,qc,qp,qv,qN,qT,qF,qt]at hQ ⊢;try (refine no_implicit_lambda% (st ?_);try with_reducible exact wT))|refine wS c2 ?_|fail)
     all_goals first|rfl|(exfalso;omega)|skip
  ·rw[if_neg hc]
   generalize zag p s=e at c0 hc ⊢
   refine PC.fn hH cd74 fun w0 M Q hM hE hQ hR=>?_;dsimp only[cd74,qm,ql,qf,qi,qb,qc,qp,qv,qN,qT,qF,qt]at hQ ⊢
   (repeat' first|refine zaa [0,1,2,3,4,5,6,8,9,10,11,16,26,33] fun K hK=>?_|(refine hK.go ?_;clear hK K)|with_reducible exact wT|refine wA ?_|(refine wB (fun h=>?_) (fun h=>?_)<;>first|exact wN h|subst (h:(_:Bool)=_)|skip)|(refine wQ ?_;clear hQ hR hE hM)|refine wC c0 ?_|fail)
   all_goals first|rfl|(exfalso;contradiction)|skip
end Go.Lev
namespace Go.Lev
open Go.Eng
set_option maxRecDepth 10000
set_option maxHeartbeats 4000000
variable {P:Program} {inv:Nat→Option Nat} {w0:World} {M:Nat→Prop}
theorem zoG {s:State} (h:SmS s) (n v:Int):SmS (zkc s n v):=⟨by unfold zkc;dsimp only;rw[zbe];exact h.1,h.2⟩
theorem zoH {s:State} (h:SmS s) (n v:Int):SmS (zkq s n v):=⟨h.1,by unfold zkq;dsimp only;rw[zbe];exact h.2.1,h.2.2⟩
end Go.Lev
namespace Go.Lev
open Go.Eng
set_option maxRecDepth 10000
set_option maxHeartbeats 4000000
variable {P:Program} {inv:Nat→Option Nat} {w0:World} {M:Nat→Prop}
theorem trk_ix (hH:HasAll P inv) {p:Pln} (hp:Sm p) {s:State} (hst:zag p s=0) (n:Int):(¬zlV s n∧PC P inv 293 [.agg p.c,.n n] (·=.n (-1)))∨∃ k:Nat,k<p.sections.length∧k<s.tracks.length∧(nth s.tracks k).id=n∧zlV s n∧PC P inv 293 [.agg p.c,.n n] (·=.n k):=by
 have hpa:=(zad hst).2.1
 have hpl:=zap hpa
 have c1:=zjr hH p (by have:=hp.sec;omega) n
 have hids:=zfX hpa
 rcases zav Section.id n p.sections with ⟨h4,h5⟩|⟨k,hk,h4,h5⟩
 ·rw[h4]at c1
  refine .inl ⟨?_,c1⟩
  rintro ⟨t,ht,e⟩
  have h1:t.id∈s.tracks.map Track.id:=List.mem_map_of_mem ht
  rw[hids]at h1
  obtain ⟨x,hx,ex⟩:=List.mem_map.1 h1
  exact h5 x hx (ex.trans e)
 ·rw[h4]at c1
  have hks:k<s.tracks.length:=by omega
  have h1:=(zcp _ _ _).1 (by simp only[zak,Bool.and_eq_true]at hpa;exact hpa.1)
  have h2:=h1.2 k hks
  simp only[zeS,Bool.and_eq_true,decide_eq_true_eq]at h2
  have h3:(nth s.tracks k).id=n:=h2.1.trans h5
  exact .inr ⟨k,hk,hks,h3,⟨_,zab hks,h3⟩,c1⟩
theorem swt_ix (hH:HasAll P inv) {p:Pln} (hp:Sm p) {s:State} (hst:zag p s=0) (n:Int):(¬zlW s n∧PC P inv 294 [.agg p.c,.n n] (·=.n (-1)))∨∃ k:Nat,k<p.points.length∧k<s.switches.length∧(nth s.switches k).id=n∧zlW s n∧PC P inv 294 [.agg p.c,.n n] (·=.n k):=by
 have hpa:=(zad hst).2.1
 have hpl:=zap hpa
 have c1:=zdO hH p (by have:=hp.pts;omega) n
 have hids:=zcR hpa
 rcases zav Pnt.id n p.points with ⟨h4,h5⟩|⟨k,hk,h4,h5⟩
 ·rw[h4]at c1
  refine .inl ⟨?_,c1⟩
  rintro ⟨t,ht,e⟩
  have h1:t.id∈s.switches.map Switch.id:=List.mem_map_of_mem ht
  rw[hids]at h1
  obtain ⟨x,hx,ex⟩:=List.mem_map.1 h1
  exact h5 x hx (ex.trans e)
 ·rw[h4]at c1
  have hks:k<s.switches.length:=by omega
  have h3:(nth s.switches k).id=n:=(zjk hpa hks).trans h5
  exact .inr ⟨k,hk,hks,h3,⟨_,zab hks,h3⟩,c1⟩
theorem sec16_pc (hH:HasAll P inv) (p:Pln) (hp:Sm p) (s:State) (hs:SmS s) (n v:Int):PC P inv 285 [.agg p.c,.agg s.c,.n n,.n v] (·=.tup [.agg (secR p s n v).c,.n (zbO p s n v)]):=by
 have c0:=zbw hH p hp s hs
 have hl1:=hs.1
 by_cases hst:zag p s=0
 ·rw[hst]at c0
  rcases trk_ix hH hp hst n with ⟨hno,c1⟩|⟨k,hk,hks,hid,hyes,c1⟩
  ·have e:zbO p s n v=6:=by unfold zbO;rw[if_pos hst,if_neg hno]
   unfold secR
   rw[e,if_neg (by decide)]
   refine PC.fn hH cd285 fun w0 M Q hM hE hQ hR=>?_;dsimp only[cd285,qm,ql,qf,qi,qb,qc,qp,qv,qN,qT,qF,qt]at hQ ⊢
   (repeat' first|refine zaa [0,1,2,3,4,5,8,9,10,11,16,23,30] fun K hK=>?_|(refine hK.go ?_;clear hK K)|with_reducible exact wT|refine wA ?_|(refine wB (fun h=>?_) (fun h=>?_)<;>first|exact wN h|subst (h:(_:Bool)=_)|skip)|(refine wQ ?_;clear hQ hR hE hM)|refine wC c0 ?_|refine wC c1 ?_|fail)
   all_goals first|rfl|(exfalso;contradiction)|trace_state
  ·by_cases hv:v=0∨v=1
   ·have e:zbO p s n v=0:=by unfold zbO;rw[if_pos hst,if_pos hyes,if_pos hv]
    suffices h:PO P inv 285 [.agg p.c,.agg s.c,.n n,.n v] (.tup [zen 5 (zkc s n v),.n 0]) (zdn 5 (zkc s n v)) by
     have:=h.pc
     rw[zbL]at this
     unfold secR
     rw[e,if_pos rfl]
     exact this
    have c3:=zcd hH s hs
    have hno:(s.tracks.map Track.id).Nodup:=by rw[zfX (zad hst).2.1];exact zfk (zar hst)
    have e1:=zcE Track.id n (fun t=>(⟨t.id,v⟩:Track)) hno hks hid
    have e2:=zaz (c:=Track.c) (l:=s.tracks) (k:=k) (i:=1) hks (by omega) (.i .u8 v) (⟨(nth s.tracks k).id,v⟩:Track) rfl
    rw[e1]at e2
    unfold stV stR at c3
    clear e e1 hno hst hyes
    rcases hv with rfl|rfl
    ·refine PO.fn hH cd285 fun w0 M Q hM hE hQ hR=>?_;dsimp only[cd285,qm,ql,qf,qi,qb,qc,qp,qv,qN,qT,qF,qt]at hQ ⊢
     (have hX:=zA @e2 @Int.toNat_natCast;(repeat' first|refine zaa [0,1,2,3,4,5,8,9,10,11,16,23,30] fun K hK=>?_|(refine hK.go ?_;clear hK K)|with_reducible exact wT|refine wA ?_|(refine wB (fun h=>?_) (fun h=>?_)<;>first|exact wN h|subst (h:(_:Bool)=_)|skip)|(refine wR ?_;clear hQ hR hE hM)|refine wC c0 ?_|refine wC c1 ?_|refine wO c3 ?_|fail);all_goals clear hX)
     all_goals first|(exfalso;omega)|skip
     all_goals (left;unfold zen zdn zkc;dsimp only;rw[zbe];constructor)
     all_goals (refine no_implicit_lambda% (st ?_);try with_reducible exact wT)
    ·refine PO.fn hH cd285 fun w0 M Q hM hE hQ hR=>?_;dsimp only[cd285,qm,ql,qf,qi,qb,qc,qp,qv,qN,qT,qF,qt]at hQ ⊢
     (have hX:=zA @e2 @Int.toNat_natCast;(repeat' first|refine zaa [0,1,2,3,4,5,8,9,10,11,16,23,30] fun K hK=>?_|(refine hK.go ?_;clear hK K)|with_reducible exact wT|refine wA ?_|(refine wB (fun h=>?_) (fun h=>?_)<;>first|exact wN h|subst (h:(_:Bool)=_)|skip)|(refine wR ?_;clear hQ hR hE hM)|refine wC c0 ?_|refine wC c1 ?_|refine wO c3 ?_|fail);all_goals clear hX)
     all_goals first|(exfalso;omega)|skip
     all_goals (left;unfold zen zdn zkc;dsimp only;rw[zbe];constructor)
     all_goals (refine no_implicit_lambda% (st ?_);try with_reducible exact wT)
   ·have e:zbO p s n v=2:=by unfold zbO;rw[if_pos hst,if_pos hyes,if_neg hv]
    unfold secR
    rw[e,if_neg (by decide)]
    clear e hst hyes
    refine PC.fn hH cd285 fun w0 M Q hM hE hQ hR=>?_;dsimp only[cd285,qm,ql,qf,qi,qb,qc,qp,qv,qN,qT,qF,qt]at hQ ⊢
    (repeat' first|refine zaa [0,1,2,3,4,5,8,9,10,11,16,23,30] fun K hK=>?_|(refine hK.go ?_;clear hK K)|with_reducible exact wT|refine wA ?_|(refine wB (fun h=>?_) (fun h=>?_)<;>first|exact wN h|subst (h:(_:Bool)=_)|skip)|(refine wQ ?_;clear hQ hR hE hM)|refine wC c0 ?_|refine wC c1 ?_|fail)
    all_goals first|rfl|(exfalso;contradiction)|(exfalso;omega)|trace_state
 ·have e:zbO p s n v=zag p s:=by unfold zbO;rw[if_neg hst]
  unfold secR
  rw[e,if_neg hst]
  clear e
  generalize zag p s=e at *
  refine PC.fn hH cd285 fun w0 M Q hM hE hQ hR=>?_;dsimp only[cd285,qm,ql,qf,qi,qb,qc,qp,qv,qN,qT,qF,qt]at hQ ⊢
  (repeat' first|refine zaa [0,1,2,3,4,5,8,9,10,11,16,23,30] fun K hK=>?_|(refine hK.go ?_;clear hK K)|with_reducible exact wT|refine wA ?_|(refine wB (fun h=>?_) (fun h=>?_)<;>first|exact wN h|subst (h:(_:Bool)=_)|skip)|(refine wQ ?_;clear hQ hR hE hM)|refine wC c0 ?_|fail)
  all_goals first|rfl|(exfalso;contradiction)|trace_state
theorem det16_pc (hH:HasAll P inv) (p:Pln) (hp:Sm p) (s:State) (hs:SmS s) (n v:Int):PC P inv 286 [.agg p.c,.agg s.c,.n n,.n v] (·=.tup [.agg (zma p s n v).c,.n (zbH p s n v)]):=by
 have c0:=zbw hH p hp s hs
 have hl1:=hs.2.1
 by_cases hst:zag p s=0
 ·rw[hst]at c0
  rcases swt_ix hH hp hst n with ⟨hno,c1⟩|⟨k,hk,hks,hid,hyes,c1⟩
  ·have e:zbH p s n v=6:=by unfold zbH;rw[if_pos hst,if_neg hno]
   unfold zma
   rw[e,if_neg (by decide)]
   refine PC.fn hH cd286 fun w0 M Q hM hE hQ hR=>?_;dsimp only[cd286,qm,ql,qf,qi,qb,qc,qp,qv,qN,qT,qF,qt]at hQ ⊢
   (repeat' first|refine zaa [0,1,2,3,4,5,8,9,10,11,16,23,30] fun K hK=>?_|(refine hK.go ?_;clear hK K)|with_reducible exact wT|refine wA ?_|(refine wB (fun h=>?_) (fun h=>?_)<;>first|exact wN h|subst (h:(_:Bool)=_)|skip)|(refine wQ ?_;clear hQ hR hE hM)|refine wC c0 ?_|refine wC c1 ?_|fail)
   all_goals first|rfl|(exfalso;contradiction)|trace_state
  ·by_cases hv:0≤v∧v≤2
   ·have e:zbH p s n v=0:=by unfold zbH;rw[if_pos hst,if_pos hyes,if_pos hv]
    suffices h:PO P inv 286 [.agg p.c,.agg s.c,.n n,.n v] (.tup [zen 5 (zkq s n v),.n 0]) (zdn 5 (zkq s n v)) by
     have:=h.pc
     rw[zbL]at this
     unfold zma
     rw[e,if_pos rfl]
     exact this
    have c3:=zcd hH s hs
    have hno:(s.switches.map Switch.id).Nodup:=by rw[zcR (zad hst).2.1];exact zbJ (zar hst)
    have e1:=zcE Switch.id n (fun t=>(⟨t.id,v,t.call⟩:Switch)) hno hks hid
    have e2:=zaz (c:=Switch.c) (l:=s.switches) (k:=k) (i:=1) hks (by omega) (.i .i64 v) (⟨(nth s.switches k).id,v,(nth s.switches k).call⟩:Switch) rfl
    rw[e1]at e2
    unfold stV stR at c3
    clear e e1 hno hst hyes
    refine PO.fn hH cd286 fun w0 M Q hM hE hQ hR=>?_;dsimp only[cd286,qm,ql,qf,qi,qb,qc,qp,qv,qN,qT,qF,qt]at hQ ⊢
    (have hX:=zA @e2 @Int.toNat_natCast;(repeat' first|refine zaa [0,1,2,3,4,5,8,9,10,11,16,23,30] fun K hK=>?_|(refine hK.go ?_;clear hK K)|with_reducible exact wT|refine wA ?_|(refine wB (fun h=>?_) (fun h=>?_)<;>first|exact wN h|subst (h:(_:Bool)=_)|skip)|(refine wR ?_;clear hQ hR hE hM)|refine wC c0 ?_|refine wC c1 ?_|refine wO c3 ?_|fail);all_goals clear hX)
    all_goals first|(exfalso;omega)|skip
    all_goals (left;unfold zen zdn zkq;dsimp only;rw[zbe];constructor)
    all_goals (refine no_implicit_lambda% (st ?_);try with_reducible exact wT)
   ·have e:zbH p s n v=2:=by unfold zbH;rw[if_pos hst,if_pos hyes,if_neg hv]
    unfold zma
    rw[e,if_neg (by decide)]
    clear e hst hyes
    refine PC.fn hH cd286 fun w0 M Q hM hE hQ hR=>?_;dsimp only[cd286,qm,ql,qf,qi,qb,qc,qp,qv,qN,qT,qF,qt]at hQ ⊢
    (repeat' first|refine zaa [0,1,2,3,4,5,8,9,10,11,16,23,30] fun K hK=>?_|(refine hK.go ?_;clear hK K)|with_reducible exact wT|refine wA ?_|(refine wB (fun h=>?_) (fun h=>?_)<;>first|exact wN h|subst (h:(_:Bool)=_)|skip)|(refine wQ ?_;clear hQ hR hE hM)|refine wC c0 ?_|refine wC c1 ?_|fail)
    all_goals first|rfl|(exfalso;contradiction)|(exfalso;omega)|trace_state
 ·have e:zbH p s n v=zag p s:=by unfold zbH;rw[if_neg hst]
  unfold zma
  rw[e,if_neg hst]
  clear e
  generalize zag p s=e at *
  refine PC.fn hH cd286 fun w0 M Q hM hE hQ hR=>?_;dsimp only[cd286,qm,ql,qf,qi,qb,qc,qp,qv,qN,qT,qF,qt]at hQ ⊢
  (repeat' first|refine zaa [0,1,2,3,4,5,8,9,10,11,16,23,30] fun K hK=>?_|(refine hK.go ?_;clear hK K)|with_reducible exact wT|refine wA ?_|(refine wB (fun h=>?_) (fun h=>?_)<;>first|exact wN h|subst (h:(_:Bool)=_)|skip)|(refine wQ ?_;clear hQ hR hE hM)|refine wC c0 ?_|fail)
  all_goals first|rfl|(exfalso;contradiction)|trace_state
end Go.Lev
namespace Go.Lev
open Go.Eng
set_option maxRecDepth 10000
set_option maxHeartbeats 4000000
variable {P:Program} {inv:Nat→Option Nat} {w0:World} {M:Nat→Prop}
theorem inputTells_pc (hH:HasAll P inv) (hI:HasIds P inv) (p:Pln) (hp:Pln.ok p) (s:State) (n v:Int):PC P inv 283 [.agg p.c,.agg s.c,.n n,.n v] (·=.b true):=by
 have c1:=zdj hH p
 have c2:=zfg hH s
 cases g1:zgx p with
 |true =>
  rw[g1]at c1
  refine PC.fn hH cd283 fun w0 M Q hM hE hQ hR=>?_;dsimp only[cd283,qm,ql,qf,qi,qb,qc,qp,qv,qN,qT,qF,qt]at hQ ⊢
  (repeat' first|refine zaa [0,1,2,3,4,5,8,9,10,11,12,13,14,15,16,17,23,77] fun K hK=>?_|(refine hK.go ?_;clear hK K)|with_reducible exact wT|refine wA ?_|(refine wB (fun h=>?_) (fun h=>?_)<;>first|exact wN h|subst (h:(_:Bool)=_)|skip)|(refine wQ ?_;clear hQ hR hE hM)|refine wC c1 ?_|fail)
 |false =>
  rw[g1]at c1
  cases g2:zhV s with
  |true =>
   rw[g2]at c2
   refine PC.fn hH cd283 fun w0 M Q hM hE hQ hR=>?_;dsimp only[cd283,qm,ql,qf,qi,qb,qc,qp,qv,qN,qT,qF,qt]at hQ ⊢
   (repeat' first|refine zaa [0,1,2,3,4,5,8,9,10,11,12,13,14,15,16,17,23,77] fun K hK=>?_|(refine hK.go ?_;clear hK K)|with_reducible exact wT|refine wA ?_|(refine wB (fun h=>?_) (fun h=>?_)<;>first|exact wN h|subst (h:(_:Bool)=_)|skip)|(refine wQ ?_;clear hQ hR hE hM)|refine wC c1 ?_|refine wC c2 ?_|fail)
  |false =>
   rw[g2]at c2
   have sp:=sm_of hp g1
   have ss:=zms g2
   have c3:=zcd hH s ss
   have c4:=sec16_pc hH p sp s ss n v
   have c5:=det16_pc hH p sp s ss n v
   have c7:=za6 hH ss (rfl:s=s)
   have hl1:=ss.1
   have hl2:=ss.2.1
   have hl3:=ss.2.2
   unfold stV stR at c3
   by_cases hA:zbO p s n v=0
   ·by_cases hB:zbH p s n v=0
    ·have kA:=zoN hH hI p sp s ss n v hA
     have eA:secR p s n v=zkc s n v:=by unfold secR;rw[if_pos hA]
     have sA:=zoG ss n v
     have qA:=za6 hH sA (rfl:zkc s n v=_)
     have rA:=ze0 6 (zkc s n v)
     rw[eA,hA]at c4
     have lA1:=sA.1
     have lA2:=sA.2.1
     have lA3:=sA.2.2
     clear eA
     generalize zkc s n v=TA at *
     unfold zen zdn at kA
     unfold zdn at rA
     have kB:=zqg hH hI p sp s ss n v hB
     have eB:zma p s n v=zkq s n v:=by unfold zma;rw[if_pos hB]
     have sB:=zoH ss n v
     have qB:=za6 hH sB (rfl:zkq s n v=_)
     have rB:=ze0 6 (zkq s n v)
     rw[eB,hB]at c5
     have lB1:=sB.1
     have lB2:=sB.2.1
     have lB3:=sB.2.2
     clear eB
     generalize zkq s n v=TB at *
     unfold zen zdn at kB
     unfold zdn at rB
     refine PC.fn hH cd283 fun w0 M Q hM hE hQ hR=>?_;dsimp only[cd283,qm,ql,qf,qi,qb,qc,qp,qv,qN,qT,qF,qt]at hQ ⊢
     skip
     (repeat' first|refine zaa [0,1,2,3,4,5,8,9,10,11,12,13,14,15,16,17,21,23,33,77] fun K hK=>?_|(refine hK.go ?_;clear hK K)|with_reducible exact wT|refine wA ?_|(refine wB (fun h=>?_) (fun h=>?_)<;>first|exact wN h|subst (h:(_:Bool)=_)|skip)|(refine wQ ?_;clear hQ hR)|refine wC c1 ?_|refine wC c2 ?_|refine wO c3 ?_|refine wV kA ?_|refine wC c4 ?_|refine wV kB ?_|refine wC c5 ?_|refine wS qA ?_|refine wS qB ?_|(refine AC.callK 60 (by omega) (by first|omega|exact wF|((refine no_implicit_lambda% (st ?_);try with_reducible exact wT);omega)) (zam (F:=cd287) (hH.has _ _ rfl) (Nat.le_of_ble_eq_true rfl) fun Q hQ hR=>?_);dsimp only[cd287,qm,ql,qf,qi,qb,qc,qp,qv,qN,qT,qF,qt]at hQ ⊢;try (refine no_implicit_lambda% (st ?_);try with_reducible exact wT))|fail)
     all_goals first|(exfalso;contradiction)|skip
     skip
     refine zae (ι:=Nat) [1,2] (fun z=>[(2,.n z)]) (fun z=>[(14,.cells ((zbN t9 z TA.tracks).map Track.c).flatten (decide (0<TA.tracks.length)))]) (fun z=>z) (TA.tracks.length) (fun _=>True) (0) ?_;rintro kA0 ⟨hk,-⟩;(try dsimp only at hk ⊢);rcases Nat.lt_or_ge kA0 TA.tracks.length with hlt|hge
     ·have hlt2:kA0<TA.tracks.length:=by assumption
      have d1:=zaX t9 hlt2
      have d2:=zaz (c:=Track.c) (l:=zbN t9 kA0 TA.tracks) (k:=kA0) (i:=1) (by rw[zaB];exact hlt2) (by omega) (.i .u8 9) (t9 kA0 (nth TA.tracks kA0)) (by rw[zaI _ hlt2];rfl)
      rw[d1]at d2
      (have hX:=@d2;(repeat' first|refine zaa [0,1,2,3,4,5,8,9,10,11,12,13,14,15,16,17,21,23,33,77] fun K hK=>?_|(refine hK.go ?_;clear hK K)|with_reducible exact wT|refine wA ?_|(refine wB (fun h=>?_) (fun h=>?_)<;>first|exact wN h|subst (h:(_:Bool)=_)|skip)|(refine wQ ?_;clear hQ hR)|fail);all_goals clear hX)
      all_goals first|(exfalso;contradiction)|exact ⟨kA0+1,by omega,by omega,by omega,rfl⟩|trace_state
     ·(repeat' first|refine zaa [0,1,2,3,4,5,8,9,10,11,12,13,14,15,16,17,21,23,33,77] fun K hK=>?_|(refine hK.go ?_;clear hK K)|with_reducible exact wT|refine wA ?_|(refine wB (fun h=>?_) (fun h=>?_)<;>first|exact wN h|subst (h:(_:Bool)=_)|skip)|(refine wQ ?_;clear hQ hR)|fail)
      refine zae (ι:=Nat) [1,3] (fun z=>[(3,.n z)]) (fun z=>[(15,.cells ((zbN w9l z TA.switches).map Switch.c).flatten (decide (0<TA.switches.length)))]) (fun z=>z) (TA.switches.length) (fun _=>True) (0) ?_;rintro kA1 ⟨hk,-⟩;(try dsimp only at hk ⊢);rcases Nat.lt_or_ge kA1 TA.switches.length with hlt|hge
      ·have hlt2:kA1<TA.switches.length:=by assumption
       have d1:=zaX w9l hlt2
       have d2:=zaz (c:=Switch.c) (l:=zbN w9l kA1 TA.switches) (k:=kA1) (i:=1) (by rw[zaB];exact hlt2) (by omega) (.i .i64 9) (w9l kA1 (nth TA.switches kA1)) (by rw[zaI _ hlt2];rfl)
       rw[d1]at d2
       (have hX:=@d2;(repeat' first|refine zaa [0,1,2,3,4,5,8,9,10,11,12,13,14,15,16,17,21,23,33,77] fun K hK=>?_|(refine hK.go ?_;clear hK K)|with_reducible exact wT|refine wA ?_|(refine wB (fun h=>?_) (fun h=>?_)<;>first|exact wN h|subst (h:(_:Bool)=_)|skip)|(refine wQ ?_;clear hQ hR)|fail);all_goals clear hX)
       all_goals first|(exfalso;contradiction)|exact ⟨kA1+1,by omega,by omega,by omega,rfl⟩|trace_state
      ·(repeat' first|refine zaa [0,1,2,3,4,5,8,9,10,11,12,13,14,15,16,17,21,23,33,77] fun K hK=>?_|(refine hK.go ?_;clear hK K)|with_reducible exact wT|refine wA ?_|(refine wB (fun h=>?_) (fun h=>?_)<;>first|exact wN h|subst (h:(_:Bool)=_)|skip)|(refine wQ ?_;clear hQ hR)|fail)
       refine zae (ι:=Nat) [1,4] (fun z=>[(4,.n z)]) (fun z=>[(16,.cells ((zbN k9 z TA.locks).map Lock.c).flatten (decide (0<TA.locks.length)))]) (fun z=>z) (TA.locks.length) (fun _=>True) (0) ?_;rintro kA2 ⟨hk,-⟩;(try dsimp only at hk ⊢);rcases Nat.lt_or_ge kA2 TA.locks.length with hlt|hge
       ·have hlt2:kA2<TA.locks.length:=by assumption
        have d1:=zaX k9 hlt2
        have d2:=zaz (c:=Lock.c) (l:=zbN k9 kA2 TA.locks) (k:=kA2) (i:=1) (by rw[zaB];exact hlt2) (by omega) (.i .u8 9) (k9 kA2 (nth TA.locks kA2)) (by rw[zaI _ hlt2];rfl)
        rw[d1]at d2
        (have hX:=@d2;(repeat' first|refine zaa [0,1,2,3,4,5,8,9,10,11,12,13,14,15,16,17,21,23,33,77] fun K hK=>?_|(refine hK.go ?_;clear hK K)|with_reducible exact wT|refine wA ?_|(refine wB (fun h=>?_) (fun h=>?_)<;>first|exact wN h|subst (h:(_:Bool)=_)|skip)|(refine wQ ?_;clear hQ hR)|fail);all_goals clear hX)
        all_goals first|(exfalso;contradiction)|exact ⟨kA2+1,by omega,by omega,by omega,rfl⟩|trace_state
       ·(repeat' first|refine zaa [0,1,2,3,4,5,8,9,10,11,12,13,14,15,16,17,21,23,33,77] fun K hK=>?_|(refine hK.go ?_;clear hK K)|with_reducible exact wT|refine wA ?_|(refine wB (fun h=>?_) (fun h=>?_)<;>first|exact wN h|subst (h:(_:Bool)=_)|skip)|(refine wQ ?_;clear hQ hR)|(refine AC.callK 90 (by omega) (by first|omega|exact wF|((refine no_implicit_lambda% (st ?_);try with_reducible exact wT);omega)) (zam (F:=cd287) (hH.has _ _ rfl) (Nat.le_of_ble_eq_true rfl) fun Q hQ hR=>?_);dsimp only[cd287,qm,ql,qf,qi,qb,qc,qp,qv,qN,qT,qF,qt]at hQ ⊢;try (refine no_implicit_lambda% (st ?_);try with_reducible exact wT))|refine wS c7 ?_|fail)
        refine zae (ι:=Nat) [1,2] (fun z=>[(2,.n z)]) (fun z=>[(25,.cells ((zbN t9 z TB.tracks).map Track.c).flatten (decide (0<TB.tracks.length)))]) (fun z=>z) (TB.tracks.length) (fun _=>True) (0) ?_;rintro kB0 ⟨hk,-⟩;(try dsimp only at hk ⊢);rcases Nat.lt_or_ge kB0 TB.tracks.length with hlt|hge
        ·have hlt2:kB0<TB.tracks.length:=by assumption
         have d1:=zaX t9 hlt2
         have d2:=zaz (c:=Track.c) (l:=zbN t9 kB0 TB.tracks) (k:=kB0) (i:=1) (by rw[zaB];exact hlt2) (by omega) (.i .u8 9) (t9 kB0 (nth TB.tracks kB0)) (by rw[zaI _ hlt2];rfl)
         rw[d1]at d2
         (have hX:=@d2;(repeat' first|refine zaa [0,1,2,3,4,5,8,9,10,11,12,13,14,15,16,17,21,23,33,77] fun K hK=>?_|(refine hK.go ?_;clear hK K)|with_reducible exact wT|refine wA ?_|(refine wB (fun h=>?_) (fun h=>?_)<;>first|exact wN h|subst (h:(_:Bool)=_)|skip)|(refine wQ ?_;clear hQ hR)|fail);all_goals clear hX)
         all_goals first|(exfalso;contradiction)|exact ⟨kB0+1,by omega,by omega,by omega,rfl⟩|trace_state
        ·(repeat' first|refine zaa [0,1,2,3,4,5,8,9,10,11,12,13,14,15,16,17,21,23,33,77] fun K hK=>?_|(refine hK.go ?_;clear hK K)|with_reducible exact wT|refine wA ?_|(refine wB (fun h=>?_) (fun h=>?_)<;>first|exact wN h|subst (h:(_:Bool)=_)|skip)|(refine wQ ?_;clear hQ hR)|fail)
         refine zae (ι:=Nat) [1,3] (fun z=>[(3,.n z)]) (fun z=>[(26,.cells ((zbN w9l z TB.switches).map Switch.c).flatten (decide (0<TB.switches.length)))]) (fun z=>z) (TB.switches.length) (fun _=>True) (0) ?_;rintro kB1 ⟨hk,-⟩;(try dsimp only at hk ⊢);rcases Nat.lt_or_ge kB1 TB.switches.length with hlt|hge
         ·have hlt2:kB1<TB.switches.length:=by assumption
          have d1:=zaX w9l hlt2
          have d2:=zaz (c:=Switch.c) (l:=zbN w9l kB1 TB.switches) (k:=kB1) (i:=1) (by rw[zaB];exact hlt2) (by omega) (.i .i64 9) (w9l kB1 (nth TB.switches kB1)) (by rw[zaI _ hlt2];rfl)
          rw[d1]at d2
          (have hX:=@d2;(repeat' first|refine zaa [0,1,2,3,4,5,8,9,10,11,12,13,14,15,16,17,21,23,33,77] fun K hK=>?_|(refine hK.go ?_;clear hK K)|with_reducible exact wT|refine wA ?_|(refine wB (fun h=>?_) (fun h=>?_)<;>first|exact wN h|subst (h:(_:Bool)=_)|skip)|(refine wQ ?_;clear hQ hR)|fail);all_goals clear hX)
          all_goals first|(exfalso;contradiction)|exact ⟨kB1+1,by omega,by omega,by omega,rfl⟩|trace_state
         ·(repeat' first|refine zaa [0,1,2,3,4,5,8,9,10,11,12,13,14,15,16,17,21,23,33,77] fun K hK=>?_|(refine hK.go ?_;clear hK K)|with_reducible exact wT|refine wA ?_|(refine wB (fun h=>?_) (fun h=>?_)<;>first|exact wN h|subst (h:(_:Bool)=_)|skip)|(refine wQ ?_;clear hQ hR)|fail)
          refine zae (ι:=Nat) [1,4] (fun z=>[(4,.n z)]) (fun z=>[(27,.cells ((zbN k9 z TB.locks).map Lock.c).flatten (decide (0<TB.locks.length)))]) (fun z=>z) (TB.locks.length) (fun _=>True) (0) ?_;rintro kB2 ⟨hk,-⟩;(try dsimp only at hk ⊢);rcases Nat.lt_or_ge kB2 TB.locks.length with hlt|hge
          ·have hlt2:kB2<TB.locks.length:=by assumption
           have d1:=zaX k9 hlt2
           have d2:=zaz (c:=Lock.c) (l:=zbN k9 kB2 TB.locks) (k:=kB2) (i:=1) (by rw[zaB];exact hlt2) (by omega) (.i .u8 9) (k9 kB2 (nth TB.locks kB2)) (by rw[zaI _ hlt2];rfl)
           rw[d1]at d2
           (have hX:=@d2;(repeat' first|refine zaa [0,1,2,3,4,5,8,9,10,11,12,13,14,15,16,17,21,23,33,77] fun K hK=>?_|(refine hK.go ?_;clear hK K)|with_reducible exact wT|refine wA ?_|(refine wB (fun h=>?_) (fun h=>?_)<;>first|exact wN h|subst (h:(_:Bool)=_)|skip)|(refine wQ ?_;clear hQ hR)|fail);all_goals clear hX)
           all_goals first|(exfalso;contradiction)|exact ⟨kB2+1,by omega,by omega,by omega,rfl⟩|trace_state
          ·(repeat' first|refine zaa [0,1,2,3,4,5,8,9,10,11,12,13,14,15,16,17,21,23,33,77] fun K hK=>?_|(refine hK.go ?_;clear hK K)|with_reducible exact wT|refine wA ?_|(refine wB (fun h=>?_) (fun h=>?_)<;>first|exact wN h|subst (h:(_:Bool)=_)|skip)|(refine wQ ?_;clear hQ hR)|(refine AC.callK 90 (by omega) (by first|omega|exact wF|((refine no_implicit_lambda% (st ?_);try with_reducible exact wT);omega)) (zam (F:=cd287) (hH.has _ _ rfl) (Nat.le_of_ble_eq_true rfl) fun Q hQ hR=>?_);dsimp only[cd287,qm,ql,qf,qi,qb,qc,qp,qv,qN,qT,qF,qt]at hQ ⊢;try (refine no_implicit_lambda% (st ?_);try with_reducible exact wT))|refine wS c7 ?_|fail)
           all_goals first|rfl|(exfalso;contradiction)|trace_state
    ·have kA:=zoN hH hI p sp s ss n v hA
     have eA:secR p s n v=zkc s n v:=by unfold secR;rw[if_pos hA]
     have sA:=zoG ss n v
     have qA:=za6 hH sA (rfl:zkc s n v=_)
     have rA:=ze0 6 (zkc s n v)
     rw[eA,hA]at c4
     have lA1:=sA.1
     have lA2:=sA.2.1
     have lA3:=sA.2.2
     clear eA
     generalize zkc s n v=TA at *
     unfold zen zdn at kA
     unfold zdn at rA
     have kB:=det_pc hH hI p sp s ss n v
     have eB:zma p s n v=State.z:=by unfold zma;rw[if_neg hB]
     have qB:=za6 hH smz (rfl:State.z=State.z)
     rw[eB]at c5 kB
     unfold State.z at c5 kB qB
     clear eB
     generalize zbH p s n v=xB at *
     refine PC.fn hH cd283 fun w0 M Q hM hE hQ hR=>?_;dsimp only[cd283,qm,ql,qf,qi,qb,qc,qp,qv,qN,qT,qF,qt]at hQ ⊢
     skip
     (repeat' first|refine zaa [0,1,2,3,4,5,8,9,10,11,12,13,14,15,16,17,21,23,33,77] fun K hK=>?_|(refine hK.go ?_;clear hK K)|with_reducible exact wT|refine wA ?_|(refine wB (fun h=>?_) (fun h=>?_)<;>first|exact wN h|subst (h:(_:Bool)=_)|skip)|(refine wQ ?_;clear hQ hR)|refine wC c1 ?_|refine wC c2 ?_|refine wO c3 ?_|refine wV kA ?_|refine wC c4 ?_|refine wS kB ?_|refine wC c5 ?_|refine wS qA ?_|refine wS qB ?_|(refine AC.callK 60 (by omega) (by first|omega|exact wF|((refine no_implicit_lambda% (st ?_);try with_reducible exact wT);omega)) (zam (F:=cd287) (hH.has _ _ rfl) (Nat.le_of_ble_eq_true rfl) fun Q hQ hR=>?_);dsimp only[cd287,qm,ql,qf,qi,qb,qc,qp,qv,qN,qT,qF,qt]at hQ ⊢;try (refine no_implicit_lambda% (st ?_);try with_reducible exact wT))|fail)
     all_goals first|(exfalso;contradiction)|skip
     skip
     refine zae (ι:=Nat) [1,2] (fun z=>[(2,.n z)]) (fun z=>[(14,.cells ((zbN t9 z TA.tracks).map Track.c).flatten (decide (0<TA.tracks.length)))]) (fun z=>z) (TA.tracks.length) (fun _=>True) (0) ?_;rintro kA0 ⟨hk,-⟩;(try dsimp only at hk ⊢);rcases Nat.lt_or_ge kA0 TA.tracks.length with hlt|hge
     ·have hlt2:kA0<TA.tracks.length:=by assumption
      have d1:=zaX t9 hlt2
      have d2:=zaz (c:=Track.c) (l:=zbN t9 kA0 TA.tracks) (k:=kA0) (i:=1) (by rw[zaB];exact hlt2) (by omega) (.i .u8 9) (t9 kA0 (nth TA.tracks kA0)) (by rw[zaI _ hlt2];rfl)
      rw[d1]at d2
      (have hX:=@d2;(repeat' first|refine zaa [0,1,2,3,4,5,8,9,10,11,12,13,14,15,16,17,21,23,33,77] fun K hK=>?_|(refine hK.go ?_;clear hK K)|with_reducible exact wT|refine wA ?_|(refine wB (fun h=>?_) (fun h=>?_)<;>first|exact wN h|subst (h:(_:Bool)=_)|skip)|(refine wQ ?_;clear hQ hR)|fail);all_goals clear hX)
      all_goals first|(exfalso;contradiction)|exact ⟨kA0+1,by omega,by omega,by omega,rfl⟩|trace_state
     ·(repeat' first|refine zaa [0,1,2,3,4,5,8,9,10,11,12,13,14,15,16,17,21,23,33,77] fun K hK=>?_|(refine hK.go ?_;clear hK K)|with_reducible exact wT|refine wA ?_|(refine wB (fun h=>?_) (fun h=>?_)<;>first|exact wN h|subst (h:(_:Bool)=_)|skip)|(refine wQ ?_;clear hQ hR)|fail)
      refine zae (ι:=Nat) [1,3] (fun z=>[(3,.n z)]) (fun z=>[(15,.cells ((zbN w9l z TA.switches).map Switch.c).flatten (decide (0<TA.switches.length)))]) (fun z=>z) (TA.switches.length) (fun _=>True) (0) ?_;rintro kA1 ⟨hk,-⟩;(try dsimp only at hk ⊢);rcases Nat.lt_or_ge kA1 TA.switches.length with hlt|hge
      ·have hlt2:kA1<TA.switches.length:=by assumption
       have d1:=zaX w9l hlt2
       have d2:=zaz (c:=Switch.c) (l:=zbN w9l kA1 TA.switches) (k:=kA1) (i:=1) (by rw[zaB];exact hlt2) (by omega) (.i .i64 9) (w9l kA1 (nth TA.switches kA1)) (by rw[zaI _ hlt2];rfl)
       rw[d1]at d2
       (have hX:=@d2;(repeat' first|refine zaa [0,1,2,3,4,5,8,9,10,11,12,13,14,15,16,17,21,23,33,77] fun K hK=>?_|(refine hK.go ?_;clear hK K)|with_reducible exact wT|refine wA ?_|(refine wB (fun h=>?_) (fun h=>?_)<;>first|exact wN h|subst (h:(_:Bool)=_)|skip)|(refine wQ ?_;clear hQ hR)|fail);all_goals clear hX)
       all_goals first|(exfalso;contradiction)|exact ⟨kA1+1,by omega,by omega,by omega,rfl⟩|trace_state
      ·(repeat' first|refine zaa [0,1,2,3,4,5,8,9,10,11,12,13,14,15,16,17,21,23,33,77] fun K hK=>?_|(refine hK.go ?_;clear hK K)|with_reducible exact wT|refine wA ?_|(refine wB (fun h=>?_) (fun h=>?_)<;>first|exact wN h|subst (h:(_:Bool)=_)|skip)|(refine wQ ?_;clear hQ hR)|fail)
       refine zae (ι:=Nat) [1,4] (fun z=>[(4,.n z)]) (fun z=>[(16,.cells ((zbN k9 z TA.locks).map Lock.c).flatten (decide (0<TA.locks.length)))]) (fun z=>z) (TA.locks.length) (fun _=>True) (0) ?_;rintro kA2 ⟨hk,-⟩;(try dsimp only at hk ⊢);rcases Nat.lt_or_ge kA2 TA.locks.length with hlt|hge
       ·have hlt2:kA2<TA.locks.length:=by assumption
        have d1:=zaX k9 hlt2
        have d2:=zaz (c:=Lock.c) (l:=zbN k9 kA2 TA.locks) (k:=kA2) (i:=1) (by rw[zaB];exact hlt2) (by omega) (.i .u8 9) (k9 kA2 (nth TA.locks kA2)) (by rw[zaI _ hlt2];rfl)
        rw[d1]at d2
        (have hX:=@d2;(repeat' first|refine zaa [0,1,2,3,4,5,8,9,10,11,12,13,14,15,16,17,21,23,33,77] fun K hK=>?_|(refine hK.go ?_;clear hK K)|with_reducible exact wT|refine wA ?_|(refine wB (fun h=>?_) (fun h=>?_)<;>first|exact wN h|subst (h:(_:Bool)=_)|skip)|(refine wQ ?_;clear hQ hR)|fail);all_goals clear hX)
        all_goals first|(exfalso;contradiction)|exact ⟨kA2+1,by omega,by omega,by omega,rfl⟩|trace_state
       ·(repeat' first|refine zaa [0,1,2,3,4,5,8,9,10,11,12,13,14,15,16,17,21,23,33,77] fun K hK=>?_|(refine hK.go ?_;clear hK K)|with_reducible exact wT|refine wA ?_|(refine wB (fun h=>?_) (fun h=>?_)<;>first|exact wN h|subst (h:(_:Bool)=_)|skip)|(refine wQ ?_;clear hQ hR)|(refine AC.callK 90 (by omega) (by first|omega|exact wF|((refine no_implicit_lambda% (st ?_);try with_reducible exact wT);omega)) (zam (F:=cd287) (hH.has _ _ rfl) (Nat.le_of_ble_eq_true rfl) fun Q hQ hR=>?_);dsimp only[cd287,qm,ql,qf,qi,qb,qc,qp,qv,qN,qT,qF,qt]at hQ ⊢;try (refine no_implicit_lambda% (st ?_);try with_reducible exact wT))|refine wS c7 ?_|fail)
        refine zae (ι:=Nat) [1,2] (fun z=>[(2,.n z)]) (fun _=>[]) (fun z=>z) (0) (fun _=>True) (0) ?_;rintro kB0 ⟨hk,-⟩;(try dsimp only at hk ⊢);rcases Nat.lt_or_ge kB0 0 with hlt|hge
        ·exact absurd (show kB0<0 by assumption) (by omega)
        ·(repeat' first|refine zaa [0,1,2,3,4,5,8,9,10,11,12,13,14,15,16,17,21,23,33,77] fun K hK=>?_|(refine hK.go ?_;clear hK K)|with_reducible exact wT|refine wA ?_|(refine wB (fun h=>?_) (fun h=>?_)<;>first|exact wN h|subst (h:(_:Bool)=_)|skip)|(refine wQ ?_;clear hQ hR)|fail)
         refine zae (ι:=Nat) [1,3] (fun z=>[(3,.n z)]) (fun _=>[]) (fun z=>z) (0) (fun _=>True) (0) ?_;rintro kB1 ⟨hk,-⟩;(try dsimp only at hk ⊢);rcases Nat.lt_or_ge kB1 0 with hlt|hge
         ·exact absurd (show kB1<0 by assumption) (by omega)
         ·(repeat' first|refine zaa [0,1,2,3,4,5,8,9,10,11,12,13,14,15,16,17,21,23,33,77] fun K hK=>?_|(refine hK.go ?_;clear hK K)|with_reducible exact wT|refine wA ?_|(refine wB (fun h=>?_) (fun h=>?_)<;>first|exact wN h|subst (h:(_:Bool)=_)|skip)|(refine wQ ?_;clear hQ hR)|fail)
          refine zae (ι:=Nat) [1,4] (fun z=>[(4,.n z)]) (fun _=>[]) (fun z=>z) (0) (fun _=>True) (0) ?_;rintro kB2 ⟨hk,-⟩;(try dsimp only at hk ⊢);rcases Nat.lt_or_ge kB2 0 with hlt|hge
          ·exact absurd (show kB2<0 by assumption) (by omega)
          ·(repeat' first|refine zaa [0,1,2,3,4,5,8,9,10,11,12,13,14,15,16,17,21,23,33,77] fun K hK=>?_|(refine hK.go ?_;clear hK K)|with_reducible exact wT|refine wA ?_|(refine wB (fun h=>?_) (fun h=>?_)<;>first|exact wN h|subst (h:(_:Bool)=_)|skip)|(refine wQ ?_;clear hQ hR)|(refine AC.callK 90 (by omega) (by first|omega|exact wF|((refine no_implicit_lambda% (st ?_);try with_reducible exact wT);omega)) (zam (F:=cd287) (hH.has _ _ rfl) (Nat.le_of_ble_eq_true rfl) fun Q hQ hR=>?_);dsimp only[cd287,qm,ql,qf,qi,qb,qc,qp,qv,qN,qT,qF,qt]at hQ ⊢;try (refine no_implicit_lambda% (st ?_);try with_reducible exact wT))|refine wS c7 ?_|fail)
           all_goals first|rfl|(exfalso;contradiction)|trace_state
   ·by_cases hB:zbH p s n v=0
    ·have kA:=sec_pc hH hI p sp s ss n v
     have eA:secR p s n v=State.z:=by unfold secR;rw[if_neg hA]
     have qA:=za6 hH smz (rfl:State.z=State.z)
     rw[eA]at c4 kA
     unfold State.z at c4 kA qA
     clear eA
     generalize zbO p s n v=xA at *
     have kB:=zqg hH hI p sp s ss n v hB
     have eB:zma p s n v=zkq s n v:=by unfold zma;rw[if_pos hB]
     have sB:=zoH ss n v
     have qB:=za6 hH sB (rfl:zkq s n v=_)
     have rB:=ze0 6 (zkq s n v)
     rw[eB,hB]at c5
     have lB1:=sB.1
     have lB2:=sB.2.1
     have lB3:=sB.2.2
     clear eB
     generalize zkq s n v=TB at *
     unfold zen zdn at kB
     unfold zdn at rB
     refine PC.fn hH cd283 fun w0 M Q hM hE hQ hR=>?_;dsimp only[cd283,qm,ql,qf,qi,qb,qc,qp,qv,qN,qT,qF,qt]at hQ ⊢
     skip
     (repeat' first|refine zaa [0,1,2,3,4,5,8,9,10,11,12,13,14,15,16,17,21,23,33,77] fun K hK=>?_|(refine hK.go ?_;clear hK K)|with_reducible exact wT|refine wA ?_|(refine wB (fun h=>?_) (fun h=>?_)<;>first|exact wN h|subst (h:(_:Bool)=_)|skip)|(refine wQ ?_;clear hQ hR)|refine wC c1 ?_|refine wC c2 ?_|refine wO c3 ?_|refine wS kA ?_|refine wC c4 ?_|refine wV kB ?_|refine wC c5 ?_|refine wS qA ?_|refine wS qB ?_|(refine AC.callK 60 (by omega) (by first|omega|exact wF|((refine no_implicit_lambda% (st ?_);try with_reducible exact wT);omega)) (zam (F:=cd287) (hH.has _ _ rfl) (Nat.le_of_ble_eq_true rfl) fun Q hQ hR=>?_);dsimp only[cd287,qm,ql,qf,qi,qb,qc,qp,qv,qN,qT,qF,qt]at hQ ⊢;try (refine no_implicit_lambda% (st ?_);try with_reducible exact wT))|fail)
     all_goals first|(exfalso;contradiction)|skip
     skip
     refine zae (ι:=Nat) [1,2] (fun z=>[(2,.n z)]) (fun _=>[]) (fun z=>z) (0) (fun _=>True) (0) ?_;rintro kA0 ⟨hk,-⟩;(try dsimp only at hk ⊢);rcases Nat.lt_or_ge kA0 0 with hlt|hge
     ·exact absurd (show kA0<0 by assumption) (by omega)
     ·(repeat' first|refine zaa [0,1,2,3,4,5,8,9,10,11,12,13,14,15,16,17,21,23,33,77] fun K hK=>?_|(refine hK.go ?_;clear hK K)|with_reducible exact wT|refine wA ?_|(refine wB (fun h=>?_) (fun h=>?_)<;>first|exact wN h|subst (h:(_:Bool)=_)|skip)|(refine wQ ?_;clear hQ hR)|fail)
      refine zae (ι:=Nat) [1,3] (fun z=>[(3,.n z)]) (fun _=>[]) (fun z=>z) (0) (fun _=>True) (0) ?_;rintro kA1 ⟨hk,-⟩;(try dsimp only at hk ⊢);rcases Nat.lt_or_ge kA1 0 with hlt|hge
      ·exact absurd (show kA1<0 by assumption) (by omega)
      ·(repeat' first|refine zaa [0,1,2,3,4,5,8,9,10,11,12,13,14,15,16,17,21,23,33,77] fun K hK=>?_|(refine hK.go ?_;clear hK K)|with_reducible exact wT|refine wA ?_|(refine wB (fun h=>?_) (fun h=>?_)<;>first|exact wN h|subst (h:(_:Bool)=_)|skip)|(refine wQ ?_;clear hQ hR)|fail)
       refine zae (ι:=Nat) [1,4] (fun z=>[(4,.n z)]) (fun _=>[]) (fun z=>z) (0) (fun _=>True) (0) ?_;rintro kA2 ⟨hk,-⟩;(try dsimp only at hk ⊢);rcases Nat.lt_or_ge kA2 0 with hlt|hge
       ·exact absurd (show kA2<0 by assumption) (by omega)
       ·(repeat' first|refine zaa [0,1,2,3,4,5,8,9,10,11,12,13,14,15,16,17,21,23,33,77] fun K hK=>?_|(refine hK.go ?_;clear hK K)|with_reducible exact wT|refine wA ?_|(refine wB (fun h=>?_) (fun h=>?_)<;>first|exact wN h|subst (h:(_:Bool)=_)|skip)|(refine wQ ?_;clear hQ hR)|(refine AC.callK 90 (by omega) (by first|omega|exact wF|((refine no_implicit_lambda% (st ?_);try with_reducible exact wT);omega)) (zam (F:=cd287) (hH.has _ _ rfl) (Nat.le_of_ble_eq_true rfl) fun Q hQ hR=>?_);dsimp only[cd287,qm,ql,qf,qi,qb,qc,qp,qv,qN,qT,qF,qt]at hQ ⊢;try (refine no_implicit_lambda% (st ?_);try with_reducible exact wT))|refine wS c7 ?_|fail)
        refine zae (ι:=Nat) [1,2] (fun z=>[(2,.n z)]) (fun z=>[(16,.cells ((zbN t9 z TB.tracks).map Track.c).flatten (decide (0<TB.tracks.length)))]) (fun z=>z) (TB.tracks.length) (fun _=>True) (0) ?_;rintro kB0 ⟨hk,-⟩;(try dsimp only at hk ⊢);rcases Nat.lt_or_ge kB0 TB.tracks.length with hlt|hge
        ·have hlt2:kB0<TB.tracks.length:=by assumption
         have d1:=zaX t9 hlt2
         have d2:=zaz (c:=Track.c) (l:=zbN t9 kB0 TB.tracks) (k:=kB0) (i:=1) (by rw[zaB];exact hlt2) (by omega) (.i .u8 9) (t9 kB0 (nth TB.tracks kB0)) (by rw[zaI _ hlt2];rfl)
         rw[d1]at d2
         (have hX:=@d2;(repeat' first|refine zaa [0,1,2,3,4,5,8,9,10,11,12,13,14,15,16,17,21,23,33,77] fun K hK=>?_|(refine hK.go ?_;clear hK K)|with_reducible exact wT|refine wA ?_|(refine wB (fun h=>?_) (fun h=>?_)<;>first|exact wN h|subst (h:(_:Bool)=_)|skip)|(refine wQ ?_;clear hQ hR)|fail);all_goals clear hX)
         all_goals first|(exfalso;contradiction)|exact ⟨kB0+1,by omega,by omega,by omega,rfl⟩|trace_state
        ·(repeat' first|refine zaa [0,1,2,3,4,5,8,9,10,11,12,13,14,15,16,17,21,23,33,77] fun K hK=>?_|(refine hK.go ?_;clear hK K)|with_reducible exact wT|refine wA ?_|(refine wB (fun h=>?_) (fun h=>?_)<;>first|exact wN h|subst (h:(_:Bool)=_)|skip)|(refine wQ ?_;clear hQ hR)|fail)
         refine zae (ι:=Nat) [1,3] (fun z=>[(3,.n z)]) (fun z=>[(17,.cells ((zbN w9l z TB.switches).map Switch.c).flatten (decide (0<TB.switches.length)))]) (fun z=>z) (TB.switches.length) (fun _=>True) (0) ?_;rintro kB1 ⟨hk,-⟩;(try dsimp only at hk ⊢);rcases Nat.lt_or_ge kB1 TB.switches.length with hlt|hge
         ·have hlt2:kB1<TB.switches.length:=by assumption
          have d1:=zaX w9l hlt2
          have d2:=zaz (c:=Switch.c) (l:=zbN w9l kB1 TB.switches) (k:=kB1) (i:=1) (by rw[zaB];exact hlt2) (by omega) (.i .i64 9) (w9l kB1 (nth TB.switches kB1)) (by rw[zaI _ hlt2];rfl)
          rw[d1]at d2
          (have hX:=@d2;(repeat' first|refine zaa [0,1,2,3,4,5,8,9,10,11,12,13,14,15,16,17,21,23,33,77] fun K hK=>?_|(refine hK.go ?_;clear hK K)|with_reducible exact wT|refine wA ?_|(refine wB (fun h=>?_) (fun h=>?_)<;>first|exact wN h|subst (h:(_:Bool)=_)|skip)|(refine wQ ?_;clear hQ hR)|fail);all_goals clear hX)
          all_goals first|(exfalso;contradiction)|exact ⟨kB1+1,by omega,by omega,by omega,rfl⟩|trace_state
         ·(repeat' first|refine zaa [0,1,2,3,4,5,8,9,10,11,12,13,14,15,16,17,21,23,33,77] fun K hK=>?_|(refine hK.go ?_;clear hK K)|with_reducible exact wT|refine wA ?_|(refine wB (fun h=>?_) (fun h=>?_)<;>first|exact wN h|subst (h:(_:Bool)=_)|skip)|(refine wQ ?_;clear hQ hR)|fail)
          refine zae (ι:=Nat) [1,4] (fun z=>[(4,.n z)]) (fun z=>[(18,.cells ((zbN k9 z TB.locks).map Lock.c).flatten (decide (0<TB.locks.length)))]) (fun z=>z) (TB.locks.length) (fun _=>True) (0) ?_;rintro kB2 ⟨hk,-⟩;(try dsimp only at hk ⊢);rcases Nat.lt_or_ge kB2 TB.locks.length with hlt|hge
          ·have hlt2:kB2<TB.locks.length:=by assumption
           have d1:=zaX k9 hlt2
           have d2:=zaz (c:=Lock.c) (l:=zbN k9 kB2 TB.locks) (k:=kB2) (i:=1) (by rw[zaB];exact hlt2) (by omega) (.i .u8 9) (k9 kB2 (nth TB.locks kB2)) (by rw[zaI _ hlt2];rfl)
           rw[d1]at d2
           (have hX:=@d2;(repeat' first|refine zaa [0,1,2,3,4,5,8,9,10,11,12,13,14,15,16,17,21,23,33,77] fun K hK=>?_|(refine hK.go ?_;clear hK K)|with_reducible exact wT|refine wA ?_|(refine wB (fun h=>?_) (fun h=>?_)<;>first|exact wN h|subst (h:(_:Bool)=_)|skip)|(refine wQ ?_;clear hQ hR)|fail);all_goals clear hX)
           all_goals first|(exfalso;contradiction)|exact ⟨kB2+1,by omega,by omega,by omega,rfl⟩|trace_state
          ·(repeat' first|refine zaa [0,1,2,3,4,5,8,9,10,11,12,13,14,15,16,17,21,23,33,77] fun K hK=>?_|(refine hK.go ?_;clear hK K)|with_reducible exact wT|refine wA ?_|(refine wB (fun h=>?_) (fun h=>?_)<;>first|exact wN h|subst (h:(_:Bool)=_)|skip)|(refine wQ ?_;clear hQ hR)|(refine AC.callK 90 (by omega) (by first|omega|exact wF|((refine no_implicit_lambda% (st ?_);try with_reducible exact wT);omega)) (zam (F:=cd287) (hH.has _ _ rfl) (Nat.le_of_ble_eq_true rfl) fun Q hQ hR=>?_);dsimp only[cd287,qm,ql,qf,qi,qb,qc,qp,qv,qN,qT,qF,qt]at hQ ⊢;try (refine no_implicit_lambda% (st ?_);try with_reducible exact wT))|refine wS c7 ?_|fail)
           all_goals first|rfl|(exfalso;contradiction)|trace_state
    ·have kA:=sec_pc hH hI p sp s ss n v
     have eA:secR p s n v=State.z:=by unfold secR;rw[if_neg hA]
     have qA:=za6 hH smz (rfl:State.z=State.z)
     rw[eA]at c4 kA
     unfold State.z at c4 kA qA
     clear eA
     generalize zbO p s n v=xA at *
     have kB:=det_pc hH hI p sp s ss n v
     have eB:zma p s n v=State.z:=by unfold zma;rw[if_neg hB]
     have qB:=za6 hH smz (rfl:State.z=State.z)
     rw[eB]at c5 kB
     unfold State.z at c5 kB qB
     clear eB
     generalize zbH p s n v=xB at *
     refine PC.fn hH cd283 fun w0 M Q hM hE hQ hR=>?_;dsimp only[cd283,qm,ql,qf,qi,qb,qc,qp,qv,qN,qT,qF,qt]at hQ ⊢
     skip
     (repeat' first|refine zaa [0,1,2,3,4,5,8,9,10,11,12,13,14,15,16,17,21,23,33,77] fun K hK=>?_|(refine hK.go ?_;clear hK K)|with_reducible exact wT|refine wA ?_|(refine wB (fun h=>?_) (fun h=>?_)<;>first|exact wN h|subst (h:(_:Bool)=_)|skip)|(refine wQ ?_;clear hQ hR)|refine wC c1 ?_|refine wC c2 ?_|refine wO c3 ?_|refine wS kA ?_|refine wC c4 ?_|refine wS kB ?_|refine wC c5 ?_|refine wS qA ?_|refine wS qB ?_|(refine AC.callK 60 (by omega) (by first|omega|exact wF|((refine no_implicit_lambda% (st ?_);try with_reducible exact wT);omega)) (zam (F:=cd287) (hH.has _ _ rfl) (Nat.le_of_ble_eq_true rfl) fun Q hQ hR=>?_);dsimp only[cd287,qm,ql,qf,qi,qb,qc,qp,qv,qN,qT,qF,qt]at hQ ⊢;try (refine no_implicit_lambda% (st ?_);try with_reducible exact wT))|fail)
     all_goals first|(exfalso;contradiction)|skip
     skip
     refine zae (ι:=Nat) [1,2] (fun z=>[(2,.n z)]) (fun _=>[]) (fun z=>z) (0) (fun _=>True) (0) ?_;rintro kA0 ⟨hk,-⟩;(try dsimp only at hk ⊢);rcases Nat.lt_or_ge kA0 0 with hlt|hge
     ·exact absurd (show kA0<0 by assumption) (by omega)
     ·(repeat' first|refine zaa [0,1,2,3,4,5,8,9,10,11,12,13,14,15,16,17,21,23,33,77] fun K hK=>?_|(refine hK.go ?_;clear hK K)|with_reducible exact wT|refine wA ?_|(refine wB (fun h=>?_) (fun h=>?_)<;>first|exact wN h|subst (h:(_:Bool)=_)|skip)|(refine wQ ?_;clear hQ hR)|fail)
      refine zae (ι:=Nat) [1,3] (fun z=>[(3,.n z)]) (fun _=>[]) (fun z=>z) (0) (fun _=>True) (0) ?_;rintro kA1 ⟨hk,-⟩;(try dsimp only at hk ⊢);rcases Nat.lt_or_ge kA1 0 with hlt|hge
      ·exact absurd (show kA1<0 by assumption) (by omega)
      ·(repeat' first|refine zaa [0,1,2,3,4,5,8,9,10,11,12,13,14,15,16,17,21,23,33,77] fun K hK=>?_|(refine hK.go ?_;clear hK K)|with_reducible exact wT|refine wA ?_|(refine wB (fun h=>?_) (fun h=>?_)<;>first|exact wN h|subst (h:(_:Bool)=_)|skip)|(refine wQ ?_;clear hQ hR)|fail)
       refine zae (ι:=Nat) [1,4] (fun z=>[(4,.n z)]) (fun _=>[]) (fun z=>z) (0) (fun _=>True) (0) ?_;rintro kA2 ⟨hk,-⟩;(try dsimp only at hk ⊢);rcases Nat.lt_or_ge kA2 0 with hlt|hge
       ·exact absurd (show kA2<0 by assumption) (by omega)
       ·(repeat' first|refine zaa [0,1,2,3,4,5,8,9,10,11,12,13,14,15,16,17,21,23,33,77] fun K hK=>?_|(refine hK.go ?_;clear hK K)|with_reducible exact wT|refine wA ?_|(refine wB (fun h=>?_) (fun h=>?_)<;>first|exact wN h|subst (h:(_:Bool)=_)|skip)|(refine wQ ?_;clear hQ hR)|(refine AC.callK 90 (by omega) (by first|omega|exact wF|((refine no_implicit_lambda% (st ?_);try with_reducible exact wT);omega)) (zam (F:=cd287) (hH.has _ _ rfl) (Nat.le_of_ble_eq_true rfl) fun Q hQ hR=>?_);dsimp only[cd287,qm,ql,qf,qi,qb,qc,qp,qv,qN,qT,qF,qt]at hQ ⊢;try (refine no_implicit_lambda% (st ?_);try with_reducible exact wT))|refine wS c7 ?_|fail)
        refine zae (ι:=Nat) [1,2] (fun z=>[(2,.n z)]) (fun _=>[]) (fun z=>z) (0) (fun _=>True) (0) ?_;rintro kB0 ⟨hk,-⟩;(try dsimp only at hk ⊢);rcases Nat.lt_or_ge kB0 0 with hlt|hge
        ·exact absurd (show kB0<0 by assumption) (by omega)
        ·(repeat' first|refine zaa [0,1,2,3,4,5,8,9,10,11,12,13,14,15,16,17,21,23,33,77] fun K hK=>?_|(refine hK.go ?_;clear hK K)|with_reducible exact wT|refine wA ?_|(refine wB (fun h=>?_) (fun h=>?_)<;>first|exact wN h|subst (h:(_:Bool)=_)|skip)|(refine wQ ?_;clear hQ hR)|fail)
         refine zae (ι:=Nat) [1,3] (fun z=>[(3,.n z)]) (fun _=>[]) (fun z=>z) (0) (fun _=>True) (0) ?_;rintro kB1 ⟨hk,-⟩;(try dsimp only at hk ⊢);rcases Nat.lt_or_ge kB1 0 with hlt|hge
         ·exact absurd (show kB1<0 by assumption) (by omega)
         ·(repeat' first|refine zaa [0,1,2,3,4,5,8,9,10,11,12,13,14,15,16,17,21,23,33,77] fun K hK=>?_|(refine hK.go ?_;clear hK K)|with_reducible exact wT|refine wA ?_|(refine wB (fun h=>?_) (fun h=>?_)<;>first|exact wN h|subst (h:(_:Bool)=_)|skip)|(refine wQ ?_;clear hQ hR)|fail)
          refine zae (ι:=Nat) [1,4] (fun z=>[(4,.n z)]) (fun _=>[]) (fun z=>z) (0) (fun _=>True) (0) ?_;rintro kB2 ⟨hk,-⟩;(try dsimp only at hk ⊢);rcases Nat.lt_or_ge kB2 0 with hlt|hge
          ·exact absurd (show kB2<0 by assumption) (by omega)
          ·(repeat' first|refine zaa [0,1,2,3,4,5,8,9,10,11,12,13,14,15,16,17,21,23,33,77] fun K hK=>?_|(refine hK.go ?_;clear hK K)|with_reducible exact wT|refine wA ?_|(refine wB (fun h=>?_) (fun h=>?_)<;>first|exact wN h|subst (h:(_:Bool)=_)|skip)|(refine wQ ?_;clear hQ hR)|(refine AC.callK 90 (by omega) (by first|omega|exact wF|((refine no_implicit_lambda% (st ?_);try with_reducible exact wT);omega)) (zam (F:=cd287) (hH.has _ _ rfl) (Nat.le_of_ble_eq_true rfl) fun Q hQ hR=>?_);dsimp only[cd287,qm,ql,qf,qi,qb,qc,qp,qv,qN,qT,qF,qt]at hQ ⊢;try (refine no_implicit_lambda% (st ?_);try with_reducible exact wT))|refine wS c7 ?_|fail)
           all_goals first|rfl|(exfalso;contradiction)|trace_state
end Go.Lev
