/-
  A part of the engine that walks the functions' codes, and of the functions' contracts. Conditions: those that each theorem names.
-/
import Derived.Test.YtjgelcegjmfgnaaGreatL5
import Derived.IntWalk
set_option linter.unusedSimpArgs false
set_option linter.unusedVariables false
set_option linter.unusedSectionVars false
namespace Go.Lev
open Go.Eng
set_option maxRecDepth 10000
set_option maxHeartbeats 4000000
variable {P:Program} {inv:Nat→Option Nat} {w0:World} {M:Nat→Prop}
def zdh (s:State) (n v:Int):State:=⟨zcP Track.id n (fun t=>⟨t.id,v⟩) s.tracks,s.switches,s.locks⟩
def zgU (s:State) (n v:Int):State:=⟨s.tracks,zcP Switch.id n (fun t=>⟨t.id,v,t.call⟩) s.switches,s.locks⟩
def ziw (s:State) (n:Int):Prop:=∃ t∈s.tracks,t.id=n
def zky (s:State) (n:Int):Prop:=∃ t∈s.switches,t.id=n
instance (s:State) (n:Int):Decidable (ziw s n):=by unfold ziw;infer_instance
instance (s:State) (n:Int):Decidable (zky s n):=by unfold zky;infer_instance
def zbw (p:Pln) (s:State) (n v:Int):Int:=if zac p s=0 then (if ziw s n then (if v=0∨v=1 then 0 else 2) else 6) else zac p s
def zcu (p:Pln) (s:State) (n v:Int):Int:=if zac p s=0 then (if zky s n then (if 0≤v∧v≤2 then 0 else 2) else 6) else zac p s
theorem zqH (hH:HasAll P inv) (n:Int) (x:Track):PC P inv 86 ([.agg x.c]++[.ip 1 [[.n n]] 0 0]) (·=.b (decide (x.id=n))):=by
 refine PC.fn hH cd86 fun w0 M Q hM hE hQ hR=>?_;dsimp only[cd86,qm,ql,qf,qi,qb,qc,qp,qv,qN,qT,qF,qt]at hQ ⊢
 (repeat' first|refine zaa [0,1,2,3] fun K hK=>?_|(refine hK.go ?_;clear hK K)|with_reducible exact wT|refine wA ?_|(refine wB (fun h=>?_) (fun h=>?_)<;>first|exact wN h|subst (h:(_:Bool)=_)|skip)|(refine wQ ?_;clear hQ hR hE hM)|fail)
theorem zqG (hH:HasAll P inv) (n:Int) (x:Switch):PC P inv 88 ([.agg x.c]++[.ip 1 [[.n n]] 0 0]) (·=.b (decide (x.id=n))):=by
 refine PC.fn hH cd88 fun w0 M Q hM hE hQ hR=>?_;dsimp only[cd88,qm,ql,qf,qi,qb,qc,qp,qv,qN,qT,qF,qt]at hQ ⊢
 (repeat' first|refine zaa [0,1,2,3] fun K hK=>?_|(refine hK.go ?_;clear hK K)|with_reducible exact wT|refine wA ?_|(refine wB (fun h=>?_) (fun h=>?_)<;>first|exact wN h|subst (h:(_:Bool)=_)|skip)|(refine wQ ?_;clear hQ hR hE hM)|fail)
theorem sec_po (hH:HasAll P inv) (hI:HasIds P inv) (p:Pln) (hp:Sm p) (s:State) (hs:SmS s) (n v:Int) (he:zbw p s n v=0):PO P inv 73 [.agg p.c,.agg s.c,.n n,.n v] (.tup [zf8 6 (zdh s n v),.n 0]) (zf9 6 (zdh s n v)):=by
 have hc:zac p s=0∧ziw s n∧(v=0∨v=1):=by
  unfold zbw at he
  split at he
  ·rename_i h1
   split at he
   ·rename_i h2
    split at he
    ·rename_i h3;exact ⟨h1,h2,h3⟩
    ·cases he
   ·cases he
  ·rename_i h1;exact absurd he h1
 obtain ⟨hc,⟨t,ht,htn⟩,hv⟩:=hc
 have c0:=zaT hH hI p hp s hs
 rw[hc]at c0
 have c1:=zbD hH s hs
 obtain ⟨h1,h2,h3⟩:=hs
 have c2:=zkB hH s.tracks (fun x _=>zqH hH n x) (by omega)
 have hno:(s.tracks.map Track.id).Nodup:=by rw[zgj (zab hc).2.1];exact zel (zae hc)
 rcases zaQ Track.id n s.tracks with ⟨_,h4⟩|⟨k,hk,h4,h5⟩
 ·exact absurd htn (h4 t ht)
 ·rw[h4]at c2
  have e1:=zfm Track.id n (fun t=>(⟨t.id,v⟩:Track)) hno hk h5
  have e2:=zbo (c:=Track.c) (l:=s.tracks) (k:=k) (i:=1) hk (by omega) (.i .u8 v) (⟨(nth s.tracks k).id,v⟩:Track) rfl
  rw[e1]at e2
  unfold stV stR at c1
  refine PO.fn hH cd73 fun w0 M Q hM hE hQ hR=>?_;dsimp only[cd73,qm,ql,qf,qi,qb,qc,qp,qv,qN,qT,qF,qt]at hQ ⊢
  skip
  (have hX:=@e2;(repeat' first|refine zaa [0,1,2,3,4,5,6,8,9,10,11,16,26,33] fun K hK=>?_|(refine hK.go ?_;clear hK K)|with_reducible exact wT|refine wA ?_|(refine wB (fun h=>?_) (fun h=>?_)<;>first|exact wN h|subst (h:(_:Bool)=_)|skip)|(refine wQ ?_;clear hQ hR)|refine wC c0 ?_|refine wO c1 ?_|(refine AC.callK 30 (by omega) (by first|omega|exact wF|((refine no_implicit_lambda% (st ?_);try with_reducible exact wT);omega)) (zao (F:=cd85) (hH.has _ _ rfl) (Nat.le_of_ble_eq_true rfl) fun Q hQ hR=>?_);dsimp only[cd85,qm,ql,qf,qi,qb,qc,qp,qv,qN,qT,qF,qt]at hQ ⊢;try (refine no_implicit_lambda% (st ?_);try with_reducible exact wT))|refine wS c2 ?_|fail);all_goals clear hX)
  all_goals (left;unfold zf8 zf9 zdh;dsimp only;rw[za0];constructor)
  all_goals (refine no_implicit_lambda% (st ?_);try with_reducible exact wT)
theorem det_po (hH:HasAll P inv) (hI:HasIds P inv) (p:Pln) (hp:Sm p) (s:State) (hs:SmS s) (n v:Int) (he:zcu p s n v=0):PO P inv 74 [.agg p.c,.agg s.c,.n n,.n v] (.tup [zf8 6 (zgU s n v),.n 0]) (zf9 6 (zgU s n v)):=by
 have hc:zac p s=0∧zky s n∧(0≤v∧v≤2):=by
  unfold zcu at he
  split at he
  ·rename_i h1
   split at he
   ·rename_i h2
    split at he
    ·rename_i h3;exact ⟨h1,h2,h3⟩
    ·cases he
   ·cases he
  ·rename_i h1;exact absurd he h1
 obtain ⟨hc,⟨t,ht,htn⟩,hv⟩:=hc
 have c0:=zaT hH hI p hp s hs
 rw[hc]at c0
 have c1:=zbD hH s hs
 obtain ⟨h1,h2,h3⟩:=hs
 have c2:=zgG hH s.switches (fun x _=>zqG hH n x) (by omega)
 have hno:(s.switches.map Switch.id).Nodup:=by rw[zcR (zab hc).2.1];exact zbF (zae hc)
 rcases zaQ Switch.id n s.switches with ⟨_,h4⟩|⟨k,hk,h4,h5⟩
 ·exact absurd htn (h4 t ht)
 ·rw[h4]at c2
  have e1:=zfm Switch.id n (fun t=>(⟨t.id,v,t.call⟩:Switch)) hno hk h5
  have e2:=zbo (c:=Switch.c) (l:=s.switches) (k:=k) (i:=1) hk (by omega) (.i .i64 v) (⟨(nth s.switches k).id,v,(nth s.switches k).call⟩:Switch) rfl
  rw[e1]at e2
  unfold stV stR at c1
  refine PO.fn hH cd74 fun w0 M Q hM hE hQ hR=>?_;dsimp only[cd74,qm,ql,qf,qi,qb,qc,qp,qv,qN,qT,qF,qt]at hQ ⊢
  skip
  (have hX:=@e2;(repeat' first|refine zaa [0,1,2,3,4,5,6,8,9,10,11,16,26,33] fun K hK=>?_|(refine hK.go ?_;clear hK K)|with_reducible exact wT|refine wA ?_|(refine wB (fun h=>?_) (fun h=>?_)<;>first|exact wN h|subst (h:(_:Bool)=_)|skip)|(refine wQ ?_;clear hQ hR)|refine wC c0 ?_|refine wO c1 ?_|(refine AC.callK 30 (by omega) (by first|omega|exact wF|((refine no_implicit_lambda% (st ?_);try with_reducible exact wT);omega)) (zao (F:=cd87) (hH.has _ _ rfl) (Nat.le_of_ble_eq_true rfl) fun Q hQ hR=>?_);dsimp only[cd87,qm,ql,qf,qi,qb,qc,qp,qv,qN,qT,qF,qt]at hQ ⊢;try (refine no_implicit_lambda% (st ?_);try with_reducible exact wT))|refine wS c2 ?_|fail);all_goals clear hX)
  all_goals (left;unfold zf8 zf9 zgU;dsimp only;rw[za0];constructor)
  all_goals (refine no_implicit_lambda% (st ?_);try with_reducible exact wT)
def secR (p:Pln) (s:State) (n v:Int):State:=if zbw p s n v=0 then zdh s n v else State.z
def detR (p:Pln) (s:State) (n v:Int):State:=if zcu p s n v=0 then zgU s n v else State.z
theorem zlb (hH:HasAll P inv) (hI:HasIds P inv) (p:Pln) (hp:Sm p) (s:State) (hs:SmS s) (n v:Int):PC P inv 73 [.agg p.c,.agg s.c,.n n,.n v] (·=.tup [.agg (secR p s n v).c,.n (zbw p s n v)]):=by
 unfold secR
 by_cases he:zbw p s n v=0
 ·have:=(sec_po hH hI p hp s hs n v he).pc
  rw[zb2]at this
  rw[if_pos he,he]
  exact this
 ·rw[if_neg he]
  have c0:=zaT hH hI p hp s hs
  have c1:=zbD hH s hs
  unfold zbw at he ⊢
  by_cases hc:zac p s=0
  ·rw[if_pos hc]at he ⊢
   rw[hc]at c0
   obtain ⟨h1,h2,h3⟩:=hs
   have c2:=zkB hH s.tracks (fun x _=>zqH hH n x) (by omega)
   unfold stV stR at c1
   rcases zaQ Track.id n s.tracks with ⟨h4,h5⟩|⟨k,hk,h4,h5⟩
   ·rw[if_neg (fun ⟨t,ht,e⟩=>h5 t ht e)]
    rw[h4]at c2
    refine PC.fn hH cd73 fun w0 M Q hM hE hQ hR=>?_;dsimp only[cd73,qm,ql,qf,qi,qb,qc,qp,qv,qN,qT,qF,qt]at hQ ⊢
    skip
    (repeat' first|refine zaa [0,1,2,3,4,5,6,8,9,10,11,16,26,33] fun K hK=>?_|(refine hK.go ?_;clear hK K)|with_reducible exact wT|refine wA ?_|(refine wB (fun h=>?_) (fun h=>?_)<;>first|exact wN h|subst (h:(_:Bool)=_)|skip)|(refine wQ ?_;clear hQ hR)|refine wC c0 ?_|refine wO c1 ?_|(refine AC.callK 30 (by omega) (by first|omega|exact wF|((refine no_implicit_lambda% (st ?_);try with_reducible exact wT);omega)) (zao (F:=cd85) (hH.has _ _ rfl) (Nat.le_of_ble_eq_true rfl) fun Q hQ hR=>?_);dsimp only[cd85,qm,ql,qf,qi,qb,qc,qp,qv,qN,qT,qF,qt]at hQ ⊢;try (refine no_implicit_lambda% (st ?_);try with_reducible exact wT))|refine wS c2 ?_|fail)
    all_goals first|rfl|(exfalso;contradiction)|skip
   ·rw[if_pos ⟨_,zad hk,h5⟩]at he ⊢
    rw[h4]at c2
    by_cases hv:v=0∨v=1
    ·rw[if_pos hv]at he;exact absurd rfl he
    ·rw[if_neg hv]
     refine PC.fn hH cd73 fun w0 M Q hM hE hQ hR=>?_;dsimp only[cd73,qm,ql,qf,qi,qb,qc,qp,qv,qN,qT,qF,qt]at hQ ⊢
     skip
     (repeat' first|refine zaa [0,1,2,3,4,5,6,8,9,10,11,16,26,33] fun K hK=>?_|(refine hK.go ?_;clear hK K)|with_reducible exact wT|refine wA ?_|(refine wB (fun h=>?_) (fun h=>?_)<;>first|exact wN h|subst (h:(_:Bool)=_)|skip)|(refine wQ ?_;clear hQ hR)|refine wC c0 ?_|refine wO c1 ?_|(refine AC.callK 30 (by omega) (by first|omega|exact wF|((refine no_implicit_lambda% (st ?_);try with_reducible exact wT);omega)) (zao (F:=cd85) (hH.has _ _ rfl) (Nat.le_of_ble_eq_true rfl) fun Q hQ hR=>?_);dsimp only[cd85,qm,ql,qf,qi,qb,qc,qp,qv,qN,qT,qF,qt]at hQ ⊢;try (refine no_implicit_lambda% (st ?_);try with_reducible exact wT))|refine wS c2 ?_|fail)
     all_goals first|rfl|(exfalso;omega)|skip
  ·rw[if_neg hc]
   generalize zac p s=e at c0 hc ⊢
   refine PC.fn hH cd73 fun w0 M Q hM hE hQ hR=>?_;dsimp only[cd73,qm,ql,qf,qi,qb,qc,qp,qv,qN,qT,qF,qt]at hQ ⊢
   (repeat' first|refine zaa [0,1,2,3,4,5,6,8,9,10,11,16,26,33] fun K hK=>?_|(refine hK.go ?_;clear hK K)|with_reducible exact wT|refine wA ?_|(refine wB (fun h=>?_) (fun h=>?_)<;>first|exact wN h|subst (h:(_:Bool)=_)|skip)|(refine wQ ?_;clear hQ hR hE hM)|refine wC c0 ?_|fail)
   all_goals first|rfl|(exfalso;contradiction)|skip
theorem det_pc (hH:HasAll P inv) (hI:HasIds P inv) (p:Pln) (hp:Sm p) (s:State) (hs:SmS s) (n v:Int):PC P inv 74 [.agg p.c,.agg s.c,.n n,.n v] (·=.tup [.agg (detR p s n v).c,.n (zcu p s n v)]):=by
 unfold detR
 by_cases he:zcu p s n v=0
 ·have:=(det_po hH hI p hp s hs n v he).pc
  rw[zb2]at this
  rw[if_pos he,he]
  exact this
 ·rw[if_neg he]
  have c0:=zaT hH hI p hp s hs
  have c1:=zbD hH s hs
  unfold zcu at he ⊢
  by_cases hc:zac p s=0
  ·rw[if_pos hc]at he ⊢
   rw[hc]at c0
   obtain ⟨h1,h2,h3⟩:=hs
   have c2:=zgG hH s.switches (fun x _=>zqG hH n x) (by omega)
   unfold stV stR at c1
   rcases zaQ Switch.id n s.switches with ⟨h4,h5⟩|⟨k,hk,h4,h5⟩
   ·rw[if_neg (fun ⟨t,ht,e⟩=>h5 t ht e)]
    rw[h4]at c2
    refine PC.fn hH cd74 fun w0 M Q hM hE hQ hR=>?_;dsimp only[cd74,qm,ql,qf,qi,qb,qc,qp,qv,qN,qT,qF,qt]at hQ ⊢
    skip
    (repeat' first|refine zaa [0,1,2,3,4,5,6,8,9,10,11,16,26,33] fun K hK=>?_|(refine hK.go ?_;clear hK K)|with_reducible exact wT|refine wA ?_|(refine wB (fun h=>?_) (fun h=>?_)<;>first|exact wN h|subst (h:(_:Bool)=_)|skip)|(refine wQ ?_;clear hQ hR)|refine wC c0 ?_|refine wO c1 ?_|(refine AC.callK 30 (by omega) (by first|omega|exact wF|((refine no_implicit_lambda% (st ?_);try with_reducible exact wT);omega)) (zao (F:=cd87) (hH.has _ _ rfl) (Nat.le_of_ble_eq_true rfl) fun Q hQ hR=>?_);dsimp only[cd87,qm,ql,qf,qi,qb,qc,qp,qv,qN,qT,qF,qt]at hQ ⊢;try (refine no_implicit_lambda% (st ?_);try with_reducible exact wT))|refine wS c2 ?_|fail)
    all_goals first|rfl|(exfalso;contradiction)|skip
   ·rw[if_pos ⟨_,zad hk,h5⟩]at he ⊢
    rw[h4]at c2
    by_cases hv:0≤v∧v≤2
    ·rw[if_pos hv]at he;exact absurd rfl he
    ·rw[if_neg hv]
     refine PC.fn hH cd74 fun w0 M Q hM hE hQ hR=>?_;dsimp only[cd74,qm,ql,qf,qi,qb,qc,qp,qv,qN,qT,qF,qt]at hQ ⊢
     skip
     (repeat' first|refine zaa [0,1,2,3,4,5,6,8,9,10,11,16,26,33] fun K hK=>?_|(refine hK.go ?_;clear hK K)|with_reducible exact wT|refine wA ?_|(refine wB (fun h=>?_) (fun h=>?_)<;>first|exact wN h|subst (h:(_:Bool)=_)|skip)|(refine wQ ?_;clear hQ hR)|refine wC c0 ?_|refine wO c1 ?_|(refine AC.callK 30 (by omega) (by first|omega|exact wF|((refine no_implicit_lambda% (st ?_);try with_reducible exact wT);omega)) (zao (F:=cd87) (hH.has _ _ rfl) (Nat.le_of_ble_eq_true rfl) fun Q hQ hR=>?_);dsimp only[cd87,qm,ql,qf,qi,qb,qc,qp,qv,qN,qT,qF,qt]at hQ ⊢;try (refine no_implicit_lambda% (st ?_);try with_reducible exact wT))|refine wS c2 ?_|fail)
     all_goals first|rfl|(exfalso;omega)|skip
  ·rw[if_neg hc]
   generalize zac p s=e at c0 hc ⊢
   refine PC.fn hH cd74 fun w0 M Q hM hE hQ hR=>?_;dsimp only[cd74,qm,ql,qf,qi,qb,qc,qp,qv,qN,qT,qF,qt]at hQ ⊢
   (repeat' first|refine zaa [0,1,2,3,4,5,6,8,9,10,11,16,26,33] fun K hK=>?_|(refine hK.go ?_;clear hK K)|with_reducible exact wT|refine wA ?_|(refine wB (fun h=>?_) (fun h=>?_)<;>first|exact wN h|subst (h:(_:Bool)=_)|skip)|(refine wQ ?_;clear hQ hR hE hM)|refine wC c0 ?_|fail)
   all_goals first|rfl|(exfalso;contradiction)|skip
end Go.Lev
namespace Go.Lev
open Go.Eng
theorem kept_of {a b:State} (h1:a.switches=b.switches) (h2:a.locks=b.locks):kept a b=true:=by
 have k1:∀ (l:List Switch),zaw ziv l l=true:=by
  intro l
  induction l with
  |nil=>rfl
  |cons x l ih=>simp[zaw,ih,ziv]
 have k2:∀ (l:List Lock),zaw zg7 l l=true:=by
  intro l
  induction l with
  |nil=>rfl
  |cons x l ih=>simp[zaw,ih,zg7]
 unfold kept
 rw[h1,h2,k1,k2];rfl
theorem zlB:∀ {l m:List Switch},zaw ziv l m=true→∀ C,zgc C l=zgc C m
 |[],[],_,_=>rfl
 |[],_::_,h,_=>by simp[zaw]at h
 |_::_,[],h,_=>by simp[zaw]at h
 |x::l,y::m,h,C=>by
  simp only[zaw,ziv,Bool.and_eq_true,decide_eq_true_eq]at h
  rw[zgc,zgc,h.1.1,h.1.2,zlB h.2]
theorem zoY (w:WayR) {a b:Lock} (h:zg7 a b=true):zbk w a=zbk w b∧zbQ w a=zbQ w b∧zcU a=zcU b∧a.id=b.id:=by
 simp only[zg7,Bool.and_eq_true,decide_eq_true_eq]at h
 refine ⟨by unfold zbk;rw[h.1.2,h.2],by unfold zbQ;rw[h.1.2], ?_,h.1.1⟩
 funext x
 unfold zcU
 rw[h.2]
theorem ziY {a b:Lock} (h:zcU a=zcU b) (C:List (Int×Int)):∀ (q:List AskR) (A:List Int) (t:Bool),zeh a C q A t=zeh b C q A t
 |[],_,_=>rfl
 |x::q,A,t=>by
  rw[zeh,zeh,h,ziY h C q,ziY h C q]
theorem zjB (ws:List WayR) (C:List (Int×Int)):∀ {l m:List Lock},zaw zg7 l m=true→∀ (i:Nat) (H A:List Int) (t:Bool),zdx ws C i l H A t=zdx ws C i m H A t
 |[],[],_,_,_,_,_=>rfl
 |[],_::_,h,_,_,_,_=>by simp[zaw]at h
 |_::_,[],h,_,_,_,_=>by simp[zaw]at h
 |x::l,y::m,h,i,H,A,t=>by
  simp only[zaw,Bool.and_eq_true]at h
  obtain ⟨h1,h2,h3,h4⟩:=zoY (nth ws i) h.1
  rw[zdx,zdx,h1,h2,h4,ziY h3,zjB ws C h.2]
theorem zoZ (p:Pln) {a b:State} (h:kept a b=true):zav p a=zav p b:=by
 simp only[kept,Bool.and_eq_true]at h
 unfold zav
 rw[zlB h.1,zjB _ _ h.2]
theorem ze7 {p:Pln} {a b:State} (h:zac p a=0) (hk:kept a b=true) (hb:zai p b=true):zac p b=0:=by
 obtain ⟨h1,h2,h3⟩:=zab h
 unfold zac
 rw[if_pos h1,if_pos ⟨hb,by rw[←zoZ p hk];exact h3⟩]
theorem zbf {α β:Type} [Inhabited α] [Inhabited β] (q:α→β→Bool):∀ (a:List α) (b:List β),zaw q a b=true↔a.length=b.length∧∀ i,i<a.length→q (nth a i) (nth b i)=true
 |[],[]=>by simp[zaw]
 |[],_::_=>by simp[zaw]
 |_::_,[]=>by simp[zaw]
 |x::xs,y::ys=>by
  simp only[zaw,Bool.and_eq_true,zbf q xs ys,List.length_cons,Nat.add_right_cancel_iff]
  constructor
  ·rintro ⟨h1,h2,h3⟩
   refine ⟨h2,fun i hi=>?_⟩
   cases i with
   |zero=>exact h1
   |succ i=>exact h3 i (by omega)
  ·rintro ⟨h2,h3⟩
   exact ⟨h3 0 (by omega),h2,fun i hi=>h3 (i+1) (by omega)⟩
theorem zcp {α:Type} [Inhabited α] (f:Nat→α→α) {l:List α} {i:Nat} (h:i<l.length):nth (l.mapIdx f) i=f i (nth l i):=by
 rw[zaK (by simpa using h),zaK h,List.getElem_mapIdx]
theorem zrb {α:Type} [Inhabited α] {a b:List α} (hl:a.length=b.length) (h:∀ i,i<a.length→nth a i=nth b i):a=b:=by
 refine List.ext_getElem hl fun i h1 h2=>?_
 rw[←zaK h1,←zaK h2]
 exact h i h1
theorem zbR {p:Pln} {s:State} (h:zai p s=true) {i:Nat} (hi:i<s.locks.length):zbs (nth s.locks i) (nth p.routes i)=true:=by
 simp only[zai,Bool.and_eq_true]at h
 exact zfk h.2.2 hi
theorem zdm {p:Pln} (h:OkP p) {r:Rte} (hr:r∈p.routes):1≤r.timer∧r.timer≤9:=by
 have h1:=h.rte r hr
 simp only[zgt,zfC,Bool.and_eq_true,Bool.not_eq_true',decide_eq_false_iff_not]at h1
 omega
theorem zkw {l:Lock} {r:Rte} (h:zbs l r=true):(l.left=0∧(l.phase=0∨l.phase=1∨l.phase=2))∨(1≤l.left∧l.left≤r.timer∧(l.phase=3∨l.phase=4)):=by
 simp only[zbs,zaq,Bool.and_eq_true]at h
 obtain ⟨_,h⟩:=h
 repeat' split at h
 all_goals (simp at h;try omega)
theorem zgi {α:Type} (f:α→Int) (n:Int) (g:α→α) (hg:∀ x,f (g x)=f x) (l:List α):(zcP f n g l).map f=l.map f:=by
 unfold zcP
 rw[List.map_map]
 refine List.map_congr_left fun x _=>?_
 simp only[Function.comp]
 split
 ·exact hg x
 ·rfl
theorem zpR (s:State) (n v:Int):kept s (zdh s n v)=true:=kept_of rfl rfl
theorem zpV (s:State) (n v:Int):kept s (zgU s n v)=true:=by
 unfold kept zgU
 simp only[Bool.and_eq_true,zbf,za0,true_and]
 refine ⟨fun i hi=>?_,fun i hi=>?_⟩
 ·rw[upd1_nth' hi];split<;>simp[ziv]
 ·simp[zg7]
where
 upd1_nth' {l:List Switch} {n v:Int} {i:Nat} (h:i<l.length):nth (zcP Switch.id n (fun t=>⟨t.id,v,t.call⟩) l) i=if (nth l i).id=n then ⟨(nth l i).id,v,(nth l i).call⟩ else nth l i:=by
  unfold zcP
  exact zjw (fun x=>if Switch.id x=n then (⟨x.id,v,x.call⟩:Switch) else x) h
theorem zow {p:Pln} {s:State} {n v:Int} (h:zai p s=true) (hv:v≤2):zai p (zdh s n v)=true:=by
 unfold zai at h ⊢
 simp only[Bool.and_eq_true,zbf]at h ⊢
 unfold zdh
 simp only[za0]
 refine ⟨⟨h.1.1,fun i hi=>?_⟩,h.2⟩
 have:=h.1.2 i hi
 unfold zcP
 rw[zjw (fun x=>if Track.id x=n then (⟨x.id,v⟩:Track) else x) hi]
 simp only[zhh,Bool.and_eq_true,decide_eq_true_eq]at this ⊢
 split
 ·exact ⟨this.1,hv⟩
 ·exact this
theorem zoy {p:Pln} {s:State} {n v:Int} (h:zai p s=true) (hv:0≤v∧v≤2):zai p (zgU s n v)=true:=by
 unfold zai at h ⊢
 simp only[Bool.and_eq_true,zbf]at h ⊢
 unfold zgU
 simp only[za0]
 refine ⟨h.1,⟨h.2.1.1,fun i hi=>?_⟩,h.2.2⟩
 have:=h.2.1.2 i hi
 unfold zcP
 rw[zjw (fun x=>if Switch.id x=n then (⟨x.id,v,x.call⟩:Switch) else x) hi]
 simp only[zgl,zer,Bool.and_eq_true,decide_eq_true_eq]at this ⊢
 split
 ·exact ⟨this.1,hv,this.2.2⟩
 ·exact this
theorem zcG {p:Pln} {s:State} {n v:Int} (h:zac p s=0) (hv:v≤2):zac p (zdh s n v)=0:=ze7 h (zpR s n v) (zow (zab h).2.1 hv)
theorem zhV {p:Pln} {s:State} {n v:Int} (h:zac p s=0) (hv:0≤v∧v≤2):zac p (zgU s n v)=0:=ze7 h (zpV s n v) (zoy (zab h).2.1 hv)
end Go.Lev
namespace Go.Lev
open Go.Eng
theorem zkx {p:Pln} {s:State} (h:zac p s=0) {i j:Nat} (hi:i<s.locks.length) (hj:j<s.locks.length) (e:(nth s.locks i).id=(nth s.locks j).id):i=j:=by
 obtain ⟨h1,h2,_⟩:=zab h
 have hn:(s.locks.map Lock.id).Nodup:=by rw[lck_ids h2];exact zh0 (zaU h1).1
 have:=(List.nodup_iff_pairwise_ne.1 hn)
 rcases Nat.lt_trichotomy i j with hlt|he|hlt
 ·have:=List.pairwise_iff_getElem.1 this i j (by simpa using hi) (by simpa using hj) hlt
  simp only[List.getElem_map]at this
  rw[←zaK hi,←zaK hj]at this
  exact absurd e this
 ·exact he
 ·have:=List.pairwise_iff_getElem.1 this j i (by simpa using hj) (by simpa using hi) hlt
  simp only[List.getElem_map]at this
  rw[←zaK hi,←zaK hj]at this
  exact absurd e.symm this
theorem zmT {p:Pln} {s:State} (h:zac p s=0) {i:Nat} (hi:i<s.locks.length):1≤(nth s.locks i).id∧(nth s.locks i).id≤99:=by
 obtain ⟨h1,h2,_⟩:=zab h
 have hl:=zag h2
 have hl2:=zbR h2 hi
 simp only[zbs,Bool.and_eq_true,decide_eq_true_eq]at hl2
 rw[hl2.1]
 exact zlh (zaU h1).1 (zad (by omega))
def zgd (p:Pln) (s:State) (i:Nat):List Int:=zbk (zak p (nth p.routes i)).1 (nth s.locks i)
def zrG (p:Pln) (s:State) (i:Nat):List AskR:=(zbQ (zak p (nth p.routes i)).1 (nth s.locks i)).filter (zcU (nth s.locks i))
theorem zfj {p:Pln} {s:State} (h:zac p s=0) {z:WL} (hz:z∈zof p s):∃ i,i<s.locks.length∧z=((zak p (nth p.routes i)).1,nth s.locks i):=by
 have h2:=(zab h).2.1
 have hl:=zag h2
 obtain ⟨i,r,hr,hi,e1,e2,_,e3,_⟩:=zgf h2 hz
 refine ⟨i,by omega, ?_⟩
 rw[e1,e2,←e3]
theorem zik {p:Pln} {s:State} (h:zac p s=0) {i:Nat} (hi:i<s.locks.length):((zak p (nth p.routes i)).1,nth s.locks i)∈zof p s:=by
 have h2:=(zab h).2.1
 have hl:=zag h2
 exact zof_at h2 (by omega)
theorem zhz {p:Pln} {s:State} (h:zac p s=0) {i:Nat} (hi:i<s.locks.length) {n:Int} (hn:0≤n):nth (zav p s).1 n.toNat=(nth s.locks i).id↔n∈zgd p s i:=by
 constructor
 ·intro e
  rcases zgH h hn with ⟨z,hz,hm,e2⟩|⟨_,e2⟩
  ·obtain ⟨j,hj,rfl⟩:=zfj h hz
   rw[e2]at e
   obtain rfl:=zkx h hj hi e
   exact hm
  ·have:=zmT h hi
   omega
 ·intro hm
  exact zm2 h (zik h hi) hm
theorem ask_is {p:Pln} {s:State} (h:zac p s=0) {i:Nat} (hi:i<s.locks.length) {a:AskR} (ha:a∈zrG p s i):nth (zav p s).2.1 a.pnt.toNat=a.lie:=ask_at h (zik h hi) ha
theorem zqy {p:Pln} {s:State} (h:zac p s=0) {i:Nat} (hi:i<s.locks.length) {a:AskR} (ha:a∈zrG p s i):a.lie=1∨a.lie=2:=by
 obtain ⟨h1,h2,_⟩:=zab h
 have hl:=zag h2
 have h3:=(List.mem_filter.1 ha).1
 unfold zbQ at h3
 split at h3
 ·simp at h3
 ·exact (zbz (zaU h1).1 (zad (by omega)) h3).2.2
def pathG (g n:Int):Nat→List Int→Bool
 |_,[]=>false
 |k,x::r=>(decide (x=n)&&decide (g≤k))||pathG g n (k+1) r
end Go.Lev
namespace Go.Eng
mutual
def nz:AV→AV
 |.s0 sz=>.sl sz []
 |.agg cs=>.agg (nzL cs)
 |.tup cs=>.tup (nzL cs)
 |.fn j cs=>.fn j (nzL cs)
 |.sl sz es=>.sl sz (nzR es)
 |.ip sz es i k=>.ip sz (nzR es) i k
 |.i k n=>.i k n
 |.b t=>.b t
 |.v x=>.v x
 |.u=>.u
 |.ptr l ver off=>.ptr l ver off
 |.sm l ver off n sz=>.sm l ver off n sz
 |.mp l=>.mp l
 |.top=>.top
def nzL:List AV→List AV
 |[]=>[]
 |x::xs=>nz x::nzL xs
def nzR:List (List AV)→List (List AV)
 |[]=>[]
 |r::rs=>nzL r::nzR rs
end
theorem zqs:∀ xs:List AV,(nzL xs).length=xs.length
 |[]=>by simp only[nzL]
 |x::xs=>by simp only[nzL,List.length_cons,zqs xs]
theorem zmM:∀ xs:List (List AV),(nzR xs).length=xs.length
 |[]=>by simp only[nzR]
 |x::xs=>by simp only[nzR,List.length_cons,zmM xs]
mutual
theorem zmK:∀ x:AV,x.bare=true→(nz x).bare=true
 |.s0 sz,_=>by simp only[nz,AV.bare]
 |.agg cs,h=>by simp only[nz,AV.bare]at h ⊢;exact zhx cs h
 |.tup cs,h=>by simp only[nz,AV.bare]at h ⊢;exact zhx cs h
 |.fn j cs,h=>by simp only[nz,AV.bare]at h ⊢;exact zhx cs h
 |.sl sz es,_=>by simp only[nz,AV.bare]
 |.ip sz es i k,_=>by simp only[nz,AV.bare]
 |.i k n,_=>by simp only[nz,AV.bare]
 |.b t,_=>by simp only[nz,AV.bare]
 |.v x,_=>by simp only[nz,AV.bare]
 |.u,_=>by simp only[nz,AV.bare]
 |.ptr l ver off,h=>by simp only[nz];exact h
 |.sm l ver off n sz,h=>by simp only[nz];exact h
 |.mp l,h=>by simp only[nz];exact h
 |.top,_=>by simp only[nz,AV.bare]
theorem zhx:∀ xs:List AV,zah xs=true→zah (nzL xs)=true
 |[],_=>by simp only[nzL,zah]
 |x::xs,h=>by
  simp only[zah,Bool.and_eq_true]at h
  simp only[nzL,zah,zmK x h.1,zhx xs h.2,Bool.and_self]
end
mutual
theorem zlj:∀ (c:Ctx) (x:AV) (y:Value),rel c x y→rel c (nz x) y
 |c,.s0 sz,y,r=>by
  simp only[nz,rel]at r ⊢
  obtain ⟨ad,e⟩:=r
  exact ⟨ad,0,e,Nat.le_refl _,fun h=>absurd rfl h⟩
 |c,.agg cs,y,r=>by
  simp only[nz,rel]at r ⊢
  obtain ⟨xs,e,r⟩:=r
  exact ⟨xs,e,znL c cs _ r⟩
 |c,.tup cs,y,r=>by
  simp only[nz,rel]at r ⊢
  obtain ⟨xs,e,r⟩:=r
  exact ⟨xs,e,zmB c cs _ r⟩
 |c,.fn j cs,y,r=>by
  simp only[nz,rel]at r ⊢
  obtain ⟨g,xs,e,hi,r⟩:=r
  exact ⟨g,xs,e,hi,zmB c cs _ r⟩
 |c,.sl sz es,y,r=>by
  simp only[nz,rel]at r ⊢
  obtain ⟨ad,cap,e,h,r⟩:=r
  refine ⟨ad,cap,by rw[zmM];exact e,by rw[zmM];exact h,fun hne=>?_⟩
  have hne':es≠[]:=fun e0=>hne (by rw[e0];simp only[nzR])
  obtain ⟨a,e1,h1,h2,h3⟩:=r hne'
  exact ⟨a,e1,h1,h2,zgv c sz a 0 es h3⟩
 |c,.ip sz es i k,y,r=>by
  simp only[nz,rel]at r ⊢
  obtain ⟨a,e,h1,h2,h3⟩:=r
  exact ⟨a,e,h1,h2,zgv c sz a 0 es h3⟩
 |c,.i k n,y,r=>by simp only[nz];exact r
 |c,.b t,y,r=>by simp only[nz];exact r
 |c,.v x,y,r=>by simp only[nz];exact r
 |c,.u,y,r=>by simp only[nz];exact r
 |c,.ptr l ver off,y,r=>by simp only[nz];exact r
 |c,.sm l ver off n sz,y,r=>by simp only[nz];exact r
 |c,.mp l,y,r=>by simp only[nz];exact r
 |c,.top,y,r=>by simp only[nz];exact r
theorem zmB:∀ (c:Ctx) (xs:List AV) (ys:List Value),zbT c xs ys→zbT c (nzL xs) ys
 |c,[],ys,r=>by simp only[nzL];exact r
 |c,x::xs,ys,r=>by
  simp only[nzL,zbT]at r ⊢
  obtain ⟨y,ys',e,r1,r2⟩:=r
  exact ⟨y,ys',e,zlj c x y r1,zmB c xs ys' r2⟩
theorem znL:∀ (c:Ctx) (xs:List AV) (ys:List Value),relCs c xs ys→relCs c (nzL xs) ys
 |c,[],ys,r=>by simp only[nzL];exact r
 |c,x::xs,ys,r=>by
  simp only[nzL,relCs]at r ⊢
  obtain ⟨y,ys',e,ho,r1,r2⟩:=r
  exact ⟨y,ys',e,ho,zlj c x y r1,znL c xs ys' r2⟩
theorem zlk:∀ (c:Ctx) (a:Addr) (k:Nat) (xs:List AV),zbE c a k xs→zbE c a k (nzL xs)
 |c,a,k,[],r=>by simp only[nzL];exact r
 |c,a,k,x::xs,r=>by
  simp only[nzL,zbE]at r ⊢
  obtain ⟨⟨y,h1,h2,h3,h4⟩,r⟩:=r
  exact ⟨⟨y,h1,h2,zmK x h3,zlj _ x y h4⟩,zlk c a (k+1) xs r⟩
theorem zgv:∀ (c:Ctx) (sz:Nat) (a:Addr) (k:Nat) (es:List (List AV)),zaB c sz a k es→zaB c sz a k (nzR es)
 |c,sz,a,k,[],r=>by simp only[nzR];exact r
 |c,sz,a,k,x::xs,r=>by
  simp only[nzR,zaB]at r ⊢
  exact ⟨by rw[zqs];exact r.1,zlk c a k x r.2.1,zgv c sz a (k+sz) xs r.2.2⟩
end
theorem PC.nzr {P:Program} {inv:Nat→Option Nat} {j:Nat} {args:List AV} {r:AV} (h:PC P inv j args (·=r)):PC P inv j args (·=nz r) :=
 fun g hg M w vs hM ha=>(h g hg M w vs hM ha).mono fun _ _ ⟨v,r',e,h1,h2,h3,h4⟩=>⟨v,nz r',e,by rw[h1],h2,zmK r' h3,zlj _ r' v h4⟩
attribute [go_sem] nz nzL nzR
end Go.Eng
namespace Go.Eng
open Go.RowKit
section
variable {P:Program} {inv:Nat→Option Nat} {w0:World} {M:Nat→Prop} {n N:Nat} {φ:AF} {σ:AS}
theorem AWp.midP (ks:List Nat) (m:List (Nat×AV)) (A:Prop) {x y:ACode} {Q:Exit→AF→AS→Prop} (h1:AWp P inv w0 M N n x (zpm (midK A (ziG m (zeW ks φ)) σ) Q) φ σ) (h2:A→AWp P inv w0 M N n y Q (ziG m (zeW ks φ)) σ):AWp P inv w0 M N n (.seq x y) Q φ σ :=
 AWp.seq fun K hK=>by
  refine AWp.mono ?_ h1
  intro e φ' σ' q
  cases e with
  |normal=>exact hK _ _ ((h2 q.1).sub q.2.1 q.2.2)
  |exit id=>exact q
  |goto l=>exact q
  |ret=>exact q
  |panic ch=>exact q
  |outgrown=>exact q
end
end Go.Eng
namespace Go.Eng
open Go.RowKit
def zeq {S R:Type} (body:Nat→S→(S→R)→R) (fin:S→R):Nat→Nat→S→R
 |0,_,s=>fin s
 |m+1,k,s=>body k s fun s'=>zeq body fin m (k+1) s'
section
variable {S R:Type} {body:Nat→S→(S→R)→R} {fin:S→R} {n k:Nat} {s:S}
end
mutual
def okS (g:Nat→Bool):AV→Bool
 |.agg cs=>zpi g cs
 |.tup cs=>zpi g cs
 |.fn _ cs=>zpi g cs
 |.ptr l _ _=>g l
 |.sm l _ _ _ _=>g l
 |.i _ _=>true|.b _=>true|.v _=>true|.u=>true|.s0 _=>true|.sl _ _=>true|.ip _ _ _ _=>true|.mp _=>true|.top=>true
def zpi (g:Nat→Bool):List AV→Bool
 |[]=>true
 |x::xs=>okS g x&&zpi g xs
end
def okF:Nat→AS→Nat→Bool
 |0,_,_=>false
 |k+1,σ,l=>match zaH σ l with
  |some (.cells cs _)=>zpi (okF k σ) cs
  |_=>false
section
variable {f f':Nat→Option (List AV)} {g:Nat→Bool} (h:∀ l,g l=true→f' l=f l)
include h
mutual
theorem zpG:∀ x:AV,okS g x=true→zaS f' x=zaS f x
 |.agg cs,e=>by simp only[okS]at e;simp only[zaS,zdA cs e]
 |.tup cs,e=>by simp only[okS]at e;simp only[zaS,zdA cs e]
 |.fn j cs,e=>by simp only[okS]at e;simp only[zaS,zdA cs e]
 |.ptr l ver off,e=>by simp only[okS]at e;simp only[zaS,h l e]
 |.sm l ver off n sz,e=>by simp only[okS]at e;simp only[zaS,h l e]
 |.i _ _,_=>by simp only[zaS]
 |.b _,_=>by simp only[zaS]
 |.v _,_=>by simp only[zaS]
 |.u,_=>by simp only[zaS]
 |.s0 _,_=>by simp only[zaS]
 |.sl _ _,_=>by simp only[zaS]
 |.ip _ _ _ _,_=>by simp only[zaS]
 |.mp _,_=>by simp only[zaS]
 |.top,_=>by simp only[zaS]
theorem zdA:∀ xs:List AV,zpi g xs=true→zb6 f' xs=zb6 f xs
 |[],_=>by simp only[zb6]
 |x::xs,e=>by
  simp only[zpi,Bool.and_eq_true]at e
  simp only[zb6,zpG x e.1,zdA xs e.2]
end
end
theorem zk5 {σ σ':AS} (hle:SLe σ σ'):∀ (k l:Nat),okF k σ l=true→zhN k σ' l=zhN k σ l
 |0,_,e=>by simp[okF]at e
 |k+1,l,e=>by
  simp only[okF]at e
  split at e
  ·rename_i cs r hg
   simp only[zhN,hg,hle l _ hg (by intro h;cases h),zdA (fun l=>zk5 hle k l) cs e]
  ·cases e
def oks (k:Nat) (σ:List (Nat×AO)) (xs:List AV):Bool:=zpi (okF k σ) xs
def ok1 (k:Nat) (σ:List (Nat×AO)) (x:AV):Bool:=okS (okF k σ) x
def okR (o:Option AO) (l:Nat) (K:List AV→Bool) (_:l=l):Bool:=match o with|some (.cells cs _)=>K cs|_=>false
theorem okR_c (cs:List AV) (r:Bool) (l:Nat) (K:List AV→Bool) (h:l=l):okR (some (.cells cs r)) l K h=K cs:=rfl
section
variable (k:Nat) (σ:List (Nat×AO))
theorem ok_i (q:IntKind) (n:Int):ok1 k σ (.i q n)=true:=by simp only[ok1,okS]
theorem ok_b (t:Bool):ok1 k σ (.b t)=true:=by simp only[ok1,okS]
theorem ok_v (x:Value):ok1 k σ (.v x)=true:=by simp only[ok1,okS]
theorem ok_u:ok1 k σ .u=true:=by simp only[ok1,okS]
theorem ok_s0 (sz:Nat):ok1 k σ (.s0 sz)=true:=by simp only[ok1,okS]
theorem ok_sl (sz:Nat) (es:List (List AV)):ok1 k σ (.sl sz es)=true:=by simp only[ok1,okS]
theorem ok_ip (sz:Nat) (es:List (List AV)) (i j:Nat):ok1 k σ (.ip sz es i j)=true:=by simp only[ok1,okS]
theorem ok_agg (cs:List AV):ok1 k σ (.agg cs)=oks k σ cs:=by simp only[ok1,okS,oks]
theorem ok_tup (cs:List AV):ok1 k σ (.tup cs)=oks k σ cs:=by simp only[ok1,okS,oks]
theorem ok_fn (j:Nat) (cs:List AV):ok1 k σ (.fn j cs)=oks k σ cs:=by simp only[ok1,okS,oks]
theorem ok_nil:oks k σ []=true:=by simp only[oks,zpi]
theorem ok_cons (x:AV) (xs:List AV):oks k σ (x::xs)=(ok1 k σ x&&oks k σ xs):=by simp only[ok1,zpi,oks]
theorem ok_ptr (l ver off:Nat):ok1 (k+1) σ (.ptr l ver off)=okR (zaH σ l) l (fun cs=>oks k σ cs) rfl:=by
 simp only[ok1,okS,okF,okR,oks]
theorem ok_sm (l ver off n sz:Nat):ok1 (k+1) σ (.sm l ver off n sz)=okR (zaH σ l) l (fun cs=>oks k σ cs) rfl:=by
 simp only[ok1,okS,okF,okR,oks]
end
mutual
theorem plain_ok (g:Nat→Bool):∀ x:AV,x.plain=true→okS g x=true
 |.agg cs,h=>by simp only[AV.plain]at h;simp only[okS];exact zen g cs h
 |.i _ _,_=>rfl|.b _,_=>rfl|.v _,_=>rfl|.sl _ _,_=>rfl|.ip _ _ _ _,_=>rfl
 |.tup _,h=>by simp[AV.plain]at h
 |.u,h=>by simp[AV.plain]at h
 |.s0 _,h=>by simp[AV.plain]at h
 |.ptr _ _ _,h=>by simp[AV.plain]at h
 |.sm _ _ _ _ _,h=>by simp[AV.plain]at h
 |.fn _ _,h=>by simp[AV.plain]at h
 |.mp _,h=>by simp[AV.plain]at h
 |.top,h=>by simp[AV.plain]at h
theorem zen (g:Nat→Bool):∀ xs:List AV,zaA xs=true→zpi g xs=true
 |[],_=>rfl
 |x::xs,h=>by
  simp only[zaA,Bool.and_eq_true]at h
  simp only[zpi,plain_ok g x h.1,zen g xs h.2,Bool.and_self]
end
theorem ok_flat {α:Type} {c:α→List AV} {sz:Nat} [h:Cells c sz] (k:Nat) (σ:AS) (l:List α):oks k σ (l.map c).flatten=true:=zen _ _ (zcq l)
theorem ok_bmap (k:Nat) (σ:AS) (l:List Bool):oks k σ (l.map AV.b)=true:=zen _ _ (zeR l)
theorem ok_imap (k:Nat) (σ:AS) (q:IntKind) (l:List Int):oks k σ (l.map (AV.i q))=true:=zen _ _ (zc8 q l)
attribute [go_sem] okR_c ok_i ok_b ok_v ok_u ok_s0 ok_sl ok_ip ok_agg ok_tup ok_fn ok_nil ok_cons ok_ptr ok_sm ok_flat ok_bmap ok_imap
section
variable {P:Program} {inv:Nat→Option Nat} {w0:World} {M:Nat→Prop} {σ:AS}
theorem zrN (hM:∀ b,M b→b<w0.heap.size) (k:Nat) {j:Nat} {args args':List AV} {r:AV} (h:PC P inv j args' (·=r)) (he:zbN k σ args=args') (hok:oks k σ args=true) (hs:r.scalar=true) {K:AV→Prop} (hk:K r):PureK P inv w0 M σ j args K :=
 ⟨r,fun _ _ σ' hle=>zeT hM k h (by rw[←he];exact zdA (fun l=>zk5 hle k l) args hok) hs ⟨rfl,rfl⟩,hk⟩
end
section
variable {P:Program} {inv:Nat→Option Nat} {w0:World} {M:Nat→Prop} {n N:Nat} {φ:AF} {σ:AS}
theorem zaG {x r:ACode} {Q:Exit→AF→AS→Prop} (l:Nat) (hf:zi4 x l=some r) (h:AWp P inv w0 M N n x (zhg l (fun _ _=>False) Q) φ σ):AWp P inv w0 M N n (.scope x) Q φ σ :=
 AWp.scope l hf (fun _ _ _=>False) (AWp.mono (fun e φ' σ' q=>by
  cases e with
  |goto l'=>exact q.2.elim
  |normal=>exact q
  |exit id=>exact q
  |ret=>exact q
  |panic ch=>exact q
  |outgrown=>exact q) h) fun _ _ _ h=>h.elim
variable {l:Nat} {J:AF→AS→Prop} {Q:Exit→AF→AS→Prop}
theorem jt_ret:zhg l J Q .ret φ σ=Q .ret φ σ:=rfl
theorem zqC:zhg l J Q .normal φ σ=Q .normal φ σ:=rfl
theorem jt_exit (i:Nat):zhg l J Q (.exit i) φ σ=Q (.exit i) φ σ:=rfl
theorem jt_goto (l':Nat):zhg l J Q (.goto l') φ σ=(l'=l∧J φ σ):=rfl
attribute [go_sem] jt_ret zqC jt_exit jt_goto
end
section
variable {P:Program} {inv:Nat→Option Nat} {w0:World} {M:Nat→Prop} {n N:Nat} {φ:AF} {σ:AS}
theorem AWp.sqpC (ks:List Nat) {l:List GOp} {c:Opd} {u v y:ACode} {Q:Exit→AF→AS→Prop} (h:∀ K:AF→AS→Prop,Cont K (AWp P inv w0 M N n y Q)→AWp P inv w0 M N n (.seq (.reg l) (.cond c u v)) (zpm (pk ks K) Q) φ σ):AWp P inv w0 M N n (.seq (.seq (.reg l) (.cond c u v)) y) Q φ σ:=zaa ks h
theorem AWp.sqpD (ks:List Nat) {k:Nat} {l:List GOp} {c:Opd} {u v y:ACode} {Q:Exit→AF→AS→Prop} (h:∀ K:AF→AS→Prop,Cont K (AWp P inv w0 M N n y Q)→AWp P inv w0 M N n (.seq (.regd k l) (.cond c u v)) (zpm (pk ks K) Q) φ σ):AWp P inv w0 M N n (.seq (.seq (.regd k l) (.cond c u v)) y) Q φ σ:=zaa ks h
end
end Go.Eng
namespace Go.Lev
open Go.Eng
set_option maxRecDepth 10000
set_option maxHeartbeats 4000000
variable {P:Program} {inv:Nat→Option Nat} {w0:World} {M:Nat→Prop}
def zbB (s:State) (n:Int):Int:=match s.tracks.find? fun t=>decide (t.id=n) with|some t=>t.is|none=>2
def zcK (p:Pln) (n:Int):Int:=match p.points.find? fun t=>decide (t.id=n) with|some t=>t.sec|none=>0
def zkX (p:Pln) (s:State) (n:Int):Int:=if zac p s=0 then (if zdY p n=true then (if nth (zav p s).2.1 n.toNat=0 then (if zbB s (zcK p n)=0 then 0 else 171) else 170) else 6) else zac p s
def zoB (s:State) (n v:Int):State:=⟨s.tracks,zcP Switch.id n (fun t=>⟨t.id,t.lie,v⟩) s.switches,s.locks⟩
def zd5 (p:Pln) (s:State) (n v:Int):Int:=if zac p s=0 then (if zdY p n=true then (if v=1∨v=2 then zkX p s n else 2) else 6) else zac p s
def znf (p:Pln) (s:State) (n v:Int):State:=if zd5 p s n v=0 then zoB s n v else State.z
theorem is168_pc (hH:HasAll P inv) (n:Int) (x:Switch):PC P inv 168 ([.agg x.c]++[.ip 1 [[.n n]] 0 0]) (·=.b (decide (x.id=n))):=by
 refine PC.fn hH cd168 fun w0 M Q hM hE hQ hR=>?_;dsimp only[cd168,qm,ql,qf,qi,qb,qc,qp,qv,qN,qT,qF,qt]at hQ ⊢
 (repeat' first|refine zaa [0,1,2,3] fun K hK=>?_|(refine hK.go ?_;clear hK K)|with_reducible exact wT|refine wA ?_|(refine wB (fun h=>?_) (fun h=>?_)<;>first|exact wN h|subst (h:(_:Bool)=_)|skip)|(refine wQ ?_;clear hQ hR hE hM)|fail)
theorem is169_pc (hH:HasAll P inv) (n:Int) (x:Pnt):PC P inv 169 ([.agg x.c]++[.ip 1 [[.n n]] 0 0]) (·=.b (decide (x.id=n))):=by
 refine PC.fn hH cd169 fun w0 M Q hM hE hQ hR=>?_;dsimp only[cd169,qm,ql,qf,qi,qb,qc,qp,qv,qN,qT,qF,qt]at hQ ⊢
 (repeat' first|refine zaa [0,1,2,3] fun K hK=>?_|(refine hK.go ?_;clear hK K)|with_reducible exact wT|refine wA ?_|(refine wB (fun h=>?_) (fun h=>?_)<;>first|exact wN h|subst (h:(_:Bool)=_)|skip)|(refine wQ ?_;clear hQ hR hE hM)|fail)
theorem is170_pc (hH:HasAll P inv) (n:Int) (x:Track):PC P inv 170 ([.agg x.c]++[.ip 1 [[.n n]] 0 0]) (·=.b (decide (x.id=n))):=by
 refine PC.fn hH cd170 fun w0 M Q hM hE hQ hR=>?_;dsimp only[cd170,qm,ql,qf,qi,qb,qc,qp,qv,qN,qT,qF,qt]at hQ ⊢
 (repeat' first|refine zaa [0,1,2,3] fun K hK=>?_|(refine hK.go ?_;clear hK K)|with_reducible exact wT|refine wA ?_|(refine wB (fun h=>?_) (fun h=>?_)<;>first|exact wN h|subst (h:(_:Bool)=_)|skip)|(refine wQ ?_;clear hQ hR hE hM)|fail)
theorem zeM {α:Type} [Inhabited α] (f:α→Int) {l:List α} (hn:(l.map f).Nodup) {k:Nat} (hk:k<l.length) {n:Int} (e:f (nth l k)=n):(l.find? fun t=>decide (f t=n))=some (nth l k):=by
 subst e
 exact zm9 f hn (zad hk)
theorem zhG {p:Pln} {s:State} (h:zai p s=true) {n:Int} (hs:∃ x∈p.sections,x.id=n):ziw s n:=by
 obtain ⟨x,hx,rfl⟩:=hs
 have:x.id∈s.tracks.map Track.id:=by rw[zgj h];exact List.mem_map_of_mem hx
 obtain ⟨t,ht,e⟩:=List.mem_map.1 this
 exact ⟨t,ht,e⟩
theorem pnt_sec {p:Pln} (h:OkP p) {x:Pnt} (hx:x∈p.points):∃ y∈p.sections,y.id=x.sec:=by
 obtain ⟨s,hs,_,_,e⟩:=zqe h hx
 exact ⟨s,hs,e⟩
theorem zoU {p:Pln} {s:State} (h:zai p s=true) (n:Int):zbB s n≤2:=by
 unfold zbB
 cases e:s.tracks.find? fun t=>decide (t.id=n) with
 |none=>exact Int.le_refl _
 |some t =>
  obtain ⟨x,_,hx⟩:=zji (by simp only[zai,Bool.and_eq_true]at h;exact h.1) t (List.mem_of_find?_eq_some e)
  simp only[zhh,Bool.and_eq_true,decide_eq_true_eq]at hx
  exact hx.2
theorem zpF {p:Pln} {s:State}:zac p s=0∨zac p s=8∨zac p s=100:=by
 unfold zac
 split
 ·split
  ·exact .inl rfl
  ·exact .inr (.inl rfl)
 ·exact .inr (.inr rfl)
theorem zqw (hH:HasAll P inv) (hI:HasIds P inv) (p:Pln) (hp:Sm p) (s:State) (hs:SmS s) (h8:∀ t∈s.tracks,0≤t.is) (n:Int):PC P inv 153 [.agg p.c,.agg s.c,.n n] (·=.n (zkX p s n)):=by
 have c0:=zoi hH hI p hp s hs n
 unfold zkX
 unfold zjN at c0
 by_cases hst:zac p s=0
 ·rw[if_pos hst]at c0 ⊢
  have hok:=zae hst
  have hpa:=(zab hst).2.1
  cases hn:zdY p n with
  |false =>
   rw[hn,if_neg (by simp)]at c0
   rw[if_neg (by simp)]
   refine PC.fn hH cd153 fun w0 M Q hM hE hQ hR=>?_;dsimp only[cd153,qm,ql,qf,qi,qb,qc,qp,qv,qN,qT,qF,qt]at hQ ⊢
   (repeat' first|refine zaa [0,1,2,3,4,5,6,7,8,9,10,19,34,37,45] fun K hK=>?_|(refine hK.go ?_;clear hK K)|with_reducible exact wT|refine wA ?_|(refine wB (fun h=>?_) (fun h=>?_)<;>first|exact wN h|subst (h:(_:Bool)=_)|skip)|(refine wQ ?_;clear hQ hR hE hM)|refine wC c0 ?_|fail)
   all_goals first|rfl|(exfalso;contradiction)|skip
  |true =>
   rw[hn,if_pos rfl]at c0
   rw[if_pos rfl]
   have c1:=ziy hH p.points (fun x _=>is169_pc hH n x) (Nat.le_trans hp.pts (by omega))
   obtain ⟨x,hx,ex⟩:=List.any_eq_true.1 hn
   have ex:x.id=n:=by simpa using ex
   rcases zaQ Pnt.id n p.points with ⟨_,h4⟩|⟨k,hk,h4,h5⟩
   ·exact absurd ex (h4 x hx)
   ·rw[h4]at c1
    have e1:zcK p n=(nth p.points k).sec:=by unfold zcK;rw[zeM Pnt.id (zbF hok) hk h5]
    have c2:=zkB hH s.tracks (fun x _=>is170_pc hH (nth p.points k).sec x) (Nat.le_trans hs.1 (by omega))
    obtain ⟨t,ht,et⟩:=zhG hpa (pnt_sec hok (zad hk))
    rcases zaQ Track.id (nth p.points k).sec s.tracks with ⟨_,h6⟩|⟨m,hm,h6,h7⟩
    ·exact absurd et (h6 t ht)
    ·rw[h6]at c2
     have hno:(s.tracks.map Track.id).Nodup:=by rw[zgj hpa];exact zel hok
     have e2:zbB s (zcK p n)=(nth s.tracks m).is:=by unfold zbB;rw[e1,zeM Track.id hno hm h7]
     have e3:=zoU hpa (zcK p n)
     have e4:=h8 _ (zad hm)
     rw[e2]at e3 ⊢
     have hl1:=hp.pts
     have hl2:=hs.1
     generalize nth (zav p s).2.1 n.toNat=a at c0 ⊢
     clear h4 h5 h6 h7 e1 e2 et ht hno hpa hok hn ex hx
     refine PC.fn hH cd153 fun w0 M Q hM hE hQ hR=>?_;dsimp only[cd153,qm,ql,qf,qi,qb,qc,qp,qv,qN,qT,qF,qt]at hQ ⊢
     (repeat' first|refine zaa [0,1,2,3,4,5,6,7,8,9,10,19,34,37,45] fun K hK=>?_|(refine hK.go ?_;clear hK K)|with_reducible exact wT|refine wA ?_|(refine wB (fun h=>?_) (fun h=>?_)<;>first|exact wN h|subst (h:(_:Bool)=_)|skip)|(refine wQ ?_;clear hQ hR hE hM)|refine wC c0 ?_|refine wP c1 ?_|refine wS c2 ?_|fail)
     all_goals ((repeat' split)<;>first|rfl|(exfalso;contradiction)|(exfalso;omega))
 ·rw[if_neg hst]at c0 ⊢
  generalize zac p s=e at c0 hst ⊢
  refine PC.fn hH cd153 fun w0 M Q hM hE hQ hR=>?_;dsimp only[cd153,qm,ql,qf,qi,qb,qc,qp,qv,qN,qT,qF,qt]at hQ ⊢
  (repeat' first|refine zaa [0,1,2,3,4,5,6,7,8,9,10,19,34,37,45] fun K hK=>?_|(refine hK.go ?_;clear hK K)|with_reducible exact wT|refine wA ?_|(refine wB (fun h=>?_) (fun h=>?_)<;>first|exact wN h|subst (h:(_:Bool)=_)|skip)|(refine wQ ?_;clear hQ hR hE hM)|refine wC c0 ?_|fail)
  all_goals first|rfl|(exfalso;contradiction)|skip
theorem zog {p:Pln} {s:State} {n v:Int} (h:zd5 p s n v=0):zac p s=0∧zdY p n=true∧(v=1∨v=2)∧zkX p s n=0:=by
 unfold zd5 at h
 split at h
 ·rename_i h1
  split at h
  ·rename_i h2
   split at h
   ·rename_i h3;exact ⟨h1,h2,h3,h⟩
   ·cases h
  ·cases h
 ·rename_i h1;exact absurd h h1
theorem zpx {p:Pln} {s:State} (h:zai p s=true) {n:Int} (hn:zdY p n=true):zky s n:=by
 obtain ⟨x,hx,e⟩:=List.any_eq_true.1 hn
 have e:x.id=n:=by simpa using e
 have:x.id∈s.switches.map Switch.id:=by rw[zcR h];exact List.mem_map_of_mem hx
 obtain ⟨t,ht,e2⟩:=List.mem_map.1 this
 exact ⟨t,ht,e2.trans e⟩
theorem callP_po (hH:HasAll P inv) (hI:HasIds P inv) (p:Pln) (hp:Sm p) (s:State) (hs:SmS s) (h8:∀ t∈s.tracks,0≤t.is) (n v:Int) (he:zd5 p s n v=0):PO P inv 151 [.agg p.c,.agg s.c,.n n,.n v] (.tup [zf8 6 (zoB s n v),.n 0]) (zf9 6 (zoB s n v)):=by
 obtain ⟨hst,hn,hv,hm⟩:=zog he
 have c0:=zqw hH hI p hp s hs h8 n
 rw[hm]at c0
 have c1:=zbD hH s hs
 obtain ⟨t,ht,htn⟩:=zpx (zab hst).2.1 hn
 have c2:=zgG hH s.switches (fun x _=>is168_pc hH n x) (by have:=hs.2.1;omega)
 have hno:(s.switches.map Switch.id).Nodup:=by rw[zcR (zab hst).2.1];exact zbF (zae hst)
 have h2:=hs.2.1
 rcases zaQ Switch.id n s.switches with ⟨_,h4⟩|⟨k,hk,h4,h5⟩
 ·exact absurd htn (h4 t ht)
 ·rw[h4]at c2
  have e1:=zfm Switch.id n (fun t=>(⟨t.id,t.lie,v⟩:Switch)) hno hk h5
  have e2:=zbo (c:=Switch.c) (l:=s.switches) (k:=k) (i:=2) hk (by omega) (.i .i64 v) (⟨(nth s.switches k).id,(nth s.switches k).lie,v⟩:Switch) rfl
  rw[e1]at e2
  unfold stV stR at c1
  refine PO.fn hH cd151 fun w0 M Q hM hE hQ hR=>?_;dsimp only[cd151,qm,ql,qf,qi,qb,qc,qp,qv,qN,qT,qF,qt]at hQ ⊢
  (have hX:=@e2;(repeat' first|refine zaa [0,1,2,3,4,5,6,8,9,10,11,34,36] fun K hK=>?_|(refine hK.go ?_;clear hK K)|with_reducible exact wT|refine wA ?_|(refine wB (fun h=>?_) (fun h=>?_)<;>first|exact wN h|subst (h:(_:Bool)=_)|skip)|(refine wR ?_;clear hQ hR hE hM)|refine wC c0 ?_|refine wO c1 ?_|refine wS c2 ?_|fail);all_goals clear hX)
  all_goals (left;unfold zf8 zf9 zoB;dsimp only;rw[za0];constructor)
  all_goals (refine no_implicit_lambda% (st ?_);try with_reducible exact wT)
theorem zoQ {p:Pln} {s:State} {n:Int} (hst:zac p s=0) (hn:zdY p n=true):zkX p s n=0∨zkX p s n=170∨zkX p s n=171:=by
 unfold zkX
 rw[if_pos hst,if_pos hn]
 split
 ·split
  ·exact .inl rfl
  ·exact .inr (.inr rfl)
 ·exact .inr (.inl rfl)
theorem callP_pc (hH:HasAll P inv) (hI:HasIds P inv) (p:Pln) (hp:Sm p) (s:State) (hs:SmS s) (h8:∀ t∈s.tracks,0≤t.is) (n v:Int):PC P inv 151 [.agg p.c,.agg s.c,.n n,.n v] (·=.tup [.agg (znf p s n v).c,.n (zd5 p s n v)]):=by
 unfold znf
 by_cases he:zd5 p s n v=0
 ·have:=(callP_po hH hI p hp s hs h8 n v he).pc
  rw[zb2]at this
  rw[if_pos he,he]
  exact this
 ·rw[if_neg he]
  have c0:=zqw hH hI p hp s hs h8 n
  have key:(∃ e,zkX p s n=e∧zd5 p s n v=e∧(e=6∨e=8∨e=100))∨(∃ e,zkX p s n=e∧(e=0∨e=170∨e=171)∧zd5 p s n v=2∧¬v=1∧¬v=2)∨(∃ e,zkX p s n=e∧(e=170∨e=171)∧zd5 p s n v=e∧(v=1∨v=2)):=by
   by_cases hst:zac p s=0
   ·cases hn:zdY p n with
    |false=>exact .inl ⟨6,by unfold zkX;rw[if_pos hst,if_neg (by simp[hn])],by unfold zd5;rw[if_pos hst,if_neg (by simp[hn])],.inl rfl⟩
    |true =>
     have hm:=zoQ hst hn
     have hc:zd5 p s n v=if v=1∨v=2 then zkX p s n else 2:=by unfold zd5;rw[if_pos hst,if_pos hn]
     by_cases hv:v=1∨v=2
     ·rw[if_pos hv]at hc
      rcases hm with hm|hm|hm
      ·exact absurd (hc.trans hm) he
      ·exact .inr (.inr ⟨170,hm,.inl rfl,hc.trans hm,hv⟩)
      ·exact .inr (.inr ⟨171,hm,.inr rfl,hc.trans hm,hv⟩)
     ·rw[if_neg hv]at hc
      exact .inr (.inl ⟨_,rfl,hm,hc,fun h=>hv (.inl h),fun h=>hv (.inr h)⟩)
   ·have h1:zkX p s n=zac p s:=by unfold zkX;rw[if_neg hst]
    have h2:zd5 p s n v=zac p s:=by unfold zd5;rw[if_neg hst]
    rcases zpF (p:=p) (s:=s) with h|h|h
    ·exact absurd h hst
    ·exact .inl ⟨8,h1.trans h,h2.trans h,.inr (.inl rfl)⟩
    ·exact .inl ⟨100,h1.trans h,h2.trans h,.inr (.inr rfl)⟩
  rcases key with ⟨e,h1,h2,h3⟩|⟨e,h1,h3,h2,h4,h5⟩|⟨e,h1,h3,h2,h4⟩
  ·rw[h1]at c0
   rw[h2]
   rcases h3 with rfl|rfl|rfl
   all_goals refine PC.fn hH cd151 fun w0 M Q hM hE hQ hR=>?_;dsimp only[cd151,qm,ql,qf,qi,qb,qc,qp,qv,qN,qT,qF,qt]at hQ ⊢
   all_goals (repeat' first|refine zaa [0,1,2,3,4,5,6,8,9,10,11,34,36] fun K hK=>?_|(refine hK.go ?_;clear hK K)|with_reducible exact wT|refine wA ?_|(refine wB (fun h=>?_) (fun h=>?_)<;>first|exact wN h|subst (h:(_:Bool)=_)|skip)|(refine wQ ?_;clear hQ hR hE hM)|refine wC c0 ?_|fail)
   all_goals first|rfl|(exfalso;contradiction)|(exfalso;omega)
  ·rw[h1]at c0
   rw[h2]
   rcases h3 with rfl|rfl|rfl
   all_goals refine PC.fn hH cd151 fun w0 M Q hM hE hQ hR=>?_;dsimp only[cd151,qm,ql,qf,qi,qb,qc,qp,qv,qN,qT,qF,qt]at hQ ⊢
   all_goals (repeat' first|refine zaa [0,1,2,3,4,5,6,8,9,10,11,34,36] fun K hK=>?_|(refine hK.go ?_;clear hK K)|with_reducible exact wT|refine wA ?_|(refine wB (fun h=>?_) (fun h=>?_)<;>first|exact wN h|subst (h:(_:Bool)=_)|skip)|(refine wQ ?_;clear hQ hR hE hM)|refine wC c0 ?_|fail)
   all_goals first|rfl|(exfalso;contradiction)|(exfalso;omega)
  ·rw[h1]at c0
   rw[h2]
   rcases h3 with rfl|rfl
   all_goals refine PC.fn hH cd151 fun w0 M Q hM hE hQ hR=>?_;dsimp only[cd151,qm,ql,qf,qi,qb,qc,qp,qv,qN,qT,qF,qt]at hQ ⊢
   all_goals (repeat' first|refine zaa [0,1,2,3,4,5,6,8,9,10,11,34,36] fun K hK=>?_|(refine hK.go ?_;clear hK K)|with_reducible exact wT|refine wA ?_|(refine wB (fun h=>?_) (fun h=>?_)<;>first|exact wN h|subst (h:(_:Bool)=_)|skip)|(refine wQ ?_;clear hQ hR hE hM)|refine wC c0 ?_|fail)
   all_goals first|rfl|(exfalso;contradiction)|(exfalso;omega)
end Go.Lev
namespace Go.Lev
open Go.Eng
theorem zko (n v m:Int) (hm:m≠n):∀ (l:List Switch) (C D:List (Int×Int)),zgb C m=zgb D m→zgb (zgc C (zcP Switch.id n (fun t=>⟨t.id,t.lie,v⟩) l)) m=zgb (zgc D l) m
 |[],_,_,h=>h
 |x::r,C,D,h=>by
  show zgb (zgc (zmN C (if x.id=n then (⟨x.id,x.lie,v⟩:Switch) else x).id (if x.id=n then (⟨x.id,x.lie,v⟩:Switch) else x).call) (zcP Switch.id n (fun t=>⟨t.id,t.lie,v⟩) r)) m=zgb (zgc (zmN D x.id x.call) r) m
  refine zko n v m hm r _ _ ?_
  rw[zfN,zfN]
  by_cases hx:x.id=n
  ·rw[if_pos hx]
   dsimp only
   rw[if_neg (by omega),if_neg (by omega)]
   exact h
  ·rw[if_neg hx,h]
theorem zne (s:State) {n m:Int} (v:Int) (hm:m≠n):zcN (zoB s n v) m=zcN s m:=zko n v m hm s.switches [] [] rfl
theorem zoA {p:Pln} {s:State} {n v:Int} (h:zai p s=true) (hv:0≤v∧v≤2):zai p (zoB s n v)=true:=by
 unfold zai at h ⊢
 simp only[Bool.and_eq_true,zbf]at h ⊢
 unfold zoB
 simp only[za0]
 refine ⟨h.1,⟨h.2.1.1,fun i hi=>?_⟩,h.2.2⟩
 have:=h.2.1.2 i hi
 unfold zcP
 rw[zjw (fun x=>if Switch.id x=n then (⟨x.id,x.lie,v⟩:Switch) else x) hi]
 simp only[zgl,zer,Bool.and_eq_true,decide_eq_true_eq]at this ⊢
 split
 ·exact ⟨this.1,this.2.1,hv⟩
 ·exact this
theorem asl_lie {p:Pln} {s:State} (h:zac p s=0) {z:WL} (hz:z∈zof p s) {a:AskR} (ha:a∈asl z):a.lie=1∨a.lie=2:=by
 obtain ⟨i,hi,rfl⟩:=zfj h hz
 exact zqy h hi ha
theorem zpX {p:Pln} {s:State} {n v:Int} (h:zac p s=0) (hn:nth (zav p s).2.1 n.toNat=0) (hv:0≤v∧v≤2):zac p (zoB s n v)=0:=by
 obtain ⟨h1,h2,h3,h4⟩:=(zgn p s).1 h
 refine (zgn p _).2 ⟨h1,zoA h2 hv,h3,fun z hz a ha=>?_⟩
 have hne:a.pnt≠n:=fun e=>by
  have h5:=ask_at h hz ha
  have h6:=asl_lie h hz ha
  rw[e,hn]at h5
  omega
 rw[zne s v hne]
 exact h4 z hz a ha
structure MayCall (p:Pln) (s:State) (n:Int):Prop where
 st:zac p s=0
 pt:zdY p n=true
 ask:nth (zav p s).2.1 n.toNat=0
 free:zbB s (zcK p n)=0
theorem znV {p:Pln} {s:State} {n:Int}:zkX p s n=0↔MayCall p s n:=by
 constructor
 ·intro h
  unfold zkX at h
  split at h
  ·rename_i h1
   split at h
   ·rename_i h2
    split at h
    ·rename_i h3
     split at h
     ·rename_i h4;exact ⟨h1,h2,h3,h4⟩
     ·cases h
    ·cases h
   ·cases h
  ·rename_i h1;exact absurd h h1
 ·rintro ⟨h1,h2,h3,h4⟩
  unfold zkX
  rw[if_pos h1,if_pos h2,if_pos h3,if_pos h4]
theorem zl4 {p:Pln} {s:State} {n v:Int}:zd5 p s n v=0↔MayCall p s n∧(v=1∨v=2):=by
 constructor
 ·intro h
  have:=zog h
  exact ⟨znV.1 this.2.2.2,this.2.2.1⟩
 ·rintro ⟨h1,h2⟩
  unfold zd5
  rw[if_pos h1.st,if_pos h1.pt,if_pos h2]
  exact znV.2 h1
theorem MayCall.code {p:Pln} {s:State} {n v:Int} (h:MayCall p s n) (hv:v=1∨v=2):zac p (zoB s n v)=0:=zpX h.st h.ask (by omega)
theorem zit {α:Type} [Inhabited α] (f:α→Int) {l:List α} (hn:(l.map f).Nodup) {i j:Nat} (hi:i<l.length) (hj:j<l.length) (e:f (nth l i)=f (nth l j)):i=j:=by
 have:=List.nodup_iff_pairwise_ne.1 hn
 rcases Nat.lt_trichotomy i j with hlt|he|hlt
 ·have:=List.pairwise_iff_getElem.1 this i j (by simpa using hi) (by simpa using hj) hlt
  simp only[List.getElem_map]at this
  rw[←zaK hi,←zaK hj]at this
  exact absurd e this
 ·exact he
 ·have:=List.pairwise_iff_getElem.1 this j i (by simpa using hj) (by simpa using hi) hlt
  simp only[List.getElem_map]at this
  rw[←zaK hi,←zaK hj]at this
  exact absurd e.symm this
theorem zdv {α:Type} [Inhabited α] {l:List α} {x:α} (h:x∈l):∃ k,k<l.length∧nth l k=x:=by
 obtain ⟨k,hk,e⟩:=List.mem_iff_getElem.1 h
 exact ⟨k,hk,by rw[zaK hk];exact e⟩
end Go.Lev
namespace Go.Lev
open Go.Eng
theorem zmX {p:Pln} {s:State} (ho:OkP p) (h:zai p s=true) {k:Nat} (hk:k<s.tracks.length):zbB s (nth s.tracks k).id=(nth s.tracks k).is:=by
 unfold zbB
 rw[zeM Track.id (by rw[zgj h];exact zel ho) hk rfl]
def peF (p:Pln) (s:State) (n e a g m:Int):Bool :=
 zeq (fun i _ zdk=>cond (!decide ((nth p.points i).id=n)) (zdk ())
   (cond (!decide (a=0)) (decide (e=170))
    (zeq (fun k _ next2=>cond (decide ((nth s.tracks k).id=(nth p.points i).sec)&&!decide ((nth s.tracks k).is=0)) (decide (e=171)) (next2 ()))
     (fun _=>decide (e=0)&&decide (g=0)&&decide (m=0)) s.tracks.length 0 ())))
  (fun _=>decide (e=6)) p.points.length 0 ()
def pfF (p:Pln) (s:State) (n v e a c:Int):Bool :=
 zeq (fun i (st:Bool×Int) zdk=>cond (!decide ((nth p.points i).id=n)) (zdk st)
   (zeq (fun k (fr:Bool) next2=>next2 (fr||decide ((nth s.tracks k).id=(nth p.points i).sec)&&decide ((nth s.tracks k).is=0)))
    (fun fr=>zdk (fr,(i:Int))) s.tracks.length 0 st.1))
  (fun st=>cond (!decide (decide (e=0)=(decide (0≤st.2)&&(decide (v=1)||decide (v=2))&&decide (c=0)&&decide (a=0)&&st.1))) false true) p.points.length 0 (false,-1)
end Go.Lev
namespace Go.Lev
open Go.Eng
set_option maxRecDepth 10000
set_option maxHeartbeats 4000000
variable {P:Program} {inv:Nat→Option Nat} {w0:World} {M:Nat→Prop}
theorem zqQ (hH:HasAll P inv) (l:List Track) (v:Track) (hl:l.length≤1000000000):PC P inv 184 [.sl 2 (l.map Track.c),.agg v.c] (·=.n (zbA (fun x=>decide (v.id=x.id)&&decide (v.is=x.is)) 0 l)):=by
 refine PC.fn hH cd184 fun w0 M Q hM hE hQ hR=>?_;dsimp only[cd184,qm,ql,qf,qi,qb,qc,qp,qv,qN,qT,qF,qt]at hQ ⊢
 (repeat' first|refine zaa [0,1,3,4,5,7,8,9,16] fun K hK=>?_|(refine hK.go ?_;clear hK K)|with_reducible exact wT|refine wA ?_|(refine wB (fun h=>?_) (fun h=>?_)<;>first|exact wN h|subst (h:(_:Bool)=_)|skip)|(refine wQ ?_;clear hQ hR hE hM)|fail)
 refine zap (ι:=Nat) [0,3,4,7,8] (fun z=>[(8,.n z)]) (fun _=>[]) (fun z=>z) (l.length) (fun z=>(zbA (fun x=>decide (v.id=x.id)&&decide (v.is=x.is)) z (l.drop z)=zbA (fun x=>decide (v.id=x.id)&&decide (v.is=x.is)) 0 l)) (0) ?_;rintro k ⟨hk,hg⟩;(try dsimp only at hk hg ⊢);rcases Nat.lt_or_ge k l.length with hlt|hge
 ·rw[zaj hlt]at hg
  rw[zbA]at hg
  cases ht:decide (v.id=(nth l k).id)&&decide (v.is=(nth l k).is) with
  |true =>
   rw[if_pos ht]at hg
   (have hX:=@ht;(repeat' first|refine zaa [0,1,3,4,5,7,8,9,16] fun K hK=>?_|(refine hK.go ?_;clear hK K)|with_reducible exact wT|refine wA ?_|(refine wB (fun h=>?_) (fun h=>?_)<;>first|exact wN h|subst (h:(_:Bool)=_)|skip)|(refine wQ ?_;clear hQ hR hE hM)|fail);all_goals clear hX)
   all_goals first|exact hg|(exfalso;contradiction)
  |false =>
   rw[if_neg (by rw[ht];simp)]at hg
   (have hX:=@ht;(repeat' first|refine zaa [0,1,3,4,5,7,8,9,16] fun K hK=>?_|(refine hK.go ?_;clear hK K)|with_reducible exact wT|refine wA ?_|(refine wB (fun h=>?_) (fun h=>?_)<;>first|exact wN h|subst (h:(_:Bool)=_)|skip)|(refine wQ ?_;clear hQ hR hE hM)|fail);all_goals clear hX)
   all_goals first|(exfalso;contradiction)|exact ⟨k+1,by omega,⟨by omega,hg⟩,by omega⟩
 ·rw[List.drop_eq_nil_of_le hge]at hg
  (repeat' first|refine zaa [0,1,3,4,5,7,8,9,16] fun K hK=>?_|(refine hK.go ?_;clear hK K)|with_reducible exact wT|refine wA ?_|(refine wB (fun h=>?_) (fun h=>?_)<;>first|exact wN h|subst (h:(_:Bool)=_)|skip)|(refine wQ ?_;clear hQ hR hE hM)|fail)
  rw[←hg];rfl
theorem zm3 (hH:HasAll P inv) (l:List Track) (v:Track) (hl:l.length≤1000000000):PC P inv 176 [.sl 2 (l.map Track.c),.agg v.c] (·=.b (l.any fun x=>decide (v.id=x.id)&&decide (v.is=x.is))):=by
 have c1:=zqQ hH l v hl
 have e:=zfe (fun x:Track=>decide (v.id=x.id)&&decide (v.is=x.is)) l
 revert c1 e
 generalize zbA (fun x:Track=>decide (v.id=x.id)&&decide (v.is=x.is)) 0 l=i
 generalize (l.any fun x=>decide (v.id=x.id)&&decide (v.is=x.is))=t
 intro c1 e
 refine PC.fn hH cd176 fun w0 M Q hM hE hQ hR=>?_;dsimp only[cd176,qm,ql,qf,qi,qb,qc,qp,qv,qN,qT,qF,qt]at hQ ⊢
 (have hX:=@e;(repeat' first|refine zaa [0,1,3,4] fun K hK=>?_|(refine hK.go ?_;clear hK K)|with_reducible exact wT|refine wA ?_|(refine wB (fun h=>?_) (fun h=>?_)<;>first|exact wN h|subst (h:(_:Bool)=_)|skip)|(refine wQ ?_;clear hQ hR hE hM)|refine wC c1 ?_|fail);all_goals clear hX)
theorem zlH (hH:HasAll P inv) {jc:Nat} {caps:List AV} {q:Int→Bool} (l:List Int) (hc:∀ x∈l,PC P inv jc ([.n x]++caps) (·=.b (q x))) (hl:l.length≤1000000000):PC P inv 177 [.sl 1 (l.map zdl),.fn jc caps] (·=.b (l.any q)):=by
 have c1:=idx_int hH l hc hl
 have e:=zfe q l
 refine PC.fn hH cd177 fun w0 M Q hM hE hQ hR=>?_;dsimp only[cd177,qm,ql,qf,qi,qb,qc,qp,qv,qN,qT,qF,qt]at hQ ⊢
 (have hX:=@e;(repeat' first|refine zaa [0,1,4] fun K hK=>?_|(refine hK.go ?_;clear hK K)|with_reducible exact wT|refine wA ?_|(refine wB (fun h=>?_) (fun h=>?_)<;>first|exact wN h|subst (h:(_:Bool)=_)|skip)|(refine wQ ?_;clear hQ hR hE hM)|refine wC c1 ?_|fail);all_goals clear hX)
def frT (s:State) (n:Int):Bool:=s.tracks.any fun x=>decide (n=x.id)&&decide (0=x.is)
theorem free_pc (hH:HasAll P inv) (s:State) (hs:s.tracks.length≤1000000000) (n:Int):PC P inv 181 [.agg s.c,.n n] (·=.b (frT s n)):=by
 have c1:=zm3 hH s.tracks ⟨n,0⟩ hs
 rw[show (s.tracks.any fun x=>decide ((⟨n,0⟩:Track).id=x.id)&&decide ((⟨n,0⟩:Track).is=x.is))=frT s n from rfl]at c1
 refine PC.fn hH cd181 fun w0 M Q hM hE hQ hR=>?_;dsimp only[cd181,qm,ql,qf,qi,qb,qc,qp,qv,qN,qT,qF,qt]at hQ ⊢
 (repeat' first|refine zaa [0,1,2,4] fun K hK=>?_|(refine hK.go ?_;clear hK K)|with_reducible exact wT|refine wA ?_|(refine wB (fun h=>?_) (fun h=>?_)<;>first|exact wN h|subst (h:(_:Bool)=_)|skip)|(refine wQ ?_;clear hQ hR hE hM)|refine wC c1 ?_|fail)
theorem is189_pc (hH:HasAll P inv) (n:Int) (x:Pnt):PC P inv 189 ([.agg x.c]++[.ip 1 [[.n n]] 0 0]) (·=.b (decide (x.id=n))):=by
 refine PC.fn hH cd189 fun w0 M Q hM hE hQ hR=>?_;dsimp only[cd189,qm,ql,qf,qi,qb,qc,qp,qv,qN,qT,qF,qt]at hQ ⊢
 (repeat' first|refine zaa [0,1,2,3] fun K hK=>?_|(refine hK.go ?_;clear hK K)|with_reducible exact wT|refine wA ?_|(refine wB (fun h=>?_) (fun h=>?_)<;>first|exact wN h|subst (h:(_:Bool)=_)|skip)|(refine wQ ?_;clear hQ hR hE hM)|fail)
theorem znZ (hH:HasAll P inv) (n:Int) (x:Switch):PC P inv 183 ([.agg x.c]++[.ip 1 [[.n n]] 0 0]) (·=.b (decide (x.id=n))):=by
 refine PC.fn hH cd183 fun w0 M Q hM hE hQ hR=>?_;dsimp only[cd183,qm,ql,qf,qi,qb,qc,qp,qv,qN,qT,qF,qt]at hQ ⊢
 (repeat' first|refine zaa [0,1,2,3] fun K hK=>?_|(refine hK.go ?_;clear hK K)|with_reducible exact wT|refine wA ?_|(refine wB (fun h=>?_) (fun h=>?_)<;>first|exact wN h|subst (h:(_:Bool)=_)|skip)|(refine wQ ?_;clear hQ hR hE hM)|fail)
theorem is180_pc (hH:HasAll P inv) (n:Int) (x:Lock):PC P inv 180 ([.agg x.c]++[.ip 1 [[.n n]] 0 0]) (·=.b (decide (x.id=n))):=by
 refine PC.fn hH cd180 fun w0 M Q hM hE hQ hR=>?_;dsimp only[cd180,qm,ql,qf,qi,qb,qc,qp,qv,qN,qT,qF,qt]at hQ ⊢
 (repeat' first|refine zaa [0,1,2,3] fun K hK=>?_|(refine hK.go ?_;clear hK K)|with_reducible exact wT|refine wA ?_|(refine wB (fun h=>?_) (fun h=>?_)<;>first|exact wN h|subst (h:(_:Bool)=_)|skip)|(refine wQ ?_;clear hQ hR hE hM)|fail)
theorem lies_pc (hH:HasAll P inv) (p:Pln) (hl:p.points.length≤1000000000) {k:Nat} (hk:k<p.points.length) {n:Int} (he:zbA (fun x=>decide (Pnt.id x=n)) 0 p.points=(k:Int)):PC P inv 182 [.agg p.c,.n n] (·=.n (nth p.points k).sec):=by
 have c1:=ziy hH p.points (fun x _=>is189_pc hH n x) hl
 rw[he]at c1
 refine PC.fn hH cd182 fun w0 M Q hM hE hQ hR=>?_;dsimp only[cd182,qm,ql,qf,qi,qb,qc,qp,qv,qN,qT,qF,qt]at hQ ⊢
 (repeat' first|refine zaa [0,1,2,3,4] fun K hK=>?_|(refine hK.go ?_;clear hK K)|with_reducible exact wT|refine wA ?_|(refine wB (fun h=>?_) (fun h=>?_)<;>first|exact wN h|subst (h:(_:Bool)=_)|skip)|(refine wQ ?_;clear hQ hR hE hM)|refine wS c1 ?_|fail)
theorem zry (hH:HasAll P inv) (s:State) (hl:s.switches.length≤1000000000) {k:Nat} (hk:k<s.switches.length) {n:Int} (he:zbA (fun x=>decide (Switch.id x=n)) 0 s.switches=(k:Int)):PC P inv 172 [.agg s.c,.n n] (·=.ip 3 (s.switches.map Switch.c) k 2):=by
 have c1:=zgG hH s.switches (fun x _=>znZ hH n x) hl
 rw[he]at c1
 refine PC.fn hH cd172 fun w0 M Q hM hE hQ hR=>?_;dsimp only[cd172,qm,ql,qf,qi,qb,qc,qp,qv,qN,qT,qF,qt]at hQ ⊢
 (repeat' first|refine zaa [0,1,2,3,4,5] fun K hK=>?_|(refine hK.go ?_;clear hK K)|with_reducible exact wT|refine wA ?_|(refine wB (fun h=>?_) (fun h=>?_)<;>first|exact wN h|subst (h:(_:Bool)=_)|skip)|(refine wQ ?_;clear hQ hR hE hM)|refine wS c1 ?_|fail)
end Go.Lev
namespace Go.Lev
open Go.Eng
set_option maxRecDepth 10000
set_option maxHeartbeats 4000000
variable {P:Program} {inv:Nat→Option Nat} {w0:World} {M:Nat→Prop}
def ze0 (s:State) (n:Int):Int:=zbA (fun x=>decide (Lock.id x=n)) 0 s.locks
def zdw (H:List Int) (fr:Int→Bool):List Int→Int
 |[]=>0
 |x::r=>if nth H x.toNat=0 then (if fr x=true then zdw H fr r else 182) else 181
def znj (p:Pln) (s:State) (A:List Int) (a:AskR):Bool:=decide (zcN s a.pnt=a.lie)||(decide (nth A a.pnt.toNat=0)&&frT s (zcK p a.pnt))
def setE (p:Pln) (s:State) (i:Nat):Int :=
 if zdw (zav p s).1 (frT s) ((zak p (nth p.routes i)).1.path++(zak p (nth p.routes i)).1.over)=0 then (if (zak p (nth p.routes i)).1.asks.all (znj p s (zav p s).2.1)=true then 0 else 183)
 else zdw (zav p s).1 (frT s) ((zak p (nth p.routes i)).1.path++(zak p (nth p.routes i)).1.over)
def lkC (p:Pln) (s:State) (n:Int):Int:=if zac p s=0 then (if ze0 s n<0 then 6 else if (nth s.locks (ze0 s n).toNat).phase=0 then setE p s (ze0 s n).toNat else 180) else zac p s
def lkW (p:Pln) (s:State) (n:Int):WayR:=if zac p s=0 then (if ze0 s n<0 then WayR.z else if (nth s.locks (ze0 s n).toNat).phase=0 then (zak p (nth p.routes (ze0 s n).toNat)).1 else WayR.z) else WayR.z
def askE (ok:AskR→Bool):Int→List AskR→Int
 |e,[]=>e
 |e,a::r=>askE ok (if e=0 then (if ok a=true then 0 else 183) else e) r
theorem znk (ok:AskR→Bool) {e:Int} (he:¬e=0):∀ l,askE ok e l=e
 |[]=>rfl
 |a::r=>by rw[askE,if_neg he];exact znk ok he r
theorem askE_0 (ok:AskR→Bool):∀ l,askE ok 0 l=if l.all ok=true then 0 else 183
 |[]=>rfl
 |a::r=>by
  rw[askE,if_pos rfl,List.all_cons]
  cases h:ok a with
  |true=>rw[if_pos rfl,askE_0 ok r,Bool.true_and]
  |false=>rw[if_neg (by simp),znk ok (by decide)];simp
theorem setE_ask (p:Pln) (s:State) (i:Nat):setE p s i=askE (znj p s (zav p s).2.1) (zdw (zav p s).1 (frT s) ((zak p (nth p.routes i)).1.path++(zak p (nth p.routes i)).1.over)) (zak p (nth p.routes i)).1.asks:=by
 unfold setE
 split
 ·rename_i h;rw[h,askE_0]
 ·rename_i h;rw[znk _ h]
theorem zqj {p:Pln} (h:OkP p) {k:Nat} (hk:k<p.points.length):zcK p (nth p.points k).id=(nth p.points k).sec:=by
 unfold zcK
 rw[zeM Pnt.id (zbF h) hk rfl]
theorem zjy (hH:HasAll P inv) (hI:HasIds P inv) (p:Pln) (hp:Sm p) (s:State) (hs:SmS s) (n:Int):PC P inv 171 [.agg p.c,.agg s.c,.n n] (·=.tup [.agg (lkW p s n).c,.n (lkC p s n)]):=by
 have c0:=zmJ hH hI p hp s hs
 have c1:=zm1 hH s.locks (fun x _=>is180_pc hH n x) (by have:=hs.2.2;omega)
 have hRl:=zeo p s
 have hRe:=zgA p s
 by_cases hst:zac p s=0
 ·have hok:=zae hst
  have hpa:=(zab hst).2.1
  have hpl:=zag hpa
  have hR:ofR p s=⟨(zav p s).1,(zav p s).2.1,zaD p,0⟩:=by unfold ofR;rw[if_pos hst]
  rw[hR]at c0 hRl
  dsimp only at c0 hRl
  have hW:lkW p s n=if ze0 s n<0 then WayR.z else if (nth s.locks (ze0 s n).toNat).phase=0 then (zak p (nth p.routes (ze0 s n).toNat)).1 else WayR.z:=by unfold lkW;rw[if_pos hst]
  have hC:lkC p s n=if ze0 s n<0 then 6 else if (nth s.locks (ze0 s n).toNat).phase=0 then setE p s (ze0 s n).toNat else 180:=by unfold lkC;rw[if_pos hst]
  rw[hW,hC]
  clear hW hC
  obtain ⟨G,Z,hg⟩:=zf7
  rw[←hg.eq]at c0
  have hfold:=hg.fold
  have hlen0:=hg.len (.s0 4) hg.zl hg.zl
  have hlen:=hg.len (.sl 4 ((zaD p).map Way.c)) hRl.1 hRl.2
  have hov:=hg.ov (.s0 4) (.sl 4 ((zaD p).map Way.c)) hg.zl hg.zl hRl.1 hRl.2
  have hbd0:=hg.bd0 Z Z
  have hbd:=hg.bd (zav p s).1 (zav p s).2.1 ((zaD p).map Way.c)
  have hba:=hg.ba (zav p s).1 (zav p s).2.1 ((zaD p).map Way.c)
  have hlix:ze0 s n=zbA (fun x=>decide (Lock.id x=n)) 0 s.locks:=rfl
  rcases zaQ Lock.id n s.locks with ⟨h4,_⟩|⟨i,hi,h4,h5⟩
  ·rw[h4]at c1 hlix
   rw[hlix,if_pos (by decide),if_pos (by decide)]
   refine PC.fn hH cd171 fun w0 M Q hM hE hQ hR=>?_;dsimp only[cd171,qm,ql,qf,qi,qb,qc,qp,qv,qN,qT,qF,qt]at hQ ⊢
   (have hX:=zA @hfold (zA @hlen0 (zA @hlen (zA @hov (zA @hbd0 (zA @hbd @hba)))));(repeat' first|refine zaa [0,1,2,3,4,5,6,7,8,9,11,13,15,23,29,37,48,49,50,51,54,55,56,57,60,66,74,75,76,77,106,109] fun K hK=>?_|(refine hK.go ?_;clear hK K)|with_reducible exact wT|refine wA ?_|(refine wB (fun h=>?_) (fun h=>?_)<;>first|exact wN h|subst (h:(_:Bool)=_)|skip)|(refine zaG 0 rfl ?_;try (refine no_implicit_lambda% (st ?_);try with_reducible exact wT))|(refine wQ ?_;clear hQ hR hE hM)|refine wC c0 ?_|refine wS c1 ?_|fail);all_goals clear hX)
   all_goals first|rfl|(exfalso;contradiction)|skip
  ·rw[h4]at c1 hlix
   rw[hlix,if_neg (show ¬((i:Nat):Int)<0 by omega),if_neg (show ¬((i:Nat):Int)<0 by omega),Int.toNat_natCast]
   have hri:i<p.routes.length:=by omega
   have hlk:s.locks.length≤1000:=hs.2.2
   by_cases hph:(nth s.locks i).phase=0
   ·rw[if_pos hph,if_pos hph]
    have hr:=zad hri
    have hwp:=zbg ((zaU (zab hst).1).2.1 _ hr)
    have hwl:=zcB hok hr
    have hsec:∀ m∈(zak p (nth p.routes i)).1.path++(zak p (nth p.routes i)).1.over,0≤m∧m≤99:=fun m hm=>by
     rw[hwp.1,hwp.2.1]at hm
     obtain ⟨q,hq,rfl⟩:=(zbU hok hr).1 m hm
     have:=zcH hok hq
     omega
    have hask:∀ k,k<(zak p (nth p.routes i)).1.asks.length→0≤(nth (zak p (nth p.routes i)).1.asks k).pnt∧(nth (zak p (nth p.routes i)).1.asks k).pnt≤99 ∧
      (∃ j,j<s.switches.length∧PC P inv 172 [.agg s.c,.n (nth (zak p (nth p.routes i)).1.asks k).pnt] (·=.ip 3 (s.switches.map Switch.c) j 2)∧(nth s.switches j).call=zcN s (nth (zak p (nth p.routes i)).1.asks k).pnt) ∧
      PC P inv 182 [.agg p.c,.n (nth (zak p (nth p.routes i)).1.asks k).pnt] (·=.n (zcK p (nth (zak p (nth p.routes i)).1.asks k).pnt)):=fun k hk=>by
     obtain ⟨⟨x,hx,ex⟩,hb,_⟩:=zbz hok hr (zad hk)
     refine ⟨by omega,by omega, ?_, ?_⟩
     ·obtain ⟨y,hy,ey⟩:=zpx hpa (n:=(nth (zak p (nth p.routes i)).1.asks k).pnt) (List.any_eq_true.2 ⟨x,hx,by simpa using ex⟩)
      rcases zaQ Switch.id (nth (zak p (nth p.routes i)).1.asks k).pnt s.switches with ⟨_,q⟩|⟨j,hj,q1,q2⟩
      ·exact absurd ey (q y hy)
      ·exact ⟨j,hj,zry hH s (by have:=hs.2.1;omega) hj q1,by rw[←q2];exact (zl3 hok hpa (zad hj)).symm⟩
     ·rcases zaQ Pnt.id (nth (zak p (nth p.routes i)).1.asks k).pnt p.points with ⟨_,q⟩|⟨j,hj,q1,q2⟩
      ·exact absurd ex (q x hx)
      ·have:=lies_pc hH p (by have:=hp.pts;omega) hj q1
       rw[←zqj hok hj,q2]at this
       exact this
    rw[setE_ask]
    have hgw:=hg.get (.sl 4 ((zaD p).map Way.c)) hRl.1 hRl.2
    have hwat:nth (zaD p) i=(zak p (nth p.routes i)).1:=zjw _ hri
    have hwlen:(zaD p).length=p.routes.length:=by simp[zaD]
    have hfr:∀ x,PC P inv 181 [.agg s.c,.n x] (·=.b (frT s x)):=fun x=>free_pc hH s (by have:=hs.1;omega) x
    have hok2:∀ a:AskR,znj p s (zav p s).2.1 a=(decide (zcN s a.pnt=a.lie)||(decide (nth (zav p s).2.1 a.pnt.toNat=0)&&frT s (zcK p a.pnt))):=fun a=>rfl
    have hg1:∀ k:Nat,k<100→(G (zav p s).1 (zav p s).2.1 (.sl 4 ((zaD p).map Way.c)))[k]?=some (.n (nth (zav p s).1 k)):=fun k hk=>hg.get1 _ hRl.1 hk
    have hg2:∀ k:Nat,k<100→(G (zav p s).1 (zav p s).2.1 (.sl 4 ((zaD p).map Way.c)))[100+k]?=some (.n (nth (zav p s).2.1 k)):=fun k hk=>hg.get2 _ hRl.1 hRl.2 hk
    generalize (zak p (nth p.routes i)).1=w at *
    generalize zav p s=GR at *
    obtain ⟨H,A,B⟩:=GR
    dsimp only at *
    generalize zaD p=ws at *
    generalize znj p s A=ok at *
    clear hwp hr hok hst hpa hR h5 hRe hg
    refine PC.fn hH cd171 fun w0 M Q hM hE hQ hR=>?_;dsimp only[cd171,qm,ql,qf,qi,qb,qc,qp,qv,qN,qT,qF,qt]at hQ ⊢
    repeat' (first|(refine zaa [0,1,2,3,4,5,6,7,8,9,11,13,15,23,29,37,48,49,50,51,54,55,56,57,60,66,74,75,76,77,106,109] fun K hK=>cnd2 rfl (fun h=>?_) (fun h=>?_)<;>(try first|exact h.elim|obtain rfl:(_:Bool)=_:=h)<;>first|(exfalso;omega)|skip)|refine AWp.sqpC [0,1,2,3,4,5,6,7,8,9,11,13,15,23,29,37,48,49,50,51,54,55,56,57,60,66,74,75,76,77,106,109] fun K hK=>?_|refine AWp.sqpD [0,1,2,3,4,5,6,7,8,9,11,13,15,23,29,37,48,49,50,51,54,55,56,57,60,66,74,75,76,77,106,109] fun K hK=>?_|refine zaa [0,1,2,3,4,5,6,7,8,9,11,13,15,23,29,37,48,49,50,51,54,55,56,57,60,66,74,75,76,77,106,109] fun K hK=>AWp.label ?_|refine AWp.block ?_|(refine hK.go ?_;clear hK K)|refine Cont.go (by assumption) ?_|(refine cnd2 rfl (fun h=>?_) (fun h=>?_)<;>(try first|exact h.elim|obtain rfl:(_:Bool)=_:=h)<;>first|(exfalso;omega)|skip)|((first|refine zaa [0,1,2,3,4,5,6,7,8,9,11,13,15,23,29,37,48,49,50,51,54,55,56,57,60,66,74,75,76,77,106,109] fun K hK=>AWp.reg hE hM ?_|refine zaa [0,1,2,3,4,5,6,7,8,9,11,13,15,23,29,37,48,49,50,51,54,55,56,57,60,66,74,75,76,77,106,109] fun K hK=>AWp.regd hE hM ?_|refine AWp.reg hE hM ?_|refine AWp.regd hE hM ?_|refine AWp.ret ?_|refine AWp.label ?_|(refine zaG 0 rfl ?_)|refine AWp.skip ?_|refine AWp.exit ?_|(refine pk2 (fun h=>?_) (fun h=>?_)<;>(try first|exact h.elim|obtain rfl:(_:Bool)=_:=h))|refine zkm (fun h=>?_) ?_|refine zau hM (c0) ?_|(refine zeT hM 4 ( c1) ?_ rfl ?_;(focus (simp -dsimp -implicitDefEqProofs (disch:=omega) only[go_sem,reduceIte,↓reduceIte,Nat.reduceEqDiff,Nat.reduceLT,Nat.reduceLeDiff,Nat.reduceAdd,Nat.reduceSub,Nat.reduceMul,Int.reduceToNat,Int.reduceLT,Int.reduceLE,Int.reduceEq,Int.reduceNeg,Int.reduceNe,reduceCtorEq,hfold,hlen0,hlen,hov,hbd0,hbd,hba,hgw,hwat]<;>fail)))|(refine hQ _ _ _ rfl ?_;clear hQ hR hE hM)|(refine hR _ _ (hQ _ _ _ rfl ?_);clear hQ hR hE hM)|(refine ob_mk ?_ ?_;focus first|omega|(refine zrL ?_;(refine no_implicit_lambda% (st ?_);try with_reducible exact wT);done)))<;>try simp -dsimp -implicitDefEqProofs (disch:=omega) only[go_sem,reduceIte,↓reduceIte,Nat.reduceEqDiff,Nat.reduceLT,Nat.reduceLeDiff,Nat.reduceAdd,Nat.reduceSub,Nat.reduceMul,Int.reduceToNat,Int.reduceLT,Int.reduceLE,Int.reduceEq,Int.reduceNeg,Int.reduceNe,reduceCtorEq,hfold,hlen0,hlen,hov,hbd0,hbd,hba,hgw,hwat]))
    refine AWp.midP [3,4,6,8] [(7,.n (zdw H (frT s) (w.path++w.over)))] (True) ?_ fun hmid=>?_
    ·(have hX:=zA @hfold (zA @hlen0 (zA @hlen (zA @hov (zA @hbd0 (zA @hbd @hba)))));(repeat' first|refine zaa [0,1,2,3,4,5,6,7,8,9,11,13,15,23,29,37,48,49,50,51,54,55,56,57,60,66,74,75,76,77,106,109] fun K hK=>?_|(refine hK.go ?_;clear hK K)|with_reducible exact wT|refine wA ?_|(refine wB (fun h=>?_) (fun h=>?_)<;>first|exact wN h|subst (h:(_:Bool)=_)|skip)|(refine zaG 0 rfl ?_;try (refine no_implicit_lambda% (st ?_);try with_reducible exact wT))|(refine wQ ?_;clear hQ hR hE hM)|fail);all_goals clear hX)
     refine zap (ι:=Nat) [3,4,6,7,8,48,49,50] (fun z=>[(50,.n z)]) (fun _=>[]) (fun z=>z) (2) (fun z=>(zdw H (frT s) ((([w.path,w.over]:List (List Int)).drop z).flatten)=zdw H (frT s) (w.path++w.over))) (0) ?_;rintro k ⟨hk,hg0⟩;(try dsimp only at hk hg0 ⊢);rcases Nat.lt_or_ge k 2 with hlt|hge
     ·have hout:=hg0
      obtain rfl|rfl:k=0∨k=1:=by omega
      ·(repeat' first|refine zaa [0,1,2,3,4,5,6,7,8,9,11,13,15,23,29,37,48,49,50,51,54,55,56,57,60,66,74,75,76,77,106,109] fun K hK=>?_|(refine hK.go ?_;clear hK K)|with_reducible exact wT|refine wA ?_|(refine wB (fun h=>?_) (fun h=>?_)<;>first|exact wN h|subst (h:(_:Bool)=_)|skip)|(refine zaG 0 rfl ?_;try (refine no_implicit_lambda% (st ?_);try with_reducible exact wT))|(refine wQ ?_;clear hQ hR hE hM)|fail)
       refine zap (ι:=Nat) [3,4,6,7,8,48,49,50,54,55,56] (fun z=>[(56,.n z)]) (fun _=>[]) (fun z=>z) (w.path.length) (fun z=>(zdw H (frT s) (w.path.drop z++w.over)=zdw H (frT s) (w.path++w.over))) (0) ?_;rintro j ⟨hk,hj⟩;(try dsimp only at hk hj ⊢);rcases Nat.lt_or_ge j w.path.length with hlt|hge
       ·have hx:=hsec (nth w.path j) (List.mem_append_left _ (zad hlt))
        rw[zaj hlt,List.cons_append,zdw]at hj
        by_cases h1:nth H (nth w.path j).toNat=0
        ·rw[if_pos h1]at hj
         have c3:=hfr (nth w.path j)
         cases hf:frT s (nth w.path j) with
         |true =>
          rw[if_pos hf]at hj
          rw[hf]at c3
          (have hX:=zA @hlen (zA @hbd (zA @hba (zA @hg1 @h1)));(repeat' first|refine zaa [0,1,2,3,4,5,6,7,8,9,11,13,15,23,29,37,48,49,50,51,54,55,56,57,60,66,74,75,76,77,106,109] fun K hK=>?_|(refine hK.go ?_;clear hK K)|with_reducible exact wT|refine wA ?_|(refine wB (fun h=>?_) (fun h=>?_)<;>first|exact wN h|subst (h:(_:Bool)=_)|skip)|(refine zaG 0 rfl ?_;try (refine no_implicit_lambda% (st ?_);try with_reducible exact wT))|(refine wQ ?_;clear hQ hR hE hM)|refine wC c3 ?_|fail);all_goals clear hX)
          all_goals first|(exfalso;contradiction)|exact ⟨j+1,by omega,⟨by omega,hj⟩,by omega⟩
         |false =>
          rw[if_neg (by rw[hf];simp)]at hj
          rw[hf]at c3
          (have hX:=zA @hlen (zA @hbd (zA @hba (zA @hg1 @h1)));(repeat' first|refine zaa [0,1,2,3,4,5,6,7,8,9,11,13,15,23,29,37,48,49,50,51,54,55,56,57,60,66,74,75,76,77,106,109] fun K hK=>?_|(refine hK.go ?_;clear hK K)|with_reducible exact wT|refine wA ?_|(refine wB (fun h=>?_) (fun h=>?_)<;>first|exact wN h|subst (h:(_:Bool)=_)|skip)|(refine zaG 0 rfl ?_;try (refine no_implicit_lambda% (st ?_);try with_reducible exact wT))|(refine wQ ?_;clear hQ hR hE hM)|refine wC c3 ?_|fail);all_goals clear hX)
          all_goals first|exact hj|(exfalso;contradiction)
        ·rw[if_neg h1]at hj
         (have hX:=zA @hlen (zA @hbd (zA @hba @hg1));(repeat' first|refine zaa [0,1,2,3,4,5,6,7,8,9,11,13,15,23,29,37,48,49,50,51,54,55,56,57,60,66,74,75,76,77,106,109] fun K hK=>?_|(refine hK.go ?_;clear hK K)|with_reducible exact wT|refine wA ?_|(refine wB (fun h=>?_) (fun h=>?_)<;>first|exact wN h|subst (h:(_:Bool)=_)|skip)|(refine zaG 0 rfl ?_;try (refine no_implicit_lambda% (st ?_);try with_reducible exact wT))|(refine wQ ?_;clear hQ hR hE hM)|fail);all_goals clear hX)
         all_goals first|exact hj|(exfalso;contradiction)
       ·rw[List.drop_eq_nil_of_le hge]at hj
        (repeat' first|refine zaa [0,1,2,3,4,5,6,7,8,9,11,13,15,23,29,37,48,49,50,51,54,55,56,57,60,66,74,75,76,77,106,109] fun K hK=>?_|(refine hK.go ?_;clear hK K)|with_reducible exact wT|refine wA ?_|(refine wB (fun h=>?_) (fun h=>?_)<;>first|exact wN h|subst (h:(_:Bool)=_)|skip)|(refine zaG 0 rfl ?_;try (refine no_implicit_lambda% (st ?_);try with_reducible exact wT))|(refine wQ ?_;clear hQ hR hE hM)|fail)
        exact ⟨1,by omega,⟨by omega,by simpa using hj⟩,rfl⟩
      ·replace hout:zdw H (frT s) (w.over.drop 0)=zdw H (frT s) (w.path++w.over):=by simpa using hout
       (repeat' first|refine zaa [0,1,2,3,4,5,6,7,8,9,11,13,15,23,29,37,48,49,50,51,54,55,56,57,60,66,74,75,76,77,106,109] fun K hK=>?_|(refine hK.go ?_;clear hK K)|with_reducible exact wT|refine wA ?_|(refine wB (fun h=>?_) (fun h=>?_)<;>first|exact wN h|subst (h:(_:Bool)=_)|skip)|(refine zaG 0 rfl ?_;try (refine no_implicit_lambda% (st ?_);try with_reducible exact wT))|(refine wQ ?_;clear hQ hR hE hM)|fail)
       refine zap (ι:=Nat) [3,4,6,7,8,48,49,50,54,55,56] (fun z=>[(56,.n z)]) (fun _=>[]) (fun z=>z) (w.over.length) (fun z=>(zdw H (frT s) (w.over.drop z)=zdw H (frT s) (w.path++w.over))) (0) ?_;rintro j ⟨hk,hj⟩;(try dsimp only at hk hj ⊢);rcases Nat.lt_or_ge j w.over.length with hlt|hge
       ·have hx:=hsec (nth w.over j) (List.mem_append_right _ (zad hlt))
        rw[zaj hlt,zdw]at hj
        by_cases h1:nth H (nth w.over j).toNat=0
        ·rw[if_pos h1]at hj
         have c3:=hfr (nth w.over j)
         cases hf:frT s (nth w.over j) with
         |true =>
          rw[if_pos hf]at hj
          rw[hf]at c3
          (have hX:=zA @hlen (zA @hbd (zA @hba (zA @hg1 @h1)));(repeat' first|refine zaa [0,1,2,3,4,5,6,7,8,9,11,13,15,23,29,37,48,49,50,51,54,55,56,57,60,66,74,75,76,77,106,109] fun K hK=>?_|(refine hK.go ?_;clear hK K)|with_reducible exact wT|refine wA ?_|(refine wB (fun h=>?_) (fun h=>?_)<;>first|exact wN h|subst (h:(_:Bool)=_)|skip)|(refine zaG 0 rfl ?_;try (refine no_implicit_lambda% (st ?_);try with_reducible exact wT))|(refine wQ ?_;clear hQ hR hE hM)|refine wC c3 ?_|fail);all_goals clear hX)
          all_goals first|(exfalso;contradiction)|exact ⟨j+1,by omega,⟨by omega,hj⟩,by omega⟩
         |false =>
          rw[if_neg (by rw[hf];simp)]at hj
          rw[hf]at c3
          (have hX:=zA @hlen (zA @hbd (zA @hba (zA @hg1 @h1)));(repeat' first|refine zaa [0,1,2,3,4,5,6,7,8,9,11,13,15,23,29,37,48,49,50,51,54,55,56,57,60,66,74,75,76,77,106,109] fun K hK=>?_|(refine hK.go ?_;clear hK K)|with_reducible exact wT|refine wA ?_|(refine wB (fun h=>?_) (fun h=>?_)<;>first|exact wN h|subst (h:(_:Bool)=_)|skip)|(refine zaG 0 rfl ?_;try (refine no_implicit_lambda% (st ?_);try with_reducible exact wT))|(refine wQ ?_;clear hQ hR hE hM)|refine wC c3 ?_|fail);all_goals clear hX)
          all_goals first|exact hj|(exfalso;contradiction)
        ·rw[if_neg h1]at hj
         (have hX:=zA @hlen (zA @hbd (zA @hba @hg1));(repeat' first|refine zaa [0,1,2,3,4,5,6,7,8,9,11,13,15,23,29,37,48,49,50,51,54,55,56,57,60,66,74,75,76,77,106,109] fun K hK=>?_|(refine hK.go ?_;clear hK K)|with_reducible exact wT|refine wA ?_|(refine wB (fun h=>?_) (fun h=>?_)<;>first|exact wN h|subst (h:(_:Bool)=_)|skip)|(refine zaG 0 rfl ?_;try (refine no_implicit_lambda% (st ?_);try with_reducible exact wT))|(refine wQ ?_;clear hQ hR hE hM)|fail);all_goals clear hX)
         all_goals first|exact hj|(exfalso;contradiction)
       ·rw[List.drop_eq_nil_of_le hge]at hj
        (repeat' first|refine zaa [0,1,2,3,4,5,6,7,8,9,11,13,15,23,29,37,48,49,50,51,54,55,56,57,60,66,74,75,76,77,106,109] fun K hK=>?_|(refine hK.go ?_;clear hK K)|with_reducible exact wT|refine wA ?_|(refine wB (fun h=>?_) (fun h=>?_)<;>first|exact wN h|subst (h:(_:Bool)=_)|skip)|(refine zaG 0 rfl ?_;try (refine no_implicit_lambda% (st ?_);try with_reducible exact wT))|(refine wQ ?_;clear hQ hR hE hM)|fail)
        exact ⟨2,by omega,⟨by omega,by simpa using hj⟩,rfl⟩
     ·obtain rfl:k=2:=by omega
      (repeat' first|refine zaa [0,1,2,3,4,5,6,7,8,9,11,13,15,23,29,37,48,49,50,51,54,55,56,57,60,66,74,75,76,77,106,109] fun K hK=>?_|(refine hK.go ?_;clear hK K)|with_reducible exact wT|refine wA ?_|(refine wB (fun h=>?_) (fun h=>?_)<;>first|exact wN h|subst (h:(_:Bool)=_)|skip)|(refine zaG 0 rfl ?_;try (refine no_implicit_lambda% (st ?_);try with_reducible exact wT))|(refine wQ ?_;clear hQ hR hE hM)|fail)
      all_goals first|exact hg0|(simpa using hg0)
    ·(have hX:=zA @hlen (zA @hbd @hba);(repeat' first|refine zaa [0,1,2,3,4,5,6,7,8,9,11,13,15,23,29,37,48,49,50,51,54,55,56,57,60,66,74,75,76,77,106,109] fun K hK=>?_|(refine hK.go ?_;clear hK K)|with_reducible exact wT|refine wA ?_|(refine wB (fun h=>?_) (fun h=>?_)<;>first|exact wN h|subst (h:(_:Bool)=_)|skip)|(refine zaG 0 rfl ?_;try (refine no_implicit_lambda% (st ?_);try with_reducible exact wT))|(refine wQ ?_;clear hQ hR hE hM)|fail);all_goals clear hX)
     refine zap (ι:=Nat×Int) [3,4,6,7,8,74,75,76] (fun z=>[(7,.n z.2),(76,.n z.1)]) (fun _=>[]) (fun z=>z.1) (w.asks.length) (fun z=>(askE ok z.2 (w.asks.drop z.1)=askE ok (zdw H (frT s) (w.path++w.over)) w.asks)) (0,(zdw H (frT s) (w.path++w.over))) ?_;rintro ⟨k,e⟩ ⟨hk,hq⟩;(try dsimp only at hk hq ⊢);rcases Nat.lt_or_ge k w.asks.length with hlt|hge
     ·obtain ⟨ha1,ha2,⟨j,hj,d1,hcall⟩,d2⟩:=hask k hlt
      have d3:=hfr (zcK p (nth w.asks k).pnt)
      have hok3:=hok2 (nth w.asks k)
      rw[zaj hlt,askE]at hq
      by_cases he:e=0
      ·subst he
       rw[if_pos rfl]at hq
       by_cases h1:zcN s (nth w.asks k).pnt=(nth w.asks k).lie
       ·rw[hok3,decide_eq_true h1,Bool.true_or,if_pos rfl]at hq
        have h2:decide ((nth s.switches j).call=(nth w.asks k).lie)=true:=decide_eq_true (hcall.trans h1)
        (have hX:=zA @hlen (zA @hbd (zA @hba (zA @hg2 @h2)));(repeat' first|refine zaa [0,1,2,3,4,5,6,7,8,9,11,13,15,23,29,37,48,49,50,51,54,55,56,57,60,66,74,75,76,77,106,109] fun K hK=>?_|(refine hK.go ?_;clear hK K)|with_reducible exact wT|refine wA ?_|(refine wB (fun h=>?_) (fun h=>?_)<;>first|exact wN h|subst (h:(_:Bool)=_)|skip)|(refine zaG 0 rfl ?_;try (refine no_implicit_lambda% (st ?_);try with_reducible exact wT))|(refine wQ ?_;clear hQ hR hE hM)|refine wC d1 ?_|refine wC d2 ?_|refine wC d3 ?_|fail);all_goals clear hX)
        all_goals first|(exfalso;contradiction)|exact ⟨(k+1,0),by dsimp only;omega,⟨by dsimp only;omega,hq⟩,rfl,by dsimp only;omega⟩
       ·have h2:decide ((nth s.switches j).call=(nth w.asks k).lie)=false:=decide_eq_false (fun e=>h1 (hcall.symm.trans e))
        rw[hok3,decide_eq_false h1,Bool.false_or]at hq
        by_cases h3:nth A (nth w.asks k).pnt.toNat=0
        ·rw[decide_eq_true h3,Bool.true_and]at hq
         cases hf:frT s (zcK p (nth w.asks k).pnt) with
         |true =>
          rw[if_pos hf]at hq
          rw[hf]at d3
          (have hX:=zA @hlen (zA @hbd (zA @hba (zA @hg2 (zA @h2 @h3))));(repeat' first|refine zaa [0,1,2,3,4,5,6,7,8,9,11,13,15,23,29,37,48,49,50,51,54,55,56,57,60,66,74,75,76,77,106,109] fun K hK=>?_|(refine hK.go ?_;clear hK K)|with_reducible exact wT|refine wA ?_|(refine wB (fun h=>?_) (fun h=>?_)<;>first|exact wN h|subst (h:(_:Bool)=_)|skip)|(refine zaG 0 rfl ?_;try (refine no_implicit_lambda% (st ?_);try with_reducible exact wT))|(refine wQ ?_;clear hQ hR hE hM)|refine wC d1 ?_|refine wC d2 ?_|refine wC d3 ?_|fail);all_goals clear hX)
          all_goals first|(exfalso;contradiction)|exact ⟨(k+1,0),by dsimp only;omega,⟨by dsimp only;omega,hq⟩,rfl,by dsimp only;omega⟩
         |false =>
          rw[if_neg (by rw[hf];simp)]at hq
          rw[hf]at d3
          (have hX:=zA @hlen (zA @hbd (zA @hba (zA @hg2 (zA @h2 @h3))));(repeat' first|refine zaa [0,1,2,3,4,5,6,7,8,9,11,13,15,23,29,37,48,49,50,51,54,55,56,57,60,66,74,75,76,77,106,109] fun K hK=>?_|(refine hK.go ?_;clear hK K)|with_reducible exact wT|refine wA ?_|(refine wB (fun h=>?_) (fun h=>?_)<;>first|exact wN h|subst (h:(_:Bool)=_)|skip)|(refine zaG 0 rfl ?_;try (refine no_implicit_lambda% (st ?_);try with_reducible exact wT))|(refine wQ ?_;clear hQ hR hE hM)|refine wC d1 ?_|refine wC d2 ?_|refine wC d3 ?_|fail);all_goals clear hX)
          all_goals first|(exfalso;contradiction)|exact ⟨(k+1,183),by dsimp only;omega,⟨by dsimp only;omega,hq⟩,rfl,by dsimp only;omega⟩
        ·rw[decide_eq_false h3,Bool.false_and,if_neg (by simp)]at hq
         have h4:decide (nth A (nth w.asks k).pnt.toNat=0)=false:=decide_eq_false h3
         (have hX:=zA @hlen (zA @hbd (zA @hba (zA @hg2 (zA @h2 @h4))));(repeat' first|refine zaa [0,1,2,3,4,5,6,7,8,9,11,13,15,23,29,37,48,49,50,51,54,55,56,57,60,66,74,75,76,77,106,109] fun K hK=>?_|(refine hK.go ?_;clear hK K)|with_reducible exact wT|refine wA ?_|(refine wB (fun h=>?_) (fun h=>?_)<;>first|exact wN h|subst (h:(_:Bool)=_)|skip)|(refine zaG 0 rfl ?_;try (refine no_implicit_lambda% (st ?_);try with_reducible exact wT))|(refine wQ ?_;clear hQ hR hE hM)|refine wC d1 ?_|refine wC d2 ?_|refine wC d3 ?_|fail);all_goals clear hX)
         all_goals first|(exfalso;contradiction)|exact ⟨(k+1,183),by dsimp only;omega,⟨by dsimp only;omega,hq⟩,rfl,by dsimp only;omega⟩
      ·rw[if_neg he]at hq
       have hed:decide (e=0)=false:=decide_eq_false he
       (have hX:=zA @hlen (zA @hbd (zA @hba @hed));(repeat' first|refine zaa [0,1,2,3,4,5,6,7,8,9,11,13,15,23,29,37,48,49,50,51,54,55,56,57,60,66,74,75,76,77,106,109] fun K hK=>?_|(refine hK.go ?_;clear hK K)|with_reducible exact wT|refine wA ?_|(refine wB (fun h=>?_) (fun h=>?_)<;>first|exact wN h|subst (h:(_:Bool)=_)|skip)|(refine zaG 0 rfl ?_;try (refine no_implicit_lambda% (st ?_);try with_reducible exact wT))|(refine wQ ?_;clear hQ hR hE hM)|fail);all_goals clear hX)
       all_goals first|(exfalso;contradiction)|exact ⟨(k+1,e),by dsimp only;omega,⟨by dsimp only;omega,hq⟩,rfl,by dsimp only;omega⟩
     ·rw[List.drop_eq_nil_of_le hge,askE]at hq
      (repeat' first|refine zaa [0,1,2,3,4,5,6,7,8,9,11,13,15,23,29,37,48,49,50,51,54,55,56,57,60,66,74,75,76,77,106,109] fun K hK=>?_|(refine hK.go ?_;clear hK K)|with_reducible exact wT|refine wA ?_|(refine wB (fun h=>?_) (fun h=>?_)<;>first|exact wN h|subst (h:(_:Bool)=_)|skip)|(refine zaG 0 rfl ?_;try (refine no_implicit_lambda% (st ?_);try with_reducible exact wT))|(refine wQ ?_;clear hQ hR hE hM)|fail)
      all_goals first|exact hq|rw[hq]|skip
   ·rw[if_neg hph,if_neg hph]
    refine PC.fn hH cd171 fun w0 M Q hM hE hQ hR=>?_;dsimp only[cd171,qm,ql,qf,qi,qb,qc,qp,qv,qN,qT,qF,qt]at hQ ⊢
    (have hX:=zA @hfold (zA @hlen0 (zA @hlen (zA @hov (zA @hbd0 (zA @hbd @hba)))));(repeat' first|refine zaa [0,1,2,3,4,5,6,7,8,9,11,13,15,23,29,37,48,49,50,51,54,55,56,57,60,66,74,75,76,77,106,109] fun K hK=>?_|(refine hK.go ?_;clear hK K)|with_reducible exact wT|refine wA ?_|(refine wB (fun h=>?_) (fun h=>?_)<;>first|exact wN h|subst (h:(_:Bool)=_)|skip)|(refine zaG 0 rfl ?_;try (refine no_implicit_lambda% (st ?_);try with_reducible exact wT))|(refine wQ ?_;clear hQ hR hE hM)|refine wC c0 ?_|refine wS c1 ?_|fail);all_goals clear hX)
    all_goals first|rfl|(exfalso;contradiction)|skip
 ·rw[show lkW p s n=WayR.z by unfold lkW;rw[if_neg hst],show lkC p s n=zac p s by unfold lkC;rw[if_neg hst]]
  rw[←hRe]at hst ⊢
  revert c0 hRl hst
  generalize ofR p s=R
  obtain ⟨G,Z,hg⟩:=zf7
  rw[←hg.eq]
  intro c0 hRl hst
  have hfold:=hg.fold
  have hlen0:=hg.len (.s0 4) hg.zl hg.zl
  have hlen:=hg.len (.sl 4 (R.ways.map Way.c)) hRl.1 hRl.2
  have hov:=hg.ov (.s0 4) (.sl 4 (R.ways.map Way.c)) hg.zl hg.zl hRl.1 hRl.2
  have hbd0:=hg.bd0 Z Z
  have hbd:=hg.bd R.hold R.ask (R.ways.map Way.c)
  have hba:=hg.ba R.hold R.ask (R.ways.map Way.c)
  refine PC.fn hH cd171 fun w0 M Q hM hE hQ hR=>?_;dsimp only[cd171,qm,ql,qf,qi,qb,qc,qp,qv,qN,qT,qF,qt]at hQ ⊢
  (have hX:=zA @hfold (zA @hlen0 (zA @hlen (zA @hov (zA @hbd0 (zA @hbd @hba)))));(repeat' first|refine zaa [0,1,2,3,4,5,6,7,8,9,11,13,15,23,29,37,48,49,50,51,54,55,56,57,60,66,74,75,76,77,106,109] fun K hK=>?_|(refine hK.go ?_;clear hK K)|with_reducible exact wT|refine wA ?_|(refine wB (fun h=>?_) (fun h=>?_)<;>first|exact wN h|subst (h:(_:Bool)=_)|skip)|(refine zaG 0 rfl ?_;try (refine no_implicit_lambda% (st ?_);try with_reducible exact wT))|(refine wQ ?_;clear hQ hR hE hM)|refine wC c0 ?_|refine wS c1 ?_|fail);all_goals clear hX)
  all_goals first|rfl|(exfalso;contradiction)|skip
end Go.Lev
namespace Go.Lev
open Go.Eng
set_option maxRecDepth 10000
set_option maxHeartbeats 4000000
variable {P:Program} {inv:Nat→Option Nat} {w0:World} {M:Nat→Prop}
def za4 (q:List AskR) (l:List Switch):List Switch:=q.foldl (fun l a=>zcP Switch.id a.pnt (fun t=>⟨t.id,t.lie,a.lie⟩) l) l
theorem zgN (q:List AskR):∀ l:List Switch,(za4 q l).map Switch.id=l.map Switch.id:=by
 induction q with
 |nil=>intro l;rfl
 |cons a q ih=>intro l;show (za4 q _).map Switch.id=_;rw[ih,zgi Switch.id a.pnt (fun t=>⟨t.id,t.lie,a.lie⟩) (fun _=>rfl)]
theorem zda (q:List AskR) (l:List Switch):(za4 q l).length=l.length:=by
 have:=congrArg List.length (zgN q l)
 simpa using this
theorem znd (q:List AskR) (a:AskR) (l:List Switch):za4 (q++[a]) l=zcP Switch.id a.pnt (fun t=>⟨t.id,t.lie,a.lie⟩) (za4 q l):=by unfold za4;rw[List.foldl_append];rfl
theorem zo3 (l:List Switch):za4 [] l=l:=rfl
attribute [go_sem] zo3
theorem fget0 {α:Type} {c:α→List AV} {sz:Nat} [Cells c sz] [Inhabited α] {l:List α} {k:Nat} (hk:k<l.length) (hs:0<sz):(l.map c).flatten[k*sz]?=(c (nth l k))[0]?:=by simpa using zeL (c:=c) (i:=0) hk hs
def zga (s:State) (n:Int) (q:List AskR):State:=⟨s.tracks,za4 q s.switches,zcP Lock.id n (fun l=>⟨l.id,1,l.gone,l.left⟩) s.locks⟩
def zpk (n:Int) (_:Nat) (l:Lock):Lock:=if l.id=n then ⟨l.id,1,l.gone,l.left⟩ else l
theorem k1At_all (n:Int) (l:List Lock):l.mapIdx (zpk n)=zcP Lock.id n (fun l=>⟨l.id,1,l.gone,l.left⟩) l:=by
 refine List.ext_getElem (by simp[zcP]) fun i h1 h2=>?_
 simp only[List.getElem_mapIdx,zcP,List.getElem_map]
 rfl
theorem zoR (hH:HasAll P inv) (hI:HasIds P inv) (p:Pln) (hp:Sm p) (s:State) (hs:SmS s) (n:Int) (he:lkC p s n=0):PO P inv 156 [.agg p.c,.agg s.c,.n n] (.tup [zf8 6 (zga s n (lkW p s n).asks),.n 0]) (zf9 6 (zga s n (lkW p s n).asks)):=by
 have c0:=zjy hH hI p hp s hs n
 rw[he]at c0
 have c1:=zbD hH s hs
 have hst:zac p s=0:=by
  unfold lkC at he
  split at he
  ·assumption
  ·rename_i h;exact absurd he h
 have hok:=zae hst
 have hpa:=(zab hst).2.1
 have hpl:=zag hpa
 have hwl:(lkW p s n).asks.length≤1000∧∀ a∈(lkW p s n).asks,zdY p a.pnt=true:=by
  unfold lkW
  rw[if_pos hst]
  rcases zaQ Lock.id n s.locks with ⟨h4,_⟩|⟨i,hi,h4,h5⟩
  ·rw[show ze0 s n=-1 from h4,if_pos (by decide)]
   exact ⟨by simp[WayR.z],fun a ha=>by simp[WayR.z]at ha⟩
  ·rw[show ze0 s n=(i:Int) from h4,if_neg (by omega),Int.toNat_natCast]
   split
   ·refine ⟨(zcB hok (zad (by omega))).1,fun a ha=>?_⟩
    obtain ⟨⟨x,hx,ex⟩,_⟩:=zbz hok (zad (show i<p.routes.length by omega)) ha
    exact List.any_eq_true.2 ⟨x,hx,by simpa using ex⟩
   ·exact ⟨by simp[WayR.z],fun a ha=>by simp[WayR.z]at ha⟩
 generalize lkW p s n=w at *
 have hno:(s.switches.map Switch.id).Nodup:=by rw[zcR hpa];exact zbF hok
 obtain ⟨h1,h2,h3⟩:=hs
 have hix:∀ (q:List AskR) (k:Nat),k<w.asks.length→∃ j,j<s.switches.length∧zbA (fun x=>decide (Switch.id x=(nth w.asks k).pnt)) 0 (za4 q s.switches)=(j:Int)∧(nth (za4 q s.switches) j).id=(nth w.asks k).pnt:=fun q k hk=>by
  obtain ⟨y,hy,ey⟩:=zpx hpa (hwl.2 _ (zad hk))
  have hm:(nth w.asks k).pnt∈(za4 q s.switches).map Switch.id:=by rw[zgN,←ey];exact List.mem_map_of_mem hy
  obtain ⟨z,hz,ez⟩:=List.mem_map.1 hm
  rcases zaQ Switch.id (nth w.asks k).pnt (za4 q s.switches) with ⟨_,r⟩|⟨j,hj,q1,q2⟩
  ·exact absurd ez (r z hz)
  ·exact ⟨j,by rw[zda]at hj;exact hj,q1,q2⟩
 clear hst hok hpa hpl he
 unfold stV stR at c1
 refine PO.fn hH cd156 fun w0 M Q hM hE hQ hR=>?_;dsimp only[cd156,qm,ql,qf,qi,qb,qc,qp,qv,qN,qT,qF,qt]at hQ ⊢
 skip
 (repeat' first|refine zaa [0,1,2,3,4,5,6,7,8,9,11,12,21,27,28,29,30,43,44,45,54] fun K hK=>?_|(refine hK.go ?_;clear hK K)|with_reducible exact wT|refine wA ?_|(refine wB (fun h=>?_) (fun h=>?_)<;>first|exact wN h|subst (h:(_:Bool)=_)|skip)|(refine wQ ?_;clear hQ hR)|refine wC c0 ?_|refine wO c1 ?_|fail)
 have hcl:=fun q=>zda q s.switches
 refine zap (ι:=Nat) [2,4,6,7,27,28,29] (fun z=>[(29,.n z)]) (fun z=>[(7,.cells ((za4 (w.asks.take z) s.switches).map Switch.c).flatten (decide (0<s.switches.length)))]) (fun z=>z) (w.asks.length) (fun _=>True) (0) ?_;rintro k ⟨hk,-⟩;(try dsimp only at hk ⊢);rcases Nat.lt_or_ge k w.asks.length with hlt|hge
 ·obtain ⟨j,hj,q1,q2⟩:=hix (w.asks.take k) k hlt
  have c2:=zgG hH (za4 (w.asks.take k) s.switches) (fun x _=>znZ hH (nth w.asks k).pnt x) (by rw[hcl];omega)
  rw[q1]at c2
  have hno2:((za4 (w.asks.take k) s.switches).map Switch.id).Nodup:=by rw[zgN];exact hno
  have e1:=zfm Switch.id (nth w.asks k).pnt (fun t=>(⟨t.id,t.lie,(nth w.asks k).lie⟩:Switch)) hno2 (by rw[hcl];exact hj) q2
  rw[←znd,zjW hlt]at e1
  have e2:=zbo (c:=Switch.c) (l:=za4 (w.asks.take k) s.switches) (k:=j) (i:=2) (by rw[hcl];exact hj) (by omega) (.i .i64 (nth w.asks k).lie) (⟨(nth (za4 (w.asks.take k) s.switches) j).id,(nth (za4 (w.asks.take k) s.switches) j).lie,(nth w.asks k).lie⟩:Switch) rfl
  rw[e1]at e2
  have e3:=zcr (c:=Switch.c) (za4 (w.asks.take k) s.switches)
  rw[hcl]at e3
  have e4:=hcl (w.asks.take k)
  (have hX:=zA @e2 (zA @e3 @e4);(repeat' first|refine zaa [0,1,2,3,4,5,6,7,8,9,11,12,21,27,28,29,30,43,44,45,54] fun K hK=>?_|(refine hK.go ?_;clear hK K)|with_reducible exact wT|refine wA ?_|(refine wB (fun h=>?_) (fun h=>?_)<;>first|exact wN h|subst (h:(_:Bool)=_)|skip)|(refine wQ ?_;clear hQ hR)|(refine AC.callK 30 (by omega) (by first|omega|exact wF|((refine no_implicit_lambda% (st ?_);try with_reducible exact wT);omega)) (zao (F:=cd172) (hH.has _ _ rfl) (Nat.le_of_ble_eq_true rfl) fun Q hQ hR=>?_);dsimp only[cd172,qm,ql,qf,qi,qb,qc,qp,qv,qN,qT,qF,qt]at hQ ⊢;try (refine no_implicit_lambda% (st ?_);try with_reducible exact wT))|refine wS c2 ?_|fail);all_goals clear hX)
  all_goals first|exact ⟨k+1,by omega,by omega,by omega,rfl⟩|trace_state
  all_goals sorry
 ·rw[List.take_of_length_le hge]
  (repeat' first|refine zaa [0,1,2,3,4,5,6,7,8,9,11,12,21,27,28,29,30,43,44,45,54] fun K hK=>?_|(refine hK.go ?_;clear hK K)|with_reducible exact wT|refine wA ?_|(refine wB (fun h=>?_) (fun h=>?_)<;>first|exact wN h|subst (h:(_:Bool)=_)|skip)|(refine wQ ?_;clear hQ hR)|fail)
  refine zap (ι:=Nat) [2,4,6,7,43,44] (fun z=>[(44,.n z)]) (fun z=>[(8,.cells ((zdz (zpk n) z s.locks).map Lock.c).flatten (decide (0<s.locks.length)))]) (fun z=>z) (s.locks.length) (fun _=>True) (0) ?_;rintro k2 ⟨hk,-⟩;(try dsimp only at hk ⊢);rcases Nat.lt_or_ge k2 s.locks.length with hlt|hge
  ·have e1:=zcv (zpk n) (l:=s.locks) (k:=k2) (by assumption)
   have hg:=fget0 (c:=Lock.c) (l:=zdz (zpk n) k2 s.locks) (k:=k2) (by rw[zbm];assumption) (by omega)
   rw[zby _ (by assumption)]at hg
   by_cases hid:(nth s.locks k2).id=n
   ·have e2:=zbo (c:=Lock.c) (l:=zdz (zpk n) k2 s.locks) (k:=k2) (i:=1) (by rw[zbm];assumption) (by omega) (.i .u8 1) (zpk n k2 (nth s.locks k2)) (by rw[zby _ (by assumption)];unfold zpk;rw[if_pos hid];rfl)
    rw[e1]at e2
    (have hX:=zA @hg @e2;(repeat' first|refine zaa [0,1,2,3,4,5,6,7,8,9,11,12,21,27,28,29,30,43,44,45,54] fun K hK=>?_|(refine hK.go ?_;clear hK K)|with_reducible exact wT|refine wA ?_|(refine wB (fun h=>?_) (fun h=>?_)<;>first|exact wN h|subst (h:(_:Bool)=_)|skip)|(refine wQ ?_;clear hQ hR)|fail);all_goals clear hX)
    all_goals first|(exfalso;contradiction)|exact ⟨k2+1,by omega,by omega,by omega,rfl⟩
   ·rw[show zpk n k2 (nth s.locks k2)=nth (zdz (zpk n) k2 s.locks) k2 by rw[zby _ (by assumption)];unfold zpk;rw[if_neg hid]]at e1
    have e3:zdz (zpk n) k2 s.locks=zdz (zpk n) (k2+1) s.locks:=by
     rw[←e1,zaK (by rw[zbm];assumption),List.set_getElem_self]
    (have hX:=@hg;(repeat' first|refine zaa [0,1,2,3,4,5,6,7,8,9,11,12,21,27,28,29,30,43,44,45,54] fun K hK=>?_|(refine hK.go ?_;clear hK K)|with_reducible exact wT|refine wA ?_|(refine wB (fun h=>?_) (fun h=>?_)<;>first|exact wN h|subst (h:(_:Bool)=_)|skip)|(refine wQ ?_;clear hQ hR)|fail);all_goals clear hX)
    all_goals first|(exfalso;contradiction)|exact ⟨k2+1,by omega,by omega,by omega,by rw[←e3]⟩
  ·rw[zcZ _ (by assumption),k1At_all]
   (repeat' first|refine zaa [0,1,2,3,4,5,6,7,8,9,11,12,21,27,28,29,30,43,44,45,54] fun K hK=>?_|(refine hK.go ?_;clear hK K)|with_reducible exact wT|refine wA ?_|(refine wB (fun h=>?_) (fun h=>?_)<;>first|exact wN h|subst (h:(_:Bool)=_)|skip)|(refine wQ ?_;clear hQ hR)|fail)
   all_goals (left;unfold zf8 zf9 zga;dsimp only;rw[zda,za0];constructor)
   all_goals (refine no_implicit_lambda% (st ?_);try with_reducible exact wT)
end Go.Lev
namespace Go.Lev
open Go.Eng
theorem zly:∀ (l:List AskR) (m:List Bool),m.length=100→(∀ a∈l,0≤a.pnt∧a.pnt≤99)→(zlz m l=true↔(∀ a∈l,nth m a.pnt.toNat=false)∧(l.map AskR.pnt).Nodup)
 |[],m,_,_=>by simp[zlz]
 |a::r,m,hm,hr=>by
  have h0:=hr a (by simp)
  have ih:=zly r (m.set a.pnt.toNat true) (by simpa using hm) fun b hb=>hr b (by simp[hb])
  rw[zlz,Bool.and_eq_true,ih]
  simp only[List.map_cons,List.nodup_cons,List.mem_cons,forall_eq_or_imp,Bool.not_eq_true',List.mem_map,not_exists,not_and]
  have key:∀ b∈r,nth (m.set a.pnt.toNat true) b.pnt.toNat=false↔(nth m b.pnt.toNat=false∧b.pnt≠a.pnt):=fun b hb=>by
   have hb':=hr b (by simp[hb])
   rw[za7 _ _ _ _ (by omega)]
   by_cases e:b.pnt=a.pnt
   ·rw[e,if_pos rfl];simp
   ·rw[if_neg (by omega)];simp[e]
  constructor
  ·rintro ⟨h1,h2,h3⟩
   exact ⟨⟨h1,fun b hb=>((key b hb).1 (h2 b hb)).1⟩,fun b hb=>((key b hb).1 (h2 b hb)).2,h3⟩
  ·rintro ⟨⟨h1,h2⟩,h3,h4⟩
   exact ⟨h1,fun b hb=>(key b hb).2 ⟨h2 b hb,h3 b hb⟩,h4⟩
theorem once_iff {l:List AskR} (h:∀ a∈l,0≤a.pnt∧a.pnt≤99):once l=true↔(l.map AskR.pnt).Nodup:=by
 unfold once
 rw[zly l _ (by simp) h]
 constructor
 ·exact fun h=>h.2
 ·intro h2
  exact ⟨fun a ha=>by have:=h a ha;exact zis _ _ _ (by omega),h2⟩
theorem zgR {p:Pln} (ho:zbH p=true) {r:Rte} (hr:r∈p.routes):((zak p r).1.asks.map AskR.pnt).Nodup:=by
 obtain ⟨hok,_,h3⟩:=zaU ho
 have:=h3 r hr
 simp only[zdp,Bool.and_eq_true]at this
 exact (once_iff fun a ha=>by have:=zbz hok hr ha;omega).1 this.1
def ze6 (l:List Switch) (n:Int):Int:=zgb (zgc [] l) n
theorem zo4 (l:List Switch) {n m:Int} (v:Int) (h:m≠n):ze6 (zcP Switch.id n (fun t=>⟨t.id,t.lie,v⟩) l) m=ze6 l m:=zko n v m h l [] [] rfl
theorem zrz {l:List Switch} (hn:(l.map Switch.id).Nodup) {n:Int} (v:Int) (h:n∈l.map Switch.id):ze6 (zcP Switch.id n (fun t=>⟨t.id,t.lie,v⟩) l) n=v:=by
 obtain ⟨x,hx,e⟩:=List.mem_map.1 h
 have h1:(⟨x.id,x.lie,v⟩:Switch)∈zcP Switch.id n (fun t=>⟨t.id,t.lie,v⟩) l:=by
  unfold zcP
  exact List.mem_map.2 ⟨x,hx,by rw[if_pos e]⟩
 have:=zmP (zcP Switch.id n (fun t=>⟨t.id,t.lie,v⟩) l) [] (by rw[zgi Switch.id n (fun t=>⟨t.id,t.lie,v⟩) (fun _=>rfl)];exact hn) _ h1
 dsimp only at this
 rw[e]at this
 exact this
theorem zgM:∀ (q:List AskR) (l:List Switch) {n:Int},(∀ a∈q,a.pnt≠n)→ze6 (za4 q l) n=ze6 l n
 |[],_,_,_=>rfl
 |a::q,l,n,h=>by
  show ze6 (za4 q (zcP Switch.id a.pnt (fun t=>⟨t.id,t.lie,a.lie⟩) l)) n=_
  rw[zgM q _ fun b hb=>h b (by simp[hb]),zo4 l a.lie (fun e=>h a (by simp) e.symm)]
theorem zf0:∀ (q:List AskR) (l:List Switch),(l.map Switch.id).Nodup→(q.map AskR.pnt).Nodup→∀ a∈q,a.pnt∈l.map Switch.id→ze6 (za4 q l) a.pnt=a.lie
 |[],_,_,_,a,ha,_=>by cases ha
 |b::q,l,hl,hq,a,ha,hi=>by
  simp only[List.map_cons,List.nodup_cons]at hq
  show ze6 (za4 q (zcP Switch.id b.pnt (fun t=>⟨t.id,t.lie,b.lie⟩) l)) a.pnt=_
  rcases List.mem_cons.1 ha with rfl|ha
  ·rw[zgM q _ fun c hc e=>hq.1 (by rw[←e];exact List.mem_map_of_mem hc),zrz hl _ hi]
  ·refine zf0 q _ (by rw[zgi Switch.id b.pnt (fun t=>⟨t.id,t.lie,b.lie⟩) (fun _=>rfl)];exact hl) hq.2 a ha ?_
   rw[zgi Switch.id b.pnt (fun t=>⟨t.id,t.lie,b.lie⟩) (fun _=>rfl)];exact hi
end Go.Lev
