/-
  A part of the engine that walks the functions' codes, and of the functions' contracts. Conditions: those that each theorem names.
-/
import Derived.Test.YtibpmipffibbpaaGreatV5
import Derived.IntWalk
set_option linter.unusedSimpArgs false
set_option linter.unusedVariables false
set_option linter.unusedSectionVars false
namespace Go.Lev
open Go.Eng
set_option maxRecDepth 10000
set_option maxHeartbeats 4000000
variable {P:Program} {inv:Nat->Option Nat} {w0:World} {M:Nat->Prop}
def znt (s:State) (n v:Int):State:=⟨zdU Track.id n (fun t=>⟨t.id,v⟩) s.tracks,s.switches,s.locks⟩
def znu (s:State) (n v:Int):State:=⟨s.tracks,zdU Switch.id n (fun t=>⟨t.id,v,t.call⟩) s.switches,s.locks⟩
def zi2 (s:State) (n:Int):Prop:=∃ t∈s.tracks,t.id=n
def zi3 (s:State) (n:Int):Prop:=∃ t∈s.switches,t.id=n
instance (s:State) (n:Int):Decidable (zi2 s n):=by unfold zi2;infer_instance
instance (s:State) (n:Int):Decidable (zi3 s n):=by unfold zi3;infer_instance
def zbj (p:Pln) (s:State) (n v:Int):Int:=if zad p s=0 then (if zi2 s n then (if v=0\/v=1 then 0 else 2) else 6) else zad p s
def zbl (p:Pln) (s:State) (n v:Int):Int:=if zad p s=0 then (if zi3 s n then (if 0<=v/\v<=2 then 0 else 2) else 6) else zad p s
theorem zqQ (hH:HasAll P inv) (n:Int) (x:Track):PC P inv 86 ([.agg x.c]++[.ip 1 [[.n n]] 0 0]) (·=.b (decide (x.id=n))):=by
 refine PC.fn hH cd86 fun w0 M Q hM hE hQ hR=>?_;dsimp only[cd86,qm,ql,qf,qb,qN,qt]at hQ |-
 (repeat' first|refine zaa [0,1,2,3] fun K hK=>?_|(refine hK.go ?_;clear hK K)|with_reducible exact wT|refine wA ?_|(refine wB (fun h=>?_) (fun h=>?_)<;>first|exact wN h|subst (h:(_:Bool)=_)|skip)|(refine wQ ?_;clear hQ hR hE hM)|fail)
theorem zqP (hH:HasAll P inv) (n:Int) (x:Switch):PC P inv 88 ([.agg x.c]++[.ip 1 [[.n n]] 0 0]) (·=.b (decide (x.id=n))):=by
 refine PC.fn hH cd88 fun w0 M Q hM hE hQ hR=>?_;dsimp only[cd88,qm,ql,qf,qb,qN,qt]at hQ |-
 (repeat' first|refine zaa [0,1,2,3] fun K hK=>?_|(refine hK.go ?_;clear hK K)|with_reducible exact wT|refine wA ?_|(refine wB (fun h=>?_) (fun h=>?_)<;>first|exact wN h|subst (h:(_:Bool)=_)|skip)|(refine wQ ?_;clear hQ hR hE hM)|fail)
theorem sec_po (hH:HasAll P inv) (hI:HasIds P inv) (p:Pln) (hp:Sm p) (s:State) (hs:SmS s) (n v:Int) (he:zbj p s n v=0):PO P inv 73 [.agg p.c,.agg s.c,.n n,.n v] (.tup [zdD 6 (znt s n v),.n 0]) (zdE 6 (znt s n v)):=by
 have hc:zad p s=0/\zi2 s n/\(v=0\/v=1):=by
  unfold zbj at he
  split at he
  ·rename_i h1
   split at he
   ·rename_i h2
    split at he
    ·rename_i h3;exact ⟨h1,h2,h3⟩
    ·cases he
   ·cases he
  ·rename_i h1;exact absurd he h1
 obtain ⟨hc,⟨t,ht,htn⟩,hv⟩:=hc
 have c0:=zbP hH hI p hp s hs
 rw[hc]at c0
 have c1:=zb6 hH s hs
 obtain ⟨h1,h2,h3⟩:=hs
 have c2:=zkx hH s.tracks (fun x _=>zqQ hH n x) (by omega)
 have hno:(s.tracks.map Track.id).Nodup:=by rw[zff (zac hc).2.1];exact zer (zai hc)
 rcases zat Track.id n s.tracks with ⟨_,h4⟩|⟨k,hk,h4,h5⟩
 ·exact absurd htn (h4 t ht)
 ·rw[h4]at c2
  have e1:=zcL Track.id n (fun t=>(⟨t.id,v⟩:Track)) hno hk h5
  have e2:=zbS (c:=Track.c) (l:=s.tracks) (k:=k) (i:=1) hk (by omega) (.i .u8 v) (⟨(nth s.tracks k).id,v⟩:Track) rfl
  rw[e1]at e2
  unfold stV stR at c1
  refine PO.fn hH cd73 fun w0 M Q hM hE hQ hR=>?_;dsimp only[cd73,qm,ql,qf,qc,qp,qN,qT,qt]at hQ |-
  skip
  (have hX:=@e2;(repeat' first|refine zaa [0,1,2,3,4,5,6,8,9,10,11,16,26,33] fun K hK=>?_|(refine hK.go ?_;clear hK K)|with_reducible exact wT|refine wA ?_|(refine wB (fun h=>?_) (fun h=>?_)<;>first|exact wN h|subst (h:(_:Bool)=_)|skip)|(refine wQ ?_;clear hQ hR)|refine wC c0 ?_|refine wO c1 ?_|(refine AC.callK 30 (by omega) (by first|omega|exact wF|((refine wD ?_;try with_reducible exact wT);omega)) (zao (F:=cd85) (hH.has _ _ rfl) (Nat.le_of_ble_eq_true rfl) fun Q hQ hR=>?_);dsimp only[cd85,qm,qi,qc,qN,qt]at hQ |-;try refine wD ?_)|refine wS c2 ?_|fail);all_goals clear hX)
  all_goals (left;unfold zdD zdE znt;dsimp only;rw[za1];constructor)
  all_goals (refine wD ?_;try with_reducible exact wT)
theorem det_po (hH:HasAll P inv) (hI:HasIds P inv) (p:Pln) (hp:Sm p) (s:State) (hs:SmS s) (n v:Int) (he:zbl p s n v=0):PO P inv 74 [.agg p.c,.agg s.c,.n n,.n v] (.tup [zdD 6 (znu s n v),.n 0]) (zdE 6 (znu s n v)):=by
 have hc:zad p s=0/\zi3 s n/\(0<=v/\v<=2):=by
  unfold zbl at he
  split at he
  ·rename_i h1
   split at he
   ·rename_i h2
    split at he
    ·rename_i h3;exact ⟨h1,h2,h3⟩
    ·cases he
   ·cases he
  ·rename_i h1;exact absurd he h1
 obtain ⟨hc,⟨t,ht,htn⟩,hv⟩:=hc
 have c0:=zbP hH hI p hp s hs
 rw[hc]at c0
 have c1:=zb6 hH s hs
 obtain ⟨h1,h2,h3⟩:=hs
 have c2:=zil hH s.switches (fun x _=>zqP hH n x) (by omega)
 have hno:(s.switches.map Switch.id).Nodup:=by rw[zcl (zac hc).2.1];exact zbI (zai hc)
 rcases zat Switch.id n s.switches with ⟨_,h4⟩|⟨k,hk,h4,h5⟩
 ·exact absurd htn (h4 t ht)
 ·rw[h4]at c2
  have e1:=zcL Switch.id n (fun t=>(⟨t.id,v,t.call⟩:Switch)) hno hk h5
  have e2:=zbS (c:=Switch.c) (l:=s.switches) (k:=k) (i:=1) hk (by omega) (.i .i64 v) (⟨(nth s.switches k).id,v,(nth s.switches k).call⟩:Switch) rfl
  rw[e1]at e2
  unfold stV stR at c1
  refine PO.fn hH cd74 fun w0 M Q hM hE hQ hR=>?_;dsimp only[cd74,qm,ql,qf,qc,qv,qN,qF,qt]at hQ |-
  skip
  (have hX:=@e2;(repeat' first|refine zaa [0,1,2,3,4,5,6,8,9,10,11,16,26,33] fun K hK=>?_|(refine hK.go ?_;clear hK K)|with_reducible exact wT|refine wA ?_|(refine wB (fun h=>?_) (fun h=>?_)<;>first|exact wN h|subst (h:(_:Bool)=_)|skip)|(refine wQ ?_;clear hQ hR)|refine wC c0 ?_|refine wO c1 ?_|(refine AC.callK 30 (by omega) (by first|omega|exact wF|((refine wD ?_;try with_reducible exact wT);omega)) (zao (F:=cd87) (hH.has _ _ rfl) (Nat.le_of_ble_eq_true rfl) fun Q hQ hR=>?_);dsimp only[cd87,qm,qi,qc,qN,qt]at hQ |-;try refine wD ?_)|refine wS c2 ?_|fail);all_goals clear hX)
  all_goals (left;unfold zdD zdE znu;dsimp only;rw[za1];constructor)
  all_goals (refine wD ?_;try with_reducible exact wT)
def secR (p:Pln) (s:State) (n v:Int):State:=if zbj p s n v=0 then znt s n v else State.z
def zm1 (p:Pln) (s:State) (n v:Int):State:=if zbl p s n v=0 then znu s n v else State.z
theorem sec_pc (hH:HasAll P inv) (hI:HasIds P inv) (p:Pln) (hp:Sm p) (s:State) (hs:SmS s) (n v:Int):PC P inv 73 [.agg p.c,.agg s.c,.n n,.n v] (·=.tup [.agg (secR p s n v).c,.n (zbj p s n v)]):=by
 unfold secR
 by_cases he:zbj p s n v=0
 ·have:=(sec_po hH hI p hp s hs n v he).pc
  rw[zbi]at this
  rw[if_pos he,he]
  exact this
 ·rw[if_neg he]
  have c0:=zbP hH hI p hp s hs
  have c1:=zb6 hH s hs
  unfold zbj at he |-
  by_cases hc:zad p s=0
  ·rw[if_pos hc]at he |-
   rw[hc]at c0
   obtain ⟨h1,h2,h3⟩:=hs
   have c2:=zkx hH s.tracks (fun x _=>zqQ hH n x) (by omega)
   unfold stV stR at c1
   rcases zat Track.id n s.tracks with ⟨h4,h5⟩|⟨k,hk,h4,h5⟩
   ·rw[if_neg (fun ⟨t,ht,e⟩=>h5 t ht e)]
    rw[h4]at c2
    refine PC.fn hH cd73 fun w0 M Q hM hE hQ hR=>?_;dsimp only[cd73,qm,ql,qf,qc,qp,qN,qT,qt]at hQ |-
    skip
    (repeat' first|refine zaa [0,1,2,3,4,5,6,8,9,10,11,16,26,33] fun K hK=>?_|(refine hK.go ?_;clear hK K)|with_reducible exact wT|refine wA ?_|(refine wB (fun h=>?_) (fun h=>?_)<;>first|exact wN h|subst (h:(_:Bool)=_)|skip)|(refine wQ ?_;clear hQ hR)|refine wC c0 ?_|refine wO c1 ?_|(refine AC.callK 30 (by omega) (by first|omega|exact wF|((refine wD ?_;try with_reducible exact wT);omega)) (zao (F:=cd85) (hH.has _ _ rfl) (Nat.le_of_ble_eq_true rfl) fun Q hQ hR=>?_);dsimp only[cd85,qm,qi,qc,qN,qt]at hQ |-;try refine wD ?_)|refine wS c2 ?_|fail)
    all_goals first|rfl|(exfalso;contradiction)|skip
   ·rw[if_pos ⟨_,zab hk,h5⟩]at he |-
    rw[h4]at c2
    by_cases hv:v=0\/v=1
    ·rw[if_pos hv]at he;exact absurd rfl he
    ·rw[if_neg hv]
     refine PC.fn hH cd73 fun w0 M Q hM hE hQ hR=>?_;dsimp only[cd73,qm,ql,qf,qc,qp,qN,qT,qt]at hQ |-
     skip
     (repeat' first|refine zaa [0,1,2,3,4,5,6,8,9,10,11,16,26,33] fun K hK=>?_|(refine hK.go ?_;clear hK K)|with_reducible exact wT|refine wA ?_|(refine wB (fun h=>?_) (fun h=>?_)<;>first|exact wN h|subst (h:(_:Bool)=_)|skip)|(refine wQ ?_;clear hQ hR)|refine wC c0 ?_|refine wO c1 ?_|(refine AC.callK 30 (by omega) (by first|omega|exact wF|((refine wD ?_;try with_reducible exact wT);omega)) (zao (F:=cd85) (hH.has _ _ rfl) (Nat.le_of_ble_eq_true rfl) fun Q hQ hR=>?_);dsimp only[cd85,qm,qi,qc,qN,qt]at hQ |-;try refine wD ?_)|refine wS c2 ?_|fail)
     all_goals first|rfl|(exfalso;omega)|skip
  ·rw[if_neg hc]
   generalize zad p s=e at c0 hc |-
   refine PC.fn hH cd73 fun w0 M Q hM hE hQ hR=>?_;dsimp only[cd73,qm,ql,qf,qc,qp,qN,qT,qt]at hQ |-
   (repeat' first|refine zaa [0,1,2,3,4,5,6,8,9,10,11,16,26,33] fun K hK=>?_|(refine hK.go ?_;clear hK K)|with_reducible exact wT|refine wA ?_|(refine wB (fun h=>?_) (fun h=>?_)<;>first|exact wN h|subst (h:(_:Bool)=_)|skip)|(refine wQ ?_;clear hQ hR hE hM)|refine wC c0 ?_|fail)
   all_goals first|rfl|(exfalso;contradiction)|skip
theorem det_pc (hH:HasAll P inv) (hI:HasIds P inv) (p:Pln) (hp:Sm p) (s:State) (hs:SmS s) (n v:Int):PC P inv 74 [.agg p.c,.agg s.c,.n n,.n v] (·=.tup [.agg (zm1 p s n v).c,.n (zbl p s n v)]):=by
 unfold zm1
 by_cases he:zbl p s n v=0
 ·have:=(det_po hH hI p hp s hs n v he).pc
  rw[zbi]at this
  rw[if_pos he,he]
  exact this
 ·rw[if_neg he]
  have c0:=zbP hH hI p hp s hs
  have c1:=zb6 hH s hs
  unfold zbl at he |-
  by_cases hc:zad p s=0
  ·rw[if_pos hc]at he |-
   rw[hc]at c0
   obtain ⟨h1,h2,h3⟩:=hs
   have c2:=zil hH s.switches (fun x _=>zqP hH n x) (by omega)
   unfold stV stR at c1
   rcases zat Switch.id n s.switches with ⟨h4,h5⟩|⟨k,hk,h4,h5⟩
   ·rw[if_neg (fun ⟨t,ht,e⟩=>h5 t ht e)]
    rw[h4]at c2
    refine PC.fn hH cd74 fun w0 M Q hM hE hQ hR=>?_;dsimp only[cd74,qm,ql,qf,qc,qv,qN,qF,qt]at hQ |-
    skip
    (repeat' first|refine zaa [0,1,2,3,4,5,6,8,9,10,11,16,26,33] fun K hK=>?_|(refine hK.go ?_;clear hK K)|with_reducible exact wT|refine wA ?_|(refine wB (fun h=>?_) (fun h=>?_)<;>first|exact wN h|subst (h:(_:Bool)=_)|skip)|(refine wQ ?_;clear hQ hR)|refine wC c0 ?_|refine wO c1 ?_|(refine AC.callK 30 (by omega) (by first|omega|exact wF|((refine wD ?_;try with_reducible exact wT);omega)) (zao (F:=cd87) (hH.has _ _ rfl) (Nat.le_of_ble_eq_true rfl) fun Q hQ hR=>?_);dsimp only[cd87,qm,qi,qc,qN,qt]at hQ |-;try refine wD ?_)|refine wS c2 ?_|fail)
    all_goals first|rfl|(exfalso;contradiction)|skip
   ·rw[if_pos ⟨_,zab hk,h5⟩]at he |-
    rw[h4]at c2
    by_cases hv:0<=v/\v<=2
    ·rw[if_pos hv]at he;exact absurd rfl he
    ·rw[if_neg hv]
     refine PC.fn hH cd74 fun w0 M Q hM hE hQ hR=>?_;dsimp only[cd74,qm,ql,qf,qc,qv,qN,qF,qt]at hQ |-
     skip
     (repeat' first|refine zaa [0,1,2,3,4,5,6,8,9,10,11,16,26,33] fun K hK=>?_|(refine hK.go ?_;clear hK K)|with_reducible exact wT|refine wA ?_|(refine wB (fun h=>?_) (fun h=>?_)<;>first|exact wN h|subst (h:(_:Bool)=_)|skip)|(refine wQ ?_;clear hQ hR)|refine wC c0 ?_|refine wO c1 ?_|(refine AC.callK 30 (by omega) (by first|omega|exact wF|((refine wD ?_;try with_reducible exact wT);omega)) (zao (F:=cd87) (hH.has _ _ rfl) (Nat.le_of_ble_eq_true rfl) fun Q hQ hR=>?_);dsimp only[cd87,qm,qi,qc,qN,qt]at hQ |-;try refine wD ?_)|refine wS c2 ?_|fail)
     all_goals first|rfl|(exfalso;omega)|skip
  ·rw[if_neg hc]
   generalize zad p s=e at c0 hc |-
   refine PC.fn hH cd74 fun w0 M Q hM hE hQ hR=>?_;dsimp only[cd74,qm,ql,qf,qc,qv,qN,qF,qt]at hQ |-
   (repeat' first|refine zaa [0,1,2,3,4,5,6,8,9,10,11,16,26,33] fun K hK=>?_|(refine hK.go ?_;clear hK K)|with_reducible exact wT|refine wA ?_|(refine wB (fun h=>?_) (fun h=>?_)<;>first|exact wN h|subst (h:(_:Bool)=_)|skip)|(refine wQ ?_;clear hQ hR hE hM)|refine wC c0 ?_|fail)
   all_goals first|rfl|(exfalso;contradiction)|skip
theorem kept_of {a b:State} (h1:a.switches=b.switches) (h2:a.locks=b.locks):kept a b=true:=by
 have k1:∀ (l:List Switch),zaw zjq l l=true:=by
  intro l
  induction l with
  |nil=>rfl
  |cons x l ih=>simp[zaw,ih,zjq]
 have k2:∀ (l:List Lock),zaw zik l l=true:=by
  intro l
  induction l with
  |nil=>rfl
  |cons x l ih=>simp[zaw,ih,zik]
 unfold kept
 rw[h1,h2,k1,k2];rfl
theorem zlv:∀ {l m:List Switch},zaw zjq l m=true->∀ C,zgk C l=zgk C m
 |[],[],_,_=>rfl
 |[],_::_,h,_=>by simp[zaw]at h
 |_::_,[],h,_=>by simp[zaw]at h
 |x::l,y::m,h,C=>by
  simp only[zaw,zjq,Bool.and_eq_true,decide_eq_true_eq]at h
  rw[zgk,zgk,h.1.1,h.1.2,zlv h.2]
theorem zoZ (w:WayR) {a b:Lock} (h:zik a b=true):zbq w a=zbq w b/\zbJ w a=zbJ w b/\zb4 a=zb4 b/\a.id=b.id:=by
 simp only[zik,Bool.and_eq_true,decide_eq_true_eq]at h
 refine ⟨by unfold zbq;rw[h.1.2,h.2],by unfold zbJ;rw[h.1.2], ?_,h.1.1⟩
 funext x
 unfold zb4
 rw[h.2]
theorem ziM {a b:Lock} (h:zb4 a=zb4 b) (C:List (Int×Int)):∀ (q:List AskR) (A:List Int) (t:Bool),zeh a C q A t=zeh b C q A t
 |[],_,_=>rfl
 |x::q,A,t=>by
  rw[zeh,zeh,h,ziM h C q,ziM h C q]
theorem zjv (ws:List WayR) (C:List (Int×Int)):∀ {l m:List Lock},zaw zik l m=true->∀ (i:Nat) (H A:List Int) (t:Bool),zdB ws C i l H A t=zdB ws C i m H A t
 |[],[],_,_,_,_,_=>rfl
 |[],_::_,h,_,_,_,_=>by simp[zaw]at h
 |_::_,[],h,_,_,_,_=>by simp[zaw]at h
 |x::l,y::m,h,i,H,A,t=>by
  simp only[zaw,Bool.and_eq_true]at h
  obtain ⟨h1,h2,h3,h4⟩:=zoZ (nth ws i) h.1
  rw[zdB,zdB,h1,h2,h4,ziM h3,zjv ws C h.2]
theorem zo0 (p:Pln) {a b:State} (h:kept a b=true):zas p a=zas p b:=by
 simp only[kept,Bool.and_eq_true]at h
 unfold zas
 rw[zlv h.1,zjv _ _ h.2]
theorem zhC {p:Pln} {a b:State} (h:zad p a=0) (hk:kept a b=true) (hb:zaj p b=true):zad p b=0:=by
 obtain ⟨h1,h2,h3⟩:=zac h
 unfold zad
 rw[if_pos h1,if_pos ⟨hb,by rw[<-zo0 p hk];exact h3⟩]
theorem zbH {α β:Type} [Inhabited α] [Inhabited β] (q:α->β->Bool):∀ (a:List α) (b:List β),zaw q a b=true↔a.length=b.length/\∀ i,i<a.length->q (nth a i) (nth b i)=true
 |[],[]=>by simp[zaw]
 |[],_::_=>by simp[zaw]
 |_::_,[]=>by simp[zaw]
 |x::xs,y::ys=>by
  simp only[zaw,Bool.and_eq_true,zbH q xs ys,List.length_cons,Nat.add_right_cancel_iff]
  constructor
  ·rintro ⟨h1,h2,h3⟩
   refine ⟨h2,fun i hi=>?_⟩
   cases i with
   |zero=>exact h1
   |succ i=>exact h3 i (by omega)
  ·rintro ⟨h2,h3⟩
   exact ⟨h3 0 (by omega),h2,fun i hi=>h3 (i+1) (by omega)⟩
theorem zjn {α:Type} [Inhabited α] (f:Nat->α->α) {l:List α} {i:Nat} (h:i<l.length):nth (l.mapIdx f) i=f i (nth l i):=by
 rw[zaK (by simpa using h),zaK h,List.getElem_mapIdx]
theorem ext_nth {α:Type} [Inhabited α] {a b:List α} (hl:a.length=b.length) (h:∀ i,i<a.length->nth a i=nth b i):a=b:=by
 refine List.ext_getElem hl fun i h1 h2=>?_
 rw[<-zaK h1,<-zaK h2]
 exact h i h1
theorem zcV {p:Pln} {s:State} (h:zaj p s=true) {i:Nat} (hi:i<s.locks.length):zbR (nth s.locks i) (nth p.routes i)=true:=by
 simp only[zaj,Bool.and_eq_true]at h
 exact zfv h.2.2 hi
theorem zfy {p:Pln} (h:OkP p) {r:Rte} (hr:r∈p.routes):1<=r.timer/\r.timer<=9:=by
 have h1:=h.rte r hr
 simp only[zcR,zeH,Bool.and_eq_true,Bool.not_eq_true',decide_eq_false_iff_not]at h1
 omega
theorem zqG {l:Lock} {r:Rte} (h:zbR l r=true):(l.left=0/\(l.phase=0\/l.phase=1\/l.phase=2))\/(1<=l.left/\l.left<=r.timer/\(l.phase=3\/l.phase=4)):=by
 simp only[zbR,zax,Bool.and_eq_true]at h
 obtain ⟨_,h⟩:=h
 repeat' split at h
 all_goals (simp at h;try omega)
theorem zjN {α:Type} (f:α->Int) (n:Int) (g:α->α) (hg:∀ x,f (g x)=f x) (l:List α):(zdU f n g l).map f=l.map f:=by
 unfold zdU
 rw[List.map_map]
 refine List.map_congr_left fun x _=>?_
 simp only[Function.comp]
 split
 ·exact hg x
 ·rfl
theorem zpN (s:State) (n v:Int):kept s (znt s n v)=true:=kept_of rfl rfl
theorem zpP (s:State) (n v:Int):kept s (znu s n v)=true:=by
 unfold kept znu
 simp only[Bool.and_eq_true,zbH,za1,true_and]
 refine ⟨fun i hi=>?_,fun i hi=>?_⟩
 ·rw[upd1_nth' hi];split<;>simp[zjq]
 ·simp[zik]
where
 upd1_nth' {l:List Switch} {n v:Int} {i:Nat} (h:i<l.length):nth (zdU Switch.id n (fun t=>⟨t.id,v,t.call⟩) l) i=if (nth l i).id=n then ⟨(nth l i).id,v,(nth l i).call⟩ else nth l i:=by
  unfold zdU
  exact znK (fun x=>if Switch.id x=n then (⟨x.id,v,x.call⟩:Switch) else x) h
theorem zou {p:Pln} {s:State} {n v:Int} (h:zaj p s=true) (hv:v<=2):zaj p (znt s n v)=true:=by
 unfold zaj at h |-
 simp only[Bool.and_eq_true,zbH]at h |-
 unfold znt
 simp only[za1]
 refine ⟨⟨h.1.1,fun i hi=>?_⟩,h.2⟩
 have:=h.1.2 i hi
 unfold zdU
 rw[znK (fun x=>if Track.id x=n then (⟨x.id,v⟩:Track) else x) hi]
 simp only[ze6,Bool.and_eq_true,decide_eq_true_eq]at this |-
 split
 ·exact ⟨this.1,hv⟩
 ·exact this
theorem zov {p:Pln} {s:State} {n v:Int} (h:zaj p s=true) (hv:0<=v/\v<=2):zaj p (znu s n v)=true:=by
 unfold zaj at h |-
 simp only[Bool.and_eq_true,zbH]at h |-
 unfold znu
 simp only[za1]
 refine ⟨h.1,⟨h.2.1.1,fun i hi=>?_⟩,h.2.2⟩
 have:=h.2.1.2 i hi
 unfold zdU
 rw[znK (fun x=>if Switch.id x=n then (⟨x.id,v,x.call⟩:Switch) else x) hi]
 simp only[zfz,zfo,Bool.and_eq_true,decide_eq_true_eq]at this |-
 split
 ·exact ⟨this.1,hv,this.2.2⟩
 ·exact this
theorem zpO {p:Pln} {s:State} {n v:Int} (h:zad p s=0) (hv:v<=2):zad p (znt s n v)=0:=zhC h (zpN s n v) (zou (zac h).2.1 hv)
theorem zpQ {p:Pln} {s:State} {n v:Int} (h:zad p s=0) (hv:0<=v/\v<=2):zad p (znu s n v)=0:=zhC h (zpP s n v) (zov (zac h).2.1 hv)
theorem zmJ {p:Pln} {s:State} (h:zad p s=0) {i j:Nat} (hi:i<s.locks.length) (hj:j<s.locks.length) (e:(nth s.locks i).id=(nth s.locks j).id):i=j:=by
 obtain ⟨h1,h2,_⟩:=zac h
 have hn:(s.locks.map Lock.id).Nodup:=by rw[zmK h2];exact zhP (zaH h1).1
 have:=(List.nodup_iff_pairwise_ne.1 hn)
 rcases Nat.lt_trichotomy i j with hlt|he|hlt
 ·have:=List.pairwise_iff_getElem.1 this i j (by simpa using hi) (by simpa using hj) hlt
  simp only[List.getElem_map]at this
  rw[<-zaK hi,<-zaK hj]at this
  exact absurd e this
 ·exact he
 ·have:=List.pairwise_iff_getElem.1 this j i (by simpa using hj) (by simpa using hi) hlt
  simp only[List.getElem_map]at this
  rw[<-zaK hi,<-zaK hj]at this
  exact absurd e.symm this
theorem zmI {p:Pln} {s:State} (h:zad p s=0) {i:Nat} (hi:i<s.locks.length):1<=(nth s.locks i).id/\(nth s.locks i).id<=99:=by
 obtain ⟨h1,h2,_⟩:=zac h
 have hl:=zak h2
 have hl2:=zcV h2 hi
 simp only[zbR,Bool.and_eq_true,decide_eq_true_eq]at hl2
 rw[hl2.1]
 exact zla (zaH h1).1 (zab (by omega))
def zc4 (p:Pln) (s:State) (i:Nat):List Int:=zbq (zah p (nth p.routes i)).1 (nth s.locks i)
def zdj (p:Pln) (s:State) (i:Nat):List AskR:=(zbJ (zah p (nth p.routes i)).1 (nth s.locks i)).filter (zb4 (nth s.locks i))
theorem zfu {p:Pln} {s:State} (h:zad p s=0) {z:WL} (hz:z∈zof p s):∃ i,i<s.locks.length/\z=((zah p (nth p.routes i)).1,nth s.locks i):=by
 have h2:=(zac h).2.1
 have hl:=zak h2
 obtain ⟨i,r,hr,hi,e1,e2,_,e3,_⟩:=zgl h2 hz
 refine ⟨i,by omega, ?_⟩
 rw[e1,e2,<-e3]
theorem zfR {p:Pln} {s:State} (h:zad p s=0) {i:Nat} (hi:i<s.locks.length):((zah p (nth p.routes i)).1,nth s.locks i)∈zof p s:=by
 have h2:=(zac h).2.1
 have hl:=zak h2
 exact zof_at h2 (by omega)
theorem znX {p:Pln} {s:State} (h:zad p s=0) {i:Nat} (hi:i<s.locks.length) {n:Int} (hn:0<=n):nth (zas p s).1 n.toNat=(nth s.locks i).id↔n∈zc4 p s i:=by
 constructor
 ·intro e
  rcases zjt h hn with ⟨z,hz,hm,e2⟩|⟨_,e2⟩
  ·obtain ⟨j,hj,rfl⟩:=zfu h hz
   rw[e2]at e
   obtain rfl:=zmJ h hj hi e
   exact hm
  ·have:=zmI h hi
   omega
 ·intro hm
  exact zmT h (zfR h hi) hm
theorem ask_who {p:Pln} {s:State} (h:zad p s=0) {n:Int} (hn:0<=n):(∃ i,i<s.locks.length/\∃ a∈zdj p s i,a.pnt=n/\nth (zas p s).2.1 n.toNat=a.lie/\za9 s n=a.lie)\/((∀ i,i<s.locks.length->∀ a∈zdj p s i,a.pnt≠n)/\nth (zas p s).2.1 n.toNat=0):=by
 rcases zrJ h hn with ⟨z,hz,a,ha,e1,e2,e3⟩|⟨h1,e2⟩
 ·obtain ⟨j,hj,rfl⟩:=zfu h hz
  exact .inl ⟨j,hj,a,ha,e1,e2,e3⟩
 ·exact .inr ⟨fun i hi=>h1 _ (zfR h hi),e2⟩
theorem zrI {p:Pln} {s:State} (h:zad p s=0) {i:Nat} (hi:i<s.locks.length) {a:AskR} (ha:a∈zdj p s i):nth (zas p s).2.1 a.pnt.toNat=a.lie:=zrK h (zfR h hi) ha
theorem zqD {p:Pln} {s:State} (h:zad p s=0) {i:Nat} (hi:i<s.locks.length) {a:AskR} (ha:a∈zdj p s i):a.lie=1\/a.lie=2:=by
 obtain ⟨h1,h2,_⟩:=zac h
 have hl:=zak h2
 have h3:=(List.mem_filter.1 ha).1
 unfold zbJ at h3
 split at h3
 ·simp at h3
 ·exact (zbC (zaH h1).1 (zab (by omega)) h3).2.2
def pathG (g n:Int):Nat->List Int->Bool
 |_,[]=>false
 |k,x::r=>(decide (x=n)&&decide (g<=k))||pathG g n (k+1) r
end Go.Lev
namespace Go.Eng
mutual
def nz:AV->AV
 |.s0 sz=>.sl sz []
 |.agg cs=>.agg (nzL cs)
 |.tup cs=>.tup (nzL cs)
 |.fn j cs=>.fn j (nzL cs)
 |.sl sz es=>.sl sz (nzR es)
 |.ip sz es i k=>.ip sz (nzR es) i k
 |.i k n=>.i k n
 |.b t=>.b t
 |.v x=>.v x
 |.u=>.u
 |.ptr l ver off=>.ptr l ver off
 |.sm l ver off n sz=>.sm l ver off n sz
 |.mp l=>.mp l
 |.top=>.top
def nzL:List AV->List AV
 |[]=>[]
 |x::xs=>nz x::nzL xs
def nzR:List (List AV)->List (List AV)
 |[]=>[]
 |r::rs=>nzL r::nzR rs
end
theorem zqr:∀ xs:List AV,(nzL xs).length=xs.length
 |[]=>by simp only[nzL]
 |x::xs=>by simp only[nzL,List.length_cons,zqr xs]
theorem zmz:∀ xs:List (List AV),(nzR xs).length=xs.length
 |[]=>by simp only[nzR]
 |x::xs=>by simp only[nzR,List.length_cons,zmz xs]
mutual
theorem zqq:∀ x:AV,x.bare=true->(nz x).bare=true
 |.s0 sz,_=>by simp only[nz,AV.bare]
 |.agg cs,h=>by simp only[nz,AV.bare]at h |-;exact zhq cs h
 |.tup cs,h=>by simp only[nz,AV.bare]at h |-;exact zhq cs h
 |.fn j cs,h=>by simp only[nz,AV.bare]at h |-;exact zhq cs h
 |.sl sz es,_=>by simp only[nz,AV.bare]
 |.ip sz es i k,_=>by simp only[nz,AV.bare]
 |.i k n,_=>by simp only[nz,AV.bare]
 |.b t,_=>by simp only[nz,AV.bare]
 |.v x,_=>by simp only[nz,AV.bare]
 |.u,_=>by simp only[nz,AV.bare]
 |.ptr l ver off,h=>by simp only[nz];exact h
 |.sm l ver off n sz,h=>by simp only[nz];exact h
 |.mp l,h=>by simp only[nz];exact h
 |.top,_=>by simp only[nz,AV.bare]
theorem zhq:∀ xs:List AV,zag xs=true->zag (nzL xs)=true
 |[],_=>by simp only[nzL,zag]
 |x::xs,h=>by
  simp only[zag,Bool.and_eq_true]at h
  simp only[nzL,zag,zqq x h.1,zhq xs h.2,Bool.and_self]
end
mutual
theorem znz:∀ (c:Ctx) (x:AV) (y:Value),rel c x y->rel c (nz x) y
 |c,.s0 sz,y,r=>by
  simp only[nz,rel]at r |-
  obtain ⟨ad,e⟩:=r
  exact ⟨ad,0,e,Nat.le_refl _,fun h=>absurd rfl h⟩
 |c,.agg cs,y,r=>by
  simp only[nz,rel]at r |-
  obtain ⟨xs,e,r⟩:=r
  exact ⟨xs,e,znC c cs _ r⟩
 |c,.tup cs,y,r=>by
  simp only[nz,rel]at r |-
  obtain ⟨xs,e,r⟩:=r
  exact ⟨xs,e,zmv c cs _ r⟩
 |c,.fn j cs,y,r=>by
  simp only[nz,rel]at r |-
  obtain ⟨g,xs,e,hi,r⟩:=r
  exact ⟨g,xs,e,hi,zmv c cs _ r⟩
 |c,.sl sz es,y,r=>by
  simp only[nz,rel]at r |-
  obtain ⟨ad,cap,e,h,r⟩:=r
  refine ⟨ad,cap,by rw[zmz];exact e,by rw[zmz];exact h,fun hne=>?_⟩
  have hne':es≠[]:=fun e0=>hne (by rw[e0];simp only[nzR])
  obtain ⟨a,e1,h1,h2,h3⟩:=r hne'
  exact ⟨a,e1,h1,h2,zgu c sz a 0 es h3⟩
 |c,.ip sz es i k,y,r=>by
  simp only[nz,rel]at r |-
  obtain ⟨a,e,h1,h2,h3⟩:=r
  exact ⟨a,e,h1,h2,zgu c sz a 0 es h3⟩
 |c,.i k n,y,r=>by simp only[nz];exact r
 |c,.b t,y,r=>by simp only[nz];exact r
 |c,.v x,y,r=>by simp only[nz];exact r
 |c,.u,y,r=>by simp only[nz];exact r
 |c,.ptr l ver off,y,r=>by simp only[nz];exact r
 |c,.sm l ver off n sz,y,r=>by simp only[nz];exact r
 |c,.mp l,y,r=>by simp only[nz];exact r
 |c,.top,y,r=>by simp only[nz];exact r
theorem zmv:∀ (c:Ctx) (xs:List AV) (ys:List Value),zbZ c xs ys->zbZ c (nzL xs) ys
 |c,[],ys,r=>by simp only[nzL];exact r
 |c,x::xs,ys,r=>by
  simp only[nzL,zbZ]at r |-
  obtain ⟨y,ys',e,r1,r2⟩:=r
  exact ⟨y,ys',e,znz c x y r1,zmv c xs ys' r2⟩
theorem znC:∀ (c:Ctx) (xs:List AV) (ys:List Value),relCs c xs ys->relCs c (nzL xs) ys
 |c,[],ys,r=>by simp only[nzL];exact r
 |c,x::xs,ys,r=>by
  simp only[nzL,relCs]at r |-
  obtain ⟨y,ys',e,ho,r1,r2⟩:=r
  exact ⟨y,ys',e,ho,znz c x y r1,znC c xs ys' r2⟩
theorem zld:∀ (c:Ctx) (a:Addr) (k:Nat) (xs:List AV),zbT c a k xs->zbT c a k (nzL xs)
 |c,a,k,[],r=>by simp only[nzL];exact r
 |c,a,k,x::xs,r=>by
  simp only[nzL,zbT]at r |-
  obtain ⟨⟨y,h1,h2,h3,h4⟩,r⟩:=r
  exact ⟨⟨y,h1,h2,zqq x h3,znz _ x y h4⟩,zld c a (k+1) xs r⟩
theorem zgu:∀ (c:Ctx) (sz:Nat) (a:Addr) (k:Nat) (es:List (List AV)),zaE c sz a k es->zaE c sz a k (nzR es)
 |c,sz,a,k,[],r=>by simp only[nzR];exact r
 |c,sz,a,k,x::xs,r=>by
  simp only[nzR,zaE]at r |-
  exact ⟨by rw[zqr];exact r.1,zld c a k x r.2.1,zgu c sz a (k+sz) xs r.2.2⟩
end
attribute [go_sem] nz nzL nzR
open Go.RowKit
section
variable {P:Program} {inv:Nat->Option Nat} {w0:World} {M:Nat->Prop} {n N:Nat} {φ:AF} {σ:AS}
theorem AWp.midP (ks:List Nat) (m:List (Nat×AV)) (A:Prop) {x y:ACode} {Q:Exit->AF->AS->Prop} (h1:AWp P inv w0 M N n x (zpm (midK A (zir m (ze8 ks φ)) σ) Q) φ σ) (h2:A->AWp P inv w0 M N n y Q (zir m (ze8 ks φ)) σ):AWp P inv w0 M N n (.seq x y) Q φ σ :=
 AWp.seq fun K hK=>by
  refine AWp.mono ?_ h1
  intro e φ' σ' q
  cases e with
  |normal=>exact hK _ _ ((h2 q.1).sub q.2.1 q.2.2)
  |exit id=>exact q
  |goto l=>exact q
  |ret=>exact q
  |panic ch=>exact q
  |outgrown=>exact q
end
theorem bo9:(∀ (α:Type) (a b:α),(cond true a b)=a)/\(∀ (α:Type) (a b:α),(cond false a b)=b)/\(∀ b:Bool,(true||b)=true)/\(∀ b:Bool,(b||true)=true)/\(∀ b:Bool,(false||b)=b)/\(∀ b:Bool,(b||false)=b)/\(∀ b:Bool,(true&&b)=b)/\(∀ b:Bool,(b&&true)=b)/\(∀ b:Bool,(false&&b)=false)/\(∀ b:Bool,(b&&false)=false)/\((!true)=false)/\((!false)=true)/\(∀ b:Bool,(!!b)=b)/\(∀ [Decidable True],decide True=true)/\(∀ [Decidable False],decide False=false)/\(∀ (α:Type) (a:α),(a=a)=True) :=
 ⟨fun _ _ _=>rfl,fun _ _ _=>rfl,fun _=>Bool.true_or _,fun _=>Bool.or_true _,fun _=>Bool.false_or _,fun _=>Bool.or_false _,fun _=>Bool.true_and _,fun _=>Bool.and_true _,fun _=>Bool.false_and _,fun _=>Bool.and_false _,rfl,rfl,fun _=>Bool.not_not _,@fun i=>decide_true i,@fun i=>decide_false i,fun _ _=>eq_self _⟩
theorem wX {A B:Prop} (a:A) (h:Rw A B:=by first|(simp only[h0,bo9,reduceCtorEq,Int.reduceEq,Nat.reduceEqDiff];exact zcv _)|(simp only[bo9,reduceCtorEq,Int.reduceEq,Nat.reduceEqDiff];exact zcv _)):B:=Eq.mp h a
def zaL {S R:Type} (body:Nat->S->(S->R)->R) (fin:S->R):Nat->Nat->S->R
 |0,_,s=>fin s
 |m+1,k,s=>body k s fun s'=>zaL body fin m (k+1) s'
section
variable {S R:Type} {body:Nat->S->(S->R)->R} {fin:S->R} {n k:Nat} {s:S}
theorem zoS (h:k<n):zaL body fin (n-k) k s=body k s fun s'=>zaL body fin (n-(k+1)) (k+1) s':=by
 obtain ⟨m,hm⟩:∃ m,n-k=m+1:=⟨n-k-1,by omega⟩
 rw[hm,show n-(k+1)=m by omega]
 rfl
theorem zav {B:Nat->S->(S->R)->R} (hB:B=body) (h:k<n):zaL B fin (n-k) k s=body k s fun s'=>zaL B fin (n-(k+1)) (k+1) s':=by rw[zoS h];subst hB;rfl
theorem zaQ (h:n<=k):zaL body fin (n-k) k s=fin s:=by
 rw[show n-k=0 by omega]
 rfl
theorem zaR {X:R} (hF:zaL body fin n 0 s=X) {G:Prop} (h:∀ B F,B=body->F=fin->zaL B F (n-0) 0 s=X->G):G:=h _ _ rfl rfl hF
theorem zaN (good:R->Prop) (Inv:Nat->S->Prop) (h0:Inv 0 s) (hs:∀ k s za5,k<n->Inv k s->(∀ s',Inv (k+1) s'->good (za5 s'))->good (body k s za5)) (hf:∀ s,Inv n s->good (fin s)):good (zaL body fin n 0 s):=by
 have key:∀ m k s,k+m=n->Inv k s->good (zaL body fin m k s):=by
  intro m
  induction m with
  |zero=>intro k s hk hi;exact hf s (by rw[show n=k by omega];exact hi)
  |succ m ih=>intro k s hk hi;exact hs k s _ (by omega) hi fun s' h'=>ih (k+1) s' (by omega) h'
 exact key n 0 s (by omega) h0
end
mutual
def okS (g:Nat->Bool):AV->Bool
 |.agg cs=>zpi g cs
 |.tup cs=>zpi g cs
 |.fn _ cs=>zpi g cs
 |.ptr l _ _=>g l
 |.sm l _ _ _ _=>g l
 |.i _ _=>true|.b _=>true|.v _=>true|.u=>true|.s0 _=>true|.sl _ _=>true|.ip _ _ _ _=>true|.mp _=>true|.top=>true
def zpi (g:Nat->Bool):List AV->Bool
 |[]=>true
 |x::xs=>okS g x&&zpi g xs
end
def okF:Nat->AS->Nat->Bool
 |0,_,_=>false
 |k+1,σ,l=>match zaF σ l with
  |some (.cells cs _)=>zpi (okF k σ) cs
  |_=>false
section
variable {f f':Nat->Option (List AV)} {g:Nat->Bool} (h:∀ l,g l=true->f' l=f l)
include h
mutual
theorem zpD:∀ x:AV,okS g x=true->za0 f' x=za0 f x
 |.agg cs,e=>by simp only[okS]at e;simp only[za0,zdH cs e]
 |.tup cs,e=>by simp only[okS]at e;simp only[za0,zdH cs e]
 |.fn j cs,e=>by simp only[okS]at e;simp only[za0,zdH cs e]
 |.ptr l ver off,e=>by simp only[okS]at e;simp only[za0,h l e]
 |.sm l ver off n sz,e=>by simp only[okS]at e;simp only[za0,h l e]
 |.i _ _,_=>by simp only[za0]
 |.b _,_=>by simp only[za0]
 |.v _,_=>by simp only[za0]
 |.u,_=>by simp only[za0]
 |.s0 _,_=>by simp only[za0]
 |.sl _ _,_=>by simp only[za0]
 |.ip _ _ _ _,_=>by simp only[za0]
 |.mp _,_=>by simp only[za0]
 |.top,_=>by simp only[za0]
theorem zdH:∀ xs:List AV,zpi g xs=true->zck f' xs=zck f xs
 |[],_=>by simp only[zck]
 |x::xs,e=>by
  simp only[zpi,Bool.and_eq_true]at e
  simp only[zck,zpD x e.1,zdH xs e.2]
end
end
theorem zkY {σ σ':AS} (hle:SLe σ σ'):∀ (k l:Nat),okF k σ l=true->zg9 k σ' l=zg9 k σ l
 |0,_,e=>by simp[okF]at e
 |k+1,l,e=>by
  simp only[okF]at e
  split at e
  ·rename_i cs r hg
   simp only[zg9,hg,hle l _ hg (by intro h;cases h),zdH (fun l=>zkY hle k l) cs e]
  ·cases e
def oks (k:Nat) (σ:List (Nat×AO)) (xs:List AV):Bool:=zpi (okF k σ) xs
def ok1 (k:Nat) (σ:List (Nat×AO)) (x:AV):Bool:=okS (okF k σ) x
def okR (o:Option AO) (l:Nat) (K:List AV->Bool) (_:l=l):Bool:=match o with|some (.cells cs _)=>K cs|_=>false
theorem okR_c (cs:List AV) (r:Bool) (l:Nat) (K:List AV->Bool) (h:l=l):okR (some (.cells cs r)) l K h=K cs:=rfl
section
variable (k:Nat) (σ:List (Nat×AO))
theorem ok_i (q:IntKind) (n:Int):ok1 k σ (.i q n)=true:=by simp only[ok1,okS]
theorem ok_b (t:Bool):ok1 k σ (.b t)=true:=by simp only[ok1,okS]
theorem ok_v (x:Value):ok1 k σ (.v x)=true:=by simp only[ok1,okS]
theorem ok_u:ok1 k σ .u=true:=by simp only[ok1,okS]
theorem ok_s0 (sz:Nat):ok1 k σ (.s0 sz)=true:=by simp only[ok1,okS]
theorem ok_sl (sz:Nat) (es:List (List AV)):ok1 k σ (.sl sz es)=true:=by simp only[ok1,okS]
theorem ok_ip (sz:Nat) (es:List (List AV)) (i j:Nat):ok1 k σ (.ip sz es i j)=true:=by simp only[ok1,okS]
theorem ok_agg (cs:List AV):ok1 k σ (.agg cs)=oks k σ cs:=by simp only[ok1,okS,oks]
theorem ok_tup (cs:List AV):ok1 k σ (.tup cs)=oks k σ cs:=by simp only[ok1,okS,oks]
theorem ok_fn (j:Nat) (cs:List AV):ok1 k σ (.fn j cs)=oks k σ cs:=by simp only[ok1,okS,oks]
theorem ok_nil:oks k σ []=true:=by simp only[oks,zpi]
theorem ok_cons (x:AV) (xs:List AV):oks k σ (x::xs)=(ok1 k σ x&&oks k σ xs):=by simp only[ok1,zpi,oks]
theorem ok_ptr (l ver off:Nat):ok1 (k+1) σ (.ptr l ver off)=okR (zaF σ l) l (fun cs=>oks k σ cs) rfl:=by
 simp only[ok1,okS,okF,okR,oks]
theorem ok_sm (l ver off n sz:Nat):ok1 (k+1) σ (.sm l ver off n sz)=okR (zaF σ l) l (fun cs=>oks k σ cs) rfl:=by
 simp only[ok1,okS,okF,okR,oks]
end
mutual
theorem plain_ok (g:Nat->Bool):∀ x:AV,x.plain=true->okS g x=true
 |.agg cs,h=>by simp only[AV.plain]at h;simp only[okS];exact zeu g cs h
 |.i _ _,_=>rfl|.b _,_=>rfl|.v _,_=>rfl|.sl _ _,_=>rfl|.ip _ _ _ _,_=>rfl
 |.tup _,h=>by simp[AV.plain]at h
 |.u,h=>by simp[AV.plain]at h
 |.s0 _,h=>by simp[AV.plain]at h
 |.ptr _ _ _,h=>by simp[AV.plain]at h
 |.sm _ _ _ _ _,h=>by simp[AV.plain]at h
 |.fn _ _,h=>by simp[AV.plain]at h
 |.mp _,h=>by simp[AV.plain]at h
 |.top,h=>by simp[AV.plain]at h
theorem zeu (g:Nat->Bool):∀ xs:List AV,zaC xs=true->zpi g xs=true
 |[],_=>rfl
 |x::xs,h=>by
  simp only[zaC,Bool.and_eq_true]at h
  simp only[zpi,plain_ok g x h.1,zeu g xs h.2,Bool.and_self]
end
theorem ok_flat {α:Type} {c:α->List AV} {sz:Nat} [h:Cells c sz] (k:Nat) (σ:AS) (l:List α):oks k σ (l.map c).flatten=true:=zeu _ _ (zcH l)
theorem ok_bmap (k:Nat) (σ:AS) (l:List Bool):oks k σ (l.map AV.b)=true:=zeu _ _ (ze2 l)
theorem ok_imap (k:Nat) (σ:AS) (q:IntKind) (l:List Int):oks k σ (l.map (AV.i q))=true:=zeu _ _ (zdc q l)
attribute [go_sem] okR_c ok_i ok_b ok_v ok_u ok_s0 ok_sl ok_ip ok_agg ok_tup ok_fn ok_nil ok_cons ok_ptr ok_sm ok_flat ok_bmap ok_imap
section
variable {P:Program} {inv:Nat->Option Nat} {w0:World} {M:Nat->Prop} {σ:AS}
theorem zrW (hM:∀ b,M b->b<w0.heap.size) (k:Nat) {j:Nat} {args args':List AV} {r:AV} (h:PC P inv j args' (·=r)) (he:zb3 k σ args=args') (hok:oks k σ args=true) (hs:r.scalar=true) {K:AV->Prop} (hk:K r):PureK P inv w0 M σ j args K :=
 ⟨r,fun _ _ σ' hle=>ze4 hM k h (by rw[<-he];exact zdH (fun l=>zkY hle k l) args hok) hs ⟨rfl,rfl⟩,hk⟩
end
section
variable {P:Program} {inv:Nat->Option Nat} {w0:World} {M:Nat->Prop} {n N:Nat} {φ:AF} {σ:AS}
theorem zaJ {x r:ACode} {Q:Exit->AF->AS->Prop} (l:Nat) (hf:ziW x l=some r) (h:AWp P inv w0 M N n x (zg8 l (fun _ _=>False) Q) φ σ):AWp P inv w0 M N n (.scope x) Q φ σ :=
 AWp.scope l hf (fun _ _ _=>False) (AWp.mono (fun e φ' σ' q=>by
  cases e with
  |goto l'=>exact q.2.elim
  |normal=>exact q
  |exit id=>exact q
  |ret=>exact q
  |panic ch=>exact q
  |outgrown=>exact q) h) fun _ _ _ h=>h.elim
variable {l:Nat} {J:AF->AS->Prop} {Q:Exit->AF->AS->Prop}
theorem jt_ret:zg8 l J Q .ret φ σ=Q .ret φ σ:=rfl
theorem zqI:zg8 l J Q .normal φ σ=Q .normal φ σ:=rfl
theorem jt_exit (i:Nat):zg8 l J Q (.exit i) φ σ=Q (.exit i) φ σ:=rfl
theorem jt_goto (l':Nat):zg8 l J Q (.goto l') φ σ=(l'=l/\J φ σ):=rfl
attribute [go_sem] jt_ret zqI jt_exit jt_goto
end
section
variable {P:Program} {inv:Nat->Option Nat} {w0:World} {M:Nat->Prop} {n N:Nat} {φ:AF} {σ:AS}
theorem AWp.sqpC (ks:List Nat) {l:List GOp} {c:Opd} {u v y:ACode} {Q:Exit->AF->AS->Prop} (h:∀ K:AF->AS->Prop,Cont K (AWp P inv w0 M N n y Q)->AWp P inv w0 M N n (.seq (.reg l) (.cond c u v)) (zpm (pk ks K) Q) φ σ):AWp P inv w0 M N n (.seq (.seq (.reg l) (.cond c u v)) y) Q φ σ:=zaa ks h
theorem AWp.sqpD (ks:List Nat) {k:Nat} {l:List GOp} {c:Opd} {u v y:ACode} {Q:Exit->AF->AS->Prop} (h:∀ K:AF->AS->Prop,Cont K (AWp P inv w0 M N n y Q)->AWp P inv w0 M N n (.seq (.regd k l) (.cond c u v)) (zpm (pk ks K) Q) φ σ):AWp P inv w0 M N n (.seq (.seq (.regd k l) (.cond c u v)) y) Q φ σ:=zaa ks h
end
end Go.Eng
namespace Go.Lev
open Go.Eng
set_option maxRecDepth 10000
set_option maxHeartbeats 4000000
variable {P:Program} {inv:Nat->Option Nat} {w0:World} {M:Nat->Prop}
def zcF (s:State) (n:Int):Int:=match s.tracks.find? fun t=>decide (t.id=n) with|some t=>t.is|none=>2
def zcw (p:Pln) (n:Int):Int:=match p.points.find? fun t=>decide (t.id=n) with|some t=>t.sec|none=>0
def zeP (p:Pln) (s:State) (n:Int):Int:=if zad p s=0 then (if zc7 p n=true then (if nth (zas p s).2.1 n.toNat=0 then (if zcF s (zcw p n)=0 then 0 else 171) else 170) else 6) else zad p s
def zmq (s:State) (n v:Int):State:=⟨s.tracks,zdU Switch.id n (fun t=>⟨t.id,t.lie,v⟩) s.switches,s.locks⟩
def zcd (p:Pln) (s:State) (n v:Int):Int:=if zad p s=0 then (if zc7 p n=true then (if v=1\/v=2 then zeP p s n else 2) else 6) else zad p s
def zhl (p:Pln) (s:State) (n v:Int):State:=if zcd p s n v=0 then zmq s n v else State.z
theorem is168_pc (hH:HasAll P inv) (n:Int) (x:Switch):PC P inv 168 ([.agg x.c]++[.ip 1 [[.n n]] 0 0]) (·=.b (decide (x.id=n))):=by
 refine PC.fn hH cd168 fun w0 M Q hM hE hQ hR=>?_;dsimp only[cd168,qm,ql,qf,qb,qN,qt]at hQ |-
 (repeat' first|refine zaa [0,1,2,3] fun K hK=>?_|(refine hK.go ?_;clear hK K)|with_reducible exact wT|refine wA ?_|(refine wB (fun h=>?_) (fun h=>?_)<;>first|exact wN h|subst (h:(_:Bool)=_)|skip)|(refine wQ ?_;clear hQ hR hE hM)|fail)
theorem is169_pc (hH:HasAll P inv) (n:Int) (x:Pnt):PC P inv 169 ([.agg x.c]++[.ip 1 [[.n n]] 0 0]) (·=.b (decide (x.id=n))):=by
 refine PC.fn hH cd169 fun w0 M Q hM hE hQ hR=>?_;dsimp only[cd169,qm,ql,qf,qb,qN,qt]at hQ |-
 (repeat' first|refine zaa [0,1,2,3] fun K hK=>?_|(refine hK.go ?_;clear hK K)|with_reducible exact wT|refine wA ?_|(refine wB (fun h=>?_) (fun h=>?_)<;>first|exact wN h|subst (h:(_:Bool)=_)|skip)|(refine wQ ?_;clear hQ hR hE hM)|fail)
theorem is170_pc (hH:HasAll P inv) (n:Int) (x:Track):PC P inv 170 ([.agg x.c]++[.ip 1 [[.n n]] 0 0]) (·=.b (decide (x.id=n))):=by
 refine PC.fn hH cd170 fun w0 M Q hM hE hQ hR=>?_;dsimp only[cd170,qm,ql,qf,qb,qN,qt]at hQ |-
 (repeat' first|refine zaa [0,1,2,3] fun K hK=>?_|(refine hK.go ?_;clear hK K)|with_reducible exact wT|refine wA ?_|(refine wB (fun h=>?_) (fun h=>?_)<;>first|exact wN h|subst (h:(_:Bool)=_)|skip)|(refine wQ ?_;clear hQ hR hE hM)|fail)
theorem zeW {α:Type} [Inhabited α] (f:α->Int) {l:List α} (hn:(l.map f).Nodup) {k:Nat} (hk:k<l.length) {n:Int} (e:f (nth l k)=n):(l.find? fun t=>decide (f t=n))=some (nth l k):=by
 subst e
 exact zkC f hn (zab hk)
theorem trk_of {p:Pln} {s:State} (h:zaj p s=true) {n:Int} (hs:∃ x∈p.sections,x.id=n):zi2 s n:=by
 obtain ⟨x,hx,rfl⟩:=hs
 have:x.id∈s.tracks.map Track.id:=by rw[zff h];exact List.mem_map_of_mem hx
 obtain ⟨t,ht,e⟩:=List.mem_map.1 this
 exact ⟨t,ht,e⟩
theorem zqd {p:Pln} (h:OkP p) {x:Pnt} (hx:x∈p.points):∃ y∈p.sections,y.id=x.sec:=by
 obtain ⟨s,hs,_,_,e⟩:=zqa h hx
 exact ⟨s,hs,e⟩
theorem zoX {p:Pln} {s:State} (h:zaj p s=true) (n:Int):zcF s n<=2:=by
 unfold zcF
 cases e:s.tracks.find? fun t=>decide (t.id=n) with
 |none=>exact Int.le_refl _
 |some t =>
  obtain ⟨x,_,hx⟩:=zja (by simp only[zaj,Bool.and_eq_true]at h;exact h.1) t (List.mem_of_find?_eq_some e)
  simp only[ze6,Bool.and_eq_true,decide_eq_true_eq]at hx
  exact hx.2
theorem zpB {p:Pln} {s:State}:zad p s=0\/zad p s=8\/zad p s=100:=by
 unfold zad
 split
 ·split
  ·exact .inl rfl
  ·exact .inr (.inl rfl)
 ·exact .inr (.inr rfl)
theorem zqz (hH:HasAll P inv) (hI:HasIds P inv) (p:Pln) (hp:Sm p) (s:State) (hs:SmS s) (h8:∀ t∈s.tracks,0<=t.is) (n:Int):PC P inv 153 [.agg p.c,.agg s.c,.n n] (·=.n (zeP p s n)):=by
 have c0:=asked_pc hH hI p hp s hs n
 unfold zeP
 unfold zod at c0
 by_cases hst:zad p s=0
 ·rw[if_pos hst]at c0 |-
  have hok:=zai hst
  have hpa:=(zac hst).2.1
  cases hn:zc7 p n with
  |false =>
   rw[hn,if_neg (by simp)]at c0
   rw[if_neg (by simp)]
   refine PC.fn hH cd153 fun w0 M Q hM hE hQ hR=>?_;dsimp only[cd153,qm,ql,qf,qi,qc,qN,qt]at hQ |-
   (repeat' first|refine zaa [0,1,2,3,4,5,6,7,8,9,10,19,34,37,45] fun K hK=>?_|(refine hK.go ?_;clear hK K)|with_reducible exact wT|refine wA ?_|(refine wB (fun h=>?_) (fun h=>?_)<;>first|exact wN h|subst (h:(_:Bool)=_)|skip)|(refine wQ ?_;clear hQ hR hE hM)|refine wC c0 ?_|fail)
   all_goals first|rfl|(exfalso;contradiction)|skip
  |true =>
   rw[hn,if_pos rfl]at c0
   rw[if_pos rfl]
   have c1:=zin hH p.points (fun x _=>is169_pc hH n x) (Nat.le_trans hp.pts (by omega))
   obtain ⟨x,hx,ex⟩:=List.any_eq_true.1 hn
   have ex:x.id=n:=by simpa using ex
   rcases zat Pnt.id n p.points with ⟨_,h4⟩|⟨k,hk,h4,h5⟩
   ·exact absurd ex (h4 x hx)
   ·rw[h4]at c1
    have e1:zcw p n=(nth p.points k).sec:=by unfold zcw;rw[zeW Pnt.id (zbI hok) hk h5]
    have c2:=zkx hH s.tracks (fun x _=>is170_pc hH (nth p.points k).sec x) (Nat.le_trans hs.1 (by omega))
    obtain ⟨t,ht,et⟩:=trk_of hpa (zqd hok (zab hk))
    rcases zat Track.id (nth p.points k).sec s.tracks with ⟨_,h6⟩|⟨m,hm,h6,h7⟩
    ·exact absurd et (h6 t ht)
    ·rw[h6]at c2
     have hno:(s.tracks.map Track.id).Nodup:=by rw[zff hpa];exact zer hok
     have e2:zcF s (zcw p n)=(nth s.tracks m).is:=by unfold zcF;rw[e1,zeW Track.id hno hm h7]
     have e3:=zoX hpa (zcw p n)
     have e4:=h8 _ (zab hm)
     rw[e2]at e3 |-
     have hl1:=hp.pts
     have hl2:=hs.1
     generalize nth (zas p s).2.1 n.toNat=a at c0 |-
     clear h4 h5 h6 h7 e1 e2 et ht hno hpa hok hn ex hx
     refine PC.fn hH cd153 fun w0 M Q hM hE hQ hR=>?_;dsimp only[cd153,qm,ql,qf,qi,qc,qN,qt]at hQ |-
     (repeat' first|refine zaa [0,1,2,3,4,5,6,7,8,9,10,19,34,37,45] fun K hK=>?_|(refine hK.go ?_;clear hK K)|with_reducible exact wT|refine wA ?_|(refine wB (fun h=>?_) (fun h=>?_)<;>first|exact wN h|subst (h:(_:Bool)=_)|skip)|(refine wQ ?_;clear hQ hR hE hM)|refine wC c0 ?_|refine wP c1 ?_|refine wS c2 ?_|fail)
     all_goals ((repeat' split)<;>first|rfl|(exfalso;contradiction)|(exfalso;omega))
 ·rw[if_neg hst]at c0 |-
  generalize zad p s=e at c0 hst |-
  refine PC.fn hH cd153 fun w0 M Q hM hE hQ hR=>?_;dsimp only[cd153,qm,ql,qf,qi,qc,qN,qt]at hQ |-
  (repeat' first|refine zaa [0,1,2,3,4,5,6,7,8,9,10,19,34,37,45] fun K hK=>?_|(refine hK.go ?_;clear hK K)|with_reducible exact wT|refine wA ?_|(refine wB (fun h=>?_) (fun h=>?_)<;>first|exact wN h|subst (h:(_:Bool)=_)|skip)|(refine wQ ?_;clear hQ hR hE hM)|refine wC c0 ?_|fail)
  all_goals first|rfl|(exfalso;contradiction)|skip
theorem zkN {p:Pln} {s:State} {n v:Int} (h:zcd p s n v=0):zad p s=0/\zc7 p n=true/\(v=1\/v=2)/\zeP p s n=0:=by
 unfold zcd at h
 split at h
 ·rename_i h1
  split at h
  ·rename_i h2
   split at h
   ·rename_i h3;exact ⟨h1,h2,h3,h⟩
   ·cases h
  ·cases h
 ·rename_i h1;exact absurd h h1
theorem zpw {p:Pln} {s:State} (h:zaj p s=true) {n:Int} (hn:zc7 p n=true):zi3 s n:=by
 obtain ⟨x,hx,e⟩:=List.any_eq_true.1 hn
 have e:x.id=n:=by simpa using e
 have:x.id∈s.switches.map Switch.id:=by rw[zcl h];exact List.mem_map_of_mem hx
 obtain ⟨t,ht,e2⟩:=List.mem_map.1 this
 exact ⟨t,ht,e2.trans e⟩
theorem callP_po (hH:HasAll P inv) (hI:HasIds P inv) (p:Pln) (hp:Sm p) (s:State) (hs:SmS s) (h8:∀ t∈s.tracks,0<=t.is) (n v:Int) (he:zcd p s n v=0):PO P inv 151 [.agg p.c,.agg s.c,.n n,.n v] (.tup [zdD 6 (zmq s n v),.n 0]) (zdE 6 (zmq s n v)):=by
 obtain ⟨hst,hn,hv,hm⟩:=zkN he
 have c0:=zqz hH hI p hp s hs h8 n
 rw[hm]at c0
 have c1:=zb6 hH s hs
 obtain ⟨t,ht,htn⟩:=zpw (zac hst).2.1 hn
 have c2:=zil hH s.switches (fun x _=>is168_pc hH n x) (by have:=hs.2.1;omega)
 have hno:(s.switches.map Switch.id).Nodup:=by rw[zcl (zac hst).2.1];exact zbI (zai hst)
 have h2:=hs.2.1
 rcases zat Switch.id n s.switches with ⟨_,h4⟩|⟨k,hk,h4,h5⟩
 ·exact absurd htn (h4 t ht)
 ·rw[h4]at c2
  have e1:=zcL Switch.id n (fun t=>(⟨t.id,t.lie,v⟩:Switch)) hno hk h5
  have e2:=zbS (c:=Switch.c) (l:=s.switches) (k:=k) (i:=2) hk (by omega) (.i .i64 v) (⟨(nth s.switches k).id,(nth s.switches k).lie,v⟩:Switch) rfl
  rw[e1]at e2
  unfold stV stR at c1
  refine PO.fn hH cd151 fun w0 M Q hM hE hQ hR=>?_;dsimp only[cd151,qm,ql,qf,qi,qc,qp,qv,qN,qT,qF,qt]at hQ |-
  (have hX:=@e2;(repeat' first|refine zaa [0,1,2,3,4,5,6,8,9,10,11,34,36] fun K hK=>?_|(refine hK.go ?_;clear hK K)|with_reducible exact wT|refine wA ?_|(refine wB (fun h=>?_) (fun h=>?_)<;>first|exact wN h|subst (h:(_:Bool)=_)|skip)|(refine wR ?_;clear hQ hR hE hM)|refine wC c0 ?_|refine wO c1 ?_|refine wS c2 ?_|fail);all_goals clear hX)
  all_goals (left;unfold zdD zdE zmq;dsimp only;rw[za1];constructor)
  all_goals (refine wD ?_;try with_reducible exact wT)
theorem zoR {p:Pln} {s:State} {n:Int} (hst:zad p s=0) (hn:zc7 p n=true):zeP p s n=0\/zeP p s n=170\/zeP p s n=171:=by
 unfold zeP
 rw[if_pos hst,if_pos hn]
 split
 ·split
  ·exact .inl rfl
  ·exact .inr (.inr rfl)
 ·exact .inr (.inl rfl)
theorem callP_pc (hH:HasAll P inv) (hI:HasIds P inv) (p:Pln) (hp:Sm p) (s:State) (hs:SmS s) (h8:∀ t∈s.tracks,0<=t.is) (n v:Int):PC P inv 151 [.agg p.c,.agg s.c,.n n,.n v] (·=.tup [.agg (zhl p s n v).c,.n (zcd p s n v)]):=by
 unfold zhl
 by_cases he:zcd p s n v=0
 ·have:=(callP_po hH hI p hp s hs h8 n v he).pc
  rw[zbi]at this
  rw[if_pos he,he]
  exact this
 ·rw[if_neg he]
  have c0:=zqz hH hI p hp s hs h8 n
  have key:(∃ e,zeP p s n=e/\zcd p s n v=e/\(e=6\/e=8\/e=100))\/(∃ e,zeP p s n=e/\(e=0\/e=170\/e=171)/\zcd p s n v=2/\¬v=1/\¬v=2)\/(∃ e,zeP p s n=e/\(e=170\/e=171)/\zcd p s n v=e/\(v=1\/v=2)):=by
   by_cases hst:zad p s=0
   ·cases hn:zc7 p n with
    |false=>exact .inl ⟨6,by unfold zeP;rw[if_pos hst,if_neg (by simp[hn])],by unfold zcd;rw[if_pos hst,if_neg (by simp[hn])],.inl rfl⟩
    |true =>
     have hm:=zoR hst hn
     have hc:zcd p s n v=if v=1\/v=2 then zeP p s n else 2:=by unfold zcd;rw[if_pos hst,if_pos hn]
     by_cases hv:v=1\/v=2
     ·rw[if_pos hv]at hc
      rcases hm with hm|hm|hm
      ·exact absurd (hc.trans hm) he
      ·exact .inr (.inr ⟨170,hm,.inl rfl,hc.trans hm,hv⟩)
      ·exact .inr (.inr ⟨171,hm,.inr rfl,hc.trans hm,hv⟩)
     ·rw[if_neg hv]at hc
      exact .inr (.inl ⟨_,rfl,hm,hc,fun h=>hv (.inl h),fun h=>hv (.inr h)⟩)
   ·have h1:zeP p s n=zad p s:=by unfold zeP;rw[if_neg hst]
    have h2:zcd p s n v=zad p s:=by unfold zcd;rw[if_neg hst]
    rcases zpB (p:=p) (s:=s) with h|h|h
    ·exact absurd h hst
    ·exact .inl ⟨8,h1.trans h,h2.trans h,.inr (.inl rfl)⟩
    ·exact .inl ⟨100,h1.trans h,h2.trans h,.inr (.inr rfl)⟩
  rcases key with ⟨e,h1,h2,h3⟩|⟨e,h1,h3,h2,h4,h5⟩|⟨e,h1,h3,h2,h4⟩
  ·rw[h1]at c0
   rw[h2]
   rcases h3 with rfl|rfl|rfl
   all_goals refine PC.fn hH cd151 fun w0 M Q hM hE hQ hR=>?_;dsimp only[cd151,qm,ql,qf,qi,qc,qp,qv,qN,qT,qF,qt]at hQ |-
   all_goals (repeat' first|refine zaa [0,1,2,3,4,5,6,8,9,10,11,34,36] fun K hK=>?_|(refine hK.go ?_;clear hK K)|with_reducible exact wT|refine wA ?_|(refine wB (fun h=>?_) (fun h=>?_)<;>first|exact wN h|subst (h:(_:Bool)=_)|skip)|(refine wQ ?_;clear hQ hR hE hM)|refine wC c0 ?_|fail)
   all_goals first|rfl|(exfalso;contradiction)|(exfalso;omega)
  ·rw[h1]at c0
   rw[h2]
   rcases h3 with rfl|rfl|rfl
   all_goals refine PC.fn hH cd151 fun w0 M Q hM hE hQ hR=>?_;dsimp only[cd151,qm,ql,qf,qi,qc,qp,qv,qN,qT,qF,qt]at hQ |-
   all_goals (repeat' first|refine zaa [0,1,2,3,4,5,6,8,9,10,11,34,36] fun K hK=>?_|(refine hK.go ?_;clear hK K)|with_reducible exact wT|refine wA ?_|(refine wB (fun h=>?_) (fun h=>?_)<;>first|exact wN h|subst (h:(_:Bool)=_)|skip)|(refine wQ ?_;clear hQ hR hE hM)|refine wC c0 ?_|fail)
   all_goals first|rfl|(exfalso;contradiction)|(exfalso;omega)
  ·rw[h1]at c0
   rw[h2]
   rcases h3 with rfl|rfl
   all_goals refine PC.fn hH cd151 fun w0 M Q hM hE hQ hR=>?_;dsimp only[cd151,qm,ql,qf,qi,qc,qp,qv,qN,qT,qF,qt]at hQ |-
   all_goals (repeat' first|refine zaa [0,1,2,3,4,5,6,8,9,10,11,34,36] fun K hK=>?_|(refine hK.go ?_;clear hK K)|with_reducible exact wT|refine wA ?_|(refine wB (fun h=>?_) (fun h=>?_)<;>first|exact wN h|subst (h:(_:Bool)=_)|skip)|(refine wQ ?_;clear hQ hR hE hM)|refine wC c0 ?_|fail)
   all_goals first|rfl|(exfalso;contradiction)|(exfalso;omega)
theorem zkp (n v m:Int) (hm:m≠n):∀ (l:List Switch) (C D:List (Int×Int)),zgj C m=zgj D m->zgj (zgk C (zdU Switch.id n (fun t=>⟨t.id,t.lie,v⟩) l)) m=zgj (zgk D l) m
 |[],_,_,h=>h
 |x::r,C,D,h=>by
  show zgj (zgk (zmA C (if x.id=n then (⟨x.id,x.lie,v⟩:Switch) else x).id (if x.id=n then (⟨x.id,x.lie,v⟩:Switch) else x).call) (zdU Switch.id n (fun t=>⟨t.id,t.lie,v⟩) r)) m=zgj (zgk (zmA D x.id x.call) r) m
  refine zkp n v m hm r _ _ ?_
  rw[zfY,zfY]
  by_cases hx:x.id=n
  ·rw[if_pos hx]
   dsimp only
   rw[if_neg (by omega),if_neg (by omega)]
   exact h
  ·rw[if_neg hx,h]
theorem zm4 (s:State) {n m:Int} (v:Int) (hm:m≠n):za9 (zmq s n v) m=za9 s m:=zkp n v m hm s.switches [] [] rfl
theorem zox {p:Pln} {s:State} {n v:Int} (h:zaj p s=true) (hv:0<=v/\v<=2):zaj p (zmq s n v)=true:=by
 unfold zaj at h |-
 simp only[Bool.and_eq_true,zbH]at h |-
 unfold zmq
 simp only[za1]
 refine ⟨h.1,⟨h.2.1.1,fun i hi=>?_⟩,h.2.2⟩
 have:=h.2.1.2 i hi
 unfold zdU
 rw[znK (fun x=>if Switch.id x=n then (⟨x.id,x.lie,v⟩:Switch) else x) hi]
 simp only[zfz,zfo,Bool.and_eq_true,decide_eq_true_eq]at this |-
 split
 ·exact ⟨this.1,this.2.1,hv⟩
 ·exact this
theorem asl_lie {p:Pln} {s:State} (h:zad p s=0) {z:WL} (hz:z∈zof p s) {a:AskR} (ha:a∈asl z):a.lie=1\/a.lie=2:=by
 obtain ⟨i,hi,rfl⟩:=zfu h hz
 exact zqD h hi ha
theorem zpS {p:Pln} {s:State} {n v:Int} (h:zad p s=0) (hn:nth (zas p s).2.1 n.toNat=0) (hv:0<=v/\v<=2):zad p (zmq s n v)=0:=by
 obtain ⟨h1,h2,h3,h4⟩:=(zeD p s).1 h
 refine (zeD p _).2 ⟨h1,zox h2 hv,h3,fun z hz a ha=>?_⟩
 have hne:a.pnt≠n:=fun e=>by
  have h5:=zrK h hz ha
  have h6:=asl_lie h hz ha
  rw[e,hn]at h5
  omega
 rw[zm4 s v hne]
 exact h4 z hz a ha
structure MayCall (p:Pln) (s:State) (n:Int):Prop where
 st:zad p s=0
 pt:zc7 p n=true
 ask:nth (zas p s).2.1 n.toNat=0
 free:zcF s (zcw p n)=0
theorem znM {p:Pln} {s:State} {n:Int}:zeP p s n=0↔MayCall p s n:=by
 constructor
 ·intro h
  unfold zeP at h
  split at h
  ·rename_i h1
   split at h
   ·rename_i h2
    split at h
    ·rename_i h3
     split at h
     ·rename_i h4;exact ⟨h1,h2,h3,h4⟩
     ·cases h
    ·cases h
   ·cases h
  ·rename_i h1;exact absurd h h1
 ·rintro ⟨h1,h2,h3,h4⟩
  unfold zeP
  rw[if_pos h1,if_pos h2,if_pos h3,if_pos h4]
theorem zlY {p:Pln} {s:State} {n v:Int}:zcd p s n v=0↔MayCall p s n/\(v=1\/v=2):=by
 constructor
 ·intro h
  have:=zkN h
  exact ⟨znM.1 this.2.2.2,this.2.2.1⟩
 ·rintro ⟨h1,h2⟩
  unfold zcd
  rw[if_pos h1.st,if_pos h1.pt,if_pos h2]
  exact znM.2 h1
theorem MayCall.code {p:Pln} {s:State} {n v:Int} (h:MayCall p s n) (hv:v=1\/v=2):zad p (zmq s n v)=0:=zpS h.st h.ask (by omega)
theorem zqt {α:Type} [Inhabited α] (f:α->Int) {l:List α} (hn:(l.map f).Nodup) {i j:Nat} (hi:i<l.length) (hj:j<l.length) (e:f (nth l i)=f (nth l j)):i=j:=by
 have:=List.nodup_iff_pairwise_ne.1 hn
 rcases Nat.lt_trichotomy i j with hlt|he|hlt
 ·have:=List.pairwise_iff_getElem.1 this i j (by simpa using hi) (by simpa using hj) hlt
  simp only[List.getElem_map]at this
  rw[<-zaK hi,<-zaK hj]at this
  exact absurd e this
 ·exact he
 ·have:=List.pairwise_iff_getElem.1 this j i (by simpa using hj) (by simpa using hi) hlt
  simp only[List.getElem_map]at this
  rw[<-zaK hi,<-zaK hj]at this
  exact absurd e.symm this
theorem zbN {α:Type} [Inhabited α] {l:List α} {x:α} (h:x∈l):∃ k,k<l.length/\nth l k=x:=by
 obtain ⟨k,hk,e⟩:=List.mem_iff_getElem.1 h
 exact ⟨k,hk,by rw[zaK hk];exact e⟩
theorem zqO {p:Pln} {s:State} (ho:OkP p) (h:zaj p s=true) {k:Nat} (hk:k<s.tracks.length):zcF s (nth s.tracks k).id=(nth s.tracks k).is:=by
 unfold zcF
 rw[zeW Track.id (by rw[zff h];exact zer ho) hk rfl]
theorem zoI {p:Pln} (h:OkP p) {k:Nat} (hk:k<p.points.length):zcw p (nth p.points k).id=(nth p.points k).sec:=by
 unfold zcw
 rw[zeW Pnt.id (zbI h) hk rfl]
theorem znS {p:Pln} {k:Nat} (hk:k<p.points.length):zc7 p (nth p.points k).id=true:=List.any_eq_true.2 ⟨_,zab hk,by simp⟩
theorem isPnt_ix {p:Pln} {n:Int} (h:zc7 p n=true):∃ k,k<p.points.length/\(nth p.points k).id=n:=by
 obtain ⟨x,hx,e⟩:=List.any_eq_true.1 h
 obtain ⟨k,hk,rfl⟩:=zbN hx
 exact ⟨k,hk,by simpa using e⟩
def peF (p:Pln) (s:State) (n e a g m:Int):Bool :=
 zaL (fun i _ za5=>cond (!decide ((nth p.points i).id=n)) (za5 ())
   (cond (!decide (a=0)) (decide (e=170))
    (zaL (fun k _ next2=>cond (decide ((nth s.tracks k).id=(nth p.points i).sec)&&!decide ((nth s.tracks k).is=0)) (decide (e=171)) (next2 ()))
     (fun _=>decide (e=0)&&decide (g=0)&&decide (m=0)) s.tracks.length 0 ())))
  (fun _=>decide (e=6)) p.points.length 0 ()
def pfF (p:Pln) (s:State) (n v e a c:Int):Bool :=
 zaL (fun i (st:Bool×Int) za5=>cond (!decide ((nth p.points i).id=n)) (za5 st)
   (zaL (fun k (fr:Bool) next2=>next2 (fr||decide ((nth s.tracks k).id=(nth p.points i).sec)&&decide ((nth s.tracks k).is=0)))
    (fun fr=>za5 (fr,(i:Int))) s.tracks.length 0 st.1))
  (fun st=>cond (!decide (decide (e=0)=(decide (0<=st.2)&&(decide (v=1)||decide (v=2))&&decide (c=0)&&decide (a=0)&&st.1))) false true) p.points.length 0 (false,-1)
theorem zqY (hH:HasAll P inv) (l:List Track) (v:Track) (hl:l.length<=1000000000):PC P inv 184 [.sl 2 (l.map Track.c),.agg v.c] (·=.n (za3 (fun x=>decide (v.id=x.id)&&decide (v.is=x.is)) 0 l)):=by
 refine PC.fn hH cd184 fun w0 M Q hM hE hQ hR=>?_;dsimp only[cd184,qm,qi,qb,qc,qN,qt]at hQ |-
 (repeat' first|refine zaa [0,1,3,4,5,7,8,9,16] fun K hK=>?_|(refine hK.go ?_;clear hK K)|with_reducible exact wT|refine wA ?_|(refine wB (fun h=>?_) (fun h=>?_)<;>first|exact wN h|subst (h:(_:Bool)=_)|skip)|(refine wQ ?_;clear hQ hR hE hM)|fail)
 refine zam (ι:=Nat) [0,3,4,7,8] (fun z=>[(8,.n z)]) (fun _=>[]) (fun z=>z) (l.length) (fun z=>(za3 (fun x=>decide (v.id=x.id)&&decide (v.is=x.is)) z (l.drop z)=za3 (fun x=>decide (v.id=x.id)&&decide (v.is=x.is)) 0 l)) (0) ?_;rintro k ⟨hk,hg⟩;(try dsimp only at hk hg |-);rcases Nat.lt_or_ge k l.length with hlt|hge
 ·rw[zaf hlt]at hg
  rw[za3]at hg
  cases ht:decide (v.id=(nth l k).id)&&decide (v.is=(nth l k).is) with
  |true =>
   rw[if_pos ht]at hg
   (have hX:=@ht;(repeat' first|refine zaa [0,1,3,4,5,7,8,9,16] fun K hK=>?_|(refine hK.go ?_;clear hK K)|with_reducible exact wT|refine wA ?_|(refine wB (fun h=>?_) (fun h=>?_)<;>first|exact wN h|subst (h:(_:Bool)=_)|skip)|(refine wQ ?_;clear hQ hR hE hM)|fail);all_goals clear hX)
   all_goals first|exact hg|(exfalso;contradiction)
  |false =>
   rw[if_neg (by rw[ht];simp)]at hg
   (have hX:=@ht;(repeat' first|refine zaa [0,1,3,4,5,7,8,9,16] fun K hK=>?_|(refine hK.go ?_;clear hK K)|with_reducible exact wT|refine wA ?_|(refine wB (fun h=>?_) (fun h=>?_)<;>first|exact wN h|subst (h:(_:Bool)=_)|skip)|(refine wQ ?_;clear hQ hR hE hM)|fail);all_goals clear hX)
   all_goals first|(exfalso;contradiction)|exact ⟨k+1,by omega,⟨by omega,hg⟩,by omega⟩
 ·rw[List.drop_eq_nil_of_le hge]at hg
  (repeat' first|refine zaa [0,1,3,4,5,7,8,9,16] fun K hK=>?_|(refine hK.go ?_;clear hK K)|with_reducible exact wT|refine wA ?_|(refine wB (fun h=>?_) (fun h=>?_)<;>first|exact wN h|subst (h:(_:Bool)=_)|skip)|(refine wQ ?_;clear hQ hR hE hM)|fail)
  rw[<-hg];rfl
theorem zq1 (hH:HasAll P inv) (l:List Track) (v:Track) (hl:l.length<=1000000000):PC P inv 176 [.sl 2 (l.map Track.c),.agg v.c] (·=.b (l.any fun x=>decide (v.id=x.id)&&decide (v.is=x.is))):=by
 have c1:=zqY hH l v hl
 have e:=zky (fun x:Track=>decide (v.id=x.id)&&decide (v.is=x.is)) l
 revert c1 e
 generalize za3 (fun x:Track=>decide (v.id=x.id)&&decide (v.is=x.is)) 0 l=i
 generalize (l.any fun x=>decide (v.id=x.id)&&decide (v.is=x.is))=t
 intro c1 e
 refine PC.fn hH cd176 fun w0 M Q hM hE hQ hR=>?_;dsimp only[cd176,qm,qc,qN,qt]at hQ |-
 (have hX:=@e;(repeat' first|refine zaa [0,1,3,4] fun K hK=>?_|(refine hK.go ?_;clear hK K)|with_reducible exact wT|refine wA ?_|(refine wB (fun h=>?_) (fun h=>?_)<;>first|exact wN h|subst (h:(_:Bool)=_)|skip)|(refine wQ ?_;clear hQ hR hE hM)|refine wC c1 ?_|fail);all_goals clear hX)
theorem zq2 (hH:HasAll P inv) {jc:Nat} {caps:List AV} {q:Int->Bool} (l:List Int) (hc:∀ x∈l,PC P inv jc ([.n x]++caps) (·=.b (q x))) (hl:l.length<=1000000000):PC P inv 177 [.sl 1 (l.map zcG),.fn jc caps] (·=.b (l.any q)):=by
 have c1:=idx_int hH l hc hl
 have e:=zky q l
 refine PC.fn hH cd177 fun w0 M Q hM hE hQ hR=>?_;dsimp only[cd177,qm,qc,qN,qt]at hQ |-
 (have hX:=@e;(repeat' first|refine zaa [0,1,4] fun K hK=>?_|(refine hK.go ?_;clear hK K)|with_reducible exact wT|refine wA ?_|(refine wB (fun h=>?_) (fun h=>?_)<;>first|exact wN h|subst (h:(_:Bool)=_)|skip)|(refine wQ ?_;clear hQ hR hE hM)|refine wC c1 ?_|fail);all_goals clear hX)
def frT (s:State) (n:Int):Bool:=s.tracks.any fun x=>decide (n=x.id)&&decide (0=x.is)
theorem free_pc (hH:HasAll P inv) (s:State) (hs:s.tracks.length<=1000000000) (n:Int):PC P inv 181 [.agg s.c,.n n] (·=.b (frT s n)):=by
 have c1:=zq1 hH s.tracks ⟨n,0⟩ hs
 rw[show (s.tracks.any fun x=>decide ((⟨n,0⟩:Track).id=x.id)&&decide ((⟨n,0⟩:Track).is=x.is))=frT s n from rfl]at c1
 refine PC.fn hH cd181 fun w0 M Q hM hE hQ hR=>?_;dsimp only[cd181,qm,ql,qf,qN,qt]at hQ |-
 (repeat' first|refine zaa [0,1,2,4] fun K hK=>?_|(refine hK.go ?_;clear hK K)|with_reducible exact wT|refine wA ?_|(refine wB (fun h=>?_) (fun h=>?_)<;>first|exact wN h|subst (h:(_:Bool)=_)|skip)|(refine wQ ?_;clear hQ hR hE hM)|refine wC c1 ?_|fail)
theorem is189_pc (hH:HasAll P inv) (n:Int) (x:Pnt):PC P inv 189 ([.agg x.c]++[.ip 1 [[.n n]] 0 0]) (·=.b (decide (x.id=n))):=by
 refine PC.fn hH cd189 fun w0 M Q hM hE hQ hR=>?_;dsimp only[cd189,qm,ql,qf,qb,qN,qt]at hQ |-
 (repeat' first|refine zaa [0,1,2,3] fun K hK=>?_|(refine hK.go ?_;clear hK K)|with_reducible exact wT|refine wA ?_|(refine wB (fun h=>?_) (fun h=>?_)<;>first|exact wN h|subst (h:(_:Bool)=_)|skip)|(refine wQ ?_;clear hQ hR hE hM)|fail)
theorem znT (hH:HasAll P inv) (n:Int) (x:Switch):PC P inv 183 ([.agg x.c]++[.ip 1 [[.n n]] 0 0]) (·=.b (decide (x.id=n))):=by
 refine PC.fn hH cd183 fun w0 M Q hM hE hQ hR=>?_;dsimp only[cd183,qm,ql,qf,qb,qN,qt]at hQ |-
 (repeat' first|refine zaa [0,1,2,3] fun K hK=>?_|(refine hK.go ?_;clear hK K)|with_reducible exact wT|refine wA ?_|(refine wB (fun h=>?_) (fun h=>?_)<;>first|exact wN h|subst (h:(_:Bool)=_)|skip)|(refine wQ ?_;clear hQ hR hE hM)|fail)
theorem is180_pc (hH:HasAll P inv) (n:Int) (x:Lock):PC P inv 180 ([.agg x.c]++[.ip 1 [[.n n]] 0 0]) (·=.b (decide (x.id=n))):=by
 refine PC.fn hH cd180 fun w0 M Q hM hE hQ hR=>?_;dsimp only[cd180,qm,ql,qf,qb,qN,qt]at hQ |-
 (repeat' first|refine zaa [0,1,2,3] fun K hK=>?_|(refine hK.go ?_;clear hK K)|with_reducible exact wT|refine wA ?_|(refine wB (fun h=>?_) (fun h=>?_)<;>first|exact wN h|subst (h:(_:Bool)=_)|skip)|(refine wQ ?_;clear hQ hR hE hM)|fail)
theorem lies_pc (hH:HasAll P inv) (p:Pln) (hl:p.points.length<=1000000000) {k:Nat} (hk:k<p.points.length) {n:Int} (he:za3 (fun x=>decide (Pnt.id x=n)) 0 p.points=(k:Int)):PC P inv 182 [.agg p.c,.n n] (·=.n (nth p.points k).sec):=by
 have c1:=zin hH p.points (fun x _=>is189_pc hH n x) hl
 rw[he]at c1
 refine PC.fn hH cd182 fun w0 M Q hM hE hQ hR=>?_;dsimp only[cd182,qm,ql,qf,qi,qN,qt]at hQ |-
 (repeat' first|refine zaa [0,1,2,3,4] fun K hK=>?_|(refine hK.go ?_;clear hK K)|with_reducible exact wT|refine wA ?_|(refine wB (fun h=>?_) (fun h=>?_)<;>first|exact wN h|subst (h:(_:Bool)=_)|skip)|(refine wQ ?_;clear hQ hR hE hM)|refine wS c1 ?_|fail)
theorem zry (hH:HasAll P inv) (s:State) (hl:s.switches.length<=1000000000) {k:Nat} (hk:k<s.switches.length) {n:Int} (he:za3 (fun x=>decide (Switch.id x=n)) 0 s.switches=(k:Int)):PC P inv 172 [.agg s.c,.n n] (·=.ip 3 (s.switches.map Switch.c) k 2):=by
 have c1:=zil hH s.switches (fun x _=>znT hH n x) hl
 rw[he]at c1
 refine PC.fn hH cd172 fun w0 M Q hM hE hQ hR=>?_;dsimp only[cd172,qm,ql,qf,qi,qN,qt]at hQ |-
 (repeat' first|refine zaa [0,1,2,3,4,5] fun K hK=>?_|(refine hK.go ?_;clear hK K)|with_reducible exact wT|refine wA ?_|(refine wB (fun h=>?_) (fun h=>?_)<;>first|exact wN h|subst (h:(_:Bool)=_)|skip)|(refine wQ ?_;clear hQ hR hE hM)|refine wS c1 ?_|fail)
def zeR (s:State) (n:Int):Int:=za3 (fun x=>decide (Lock.id x=n)) 0 s.locks
def zcU (H:List Int) (fr:Int->Bool):List Int->Int
 |[]=>0
 |x::r=>if nth H x.toNat=0 then (if fr x=true then zcU H fr r else 182) else 181
def ziO (p:Pln) (s:State) (A:List Int) (a:AskR):Bool:=decide (za9 s a.pnt=a.lie)||(decide (nth A a.pnt.toNat=0)&&frT s (zcw p a.pnt))
def setE (p:Pln) (s:State) (i:Nat):Int :=
 if zcU (zas p s).1 (frT s) ((zah p (nth p.routes i)).1.path++(zah p (nth p.routes i)).1.over)=0 then (if (zah p (nth p.routes i)).1.asks.all (ziO p s (zas p s).2.1)=true then 0 else 183)
 else zcU (zas p s).1 (frT s) ((zah p (nth p.routes i)).1.path++(zah p (nth p.routes i)).1.over)
def lkC (p:Pln) (s:State) (n:Int):Int:=if zad p s=0 then (if zeR s n<0 then 6 else if (nth s.locks (zeR s n).toNat).phase=0 then setE p s (zeR s n).toNat else 180) else zad p s
def lkW (p:Pln) (s:State) (n:Int):WayR:=if zad p s=0 then (if zeR s n<0 then WayR.z else if (nth s.locks (zeR s n).toNat).phase=0 then (zah p (nth p.routes (zeR s n).toNat)).1 else WayR.z) else WayR.z
def zrN (ok:AskR->Bool):Int->List AskR->Int
 |e,[]=>e
 |e,a::r=>zrN ok (if e=0 then (if ok a=true then 0 else 183) else e) r
theorem ziP (ok:AskR->Bool) {e:Int} (he:¬e=0):∀ l,zrN ok e l=e
 |[]=>rfl
 |a::r=>by rw[zrN,if_neg he];exact ziP ok he r
theorem zrM (ok:AskR->Bool):∀ l,zrN ok 0 l=if l.all ok=true then 0 else 183
 |[]=>rfl
 |a::r=>by
  rw[zrN,if_pos rfl,List.all_cons]
  cases h:ok a with
  |true=>rw[if_pos rfl,zrM ok r,Bool.true_and]
  |false=>rw[if_neg (by simp),ziP ok (by decide)];simp
theorem znv (p:Pln) (s:State) (i:Nat):setE p s i=zrN (ziO p s (zas p s).2.1) (zcU (zas p s).1 (frT s) ((zah p (nth p.routes i)).1.path++(zah p (nth p.routes i)).1.over)) (zah p (nth p.routes i)).1.asks:=by
 unfold setE
 split
 ·rename_i h;rw[h,zrM]
 ·rename_i h;rw[ziP _ h]
theorem zqe {p:Pln} (h:OkP p) {k:Nat} (hk:k<p.points.length):zcw p (nth p.points k).id=(nth p.points k).sec:=by
 unfold zcw
 rw[zeW Pnt.id (zbI h) hk rfl]
theorem zjp (hH:HasAll P inv) (hI:HasIds P inv) (p:Pln) (hp:Sm p) (s:State) (hs:SmS s) (n:Int):PC P inv 171 [.agg p.c,.agg s.c,.n n] (·=.tup [.agg (lkW p s n).c,.n (lkC p s n)]):=by
 have c0:=zoO hH hI p hp s hs
 have c1:=zmR hH s.locks (fun x _=>is180_pc hH n x) (by have:=hs.2.2;omega)
 have hRl:=zfl p s
 have hRe:=zif p s
 by_cases hst:zad p s=0
 ·have hok:=zai hst
  have hpa:=(zac hst).2.1
  have hpl:=zak hpa
  have hR:ofR p s=⟨(zas p s).1,(zas p s).2.1,zaP p,0⟩:=by unfold ofR;rw[if_pos hst]
  rw[hR]at c0 hRl
  dsimp only at c0 hRl
  have hW:lkW p s n=if zeR s n<0 then WayR.z else if (nth s.locks (zeR s n).toNat).phase=0 then (zah p (nth p.routes (zeR s n).toNat)).1 else WayR.z:=by unfold lkW;rw[if_pos hst]
  have hC:lkC p s n=if zeR s n<0 then 6 else if (nth s.locks (zeR s n).toNat).phase=0 then setE p s (zeR s n).toNat else 180:=by unfold lkC;rw[if_pos hst]
  rw[hW,hC]
  clear hW hC
  obtain ⟨G,Z,hg⟩:=GC.ex
  rw[<-hg.eq]at c0
  have hfold:=hg.fold
  have hlen0:=hg.len (.s0 4) hg.zl hg.zl
  have hlen:=hg.len (.sl 4 ((zaP p).map Way.c)) hRl.1 hRl.2
  have hov:=hg.ov (.s0 4) (.sl 4 ((zaP p).map Way.c)) hg.zl hg.zl hRl.1 hRl.2
  have hbd0:=hg.bd0 Z Z
  have hbd:=hg.bd (zas p s).1 (zas p s).2.1 ((zaP p).map Way.c)
  have hba:=hg.ba (zas p s).1 (zas p s).2.1 ((zaP p).map Way.c)
  have hlix:zeR s n=za3 (fun x=>decide (Lock.id x=n)) 0 s.locks:=rfl
  rcases zat Lock.id n s.locks with ⟨h4,_⟩|⟨i,hi,h4,h5⟩
  ·rw[h4]at c1 hlix
   rw[hlix,if_pos (by decide),if_pos (by decide)]
   refine PC.fn hH cd171 fun w0 M Q hM hE hQ hR=>?_;dsimp only[cd171,qm,ql,qf,qi,qb,qc,qp,qv,qN,qT,qF,qt]at hQ |-
   (have hX:=zA @hfold (zA @hlen0 (zA @hlen (zA @hov (zA @hbd0 (zA @hbd @hba)))));(repeat' first|refine zaa [0,1,2,3,4,5,6,7,8,9,11,13,15,23,29,37,48,49,50,51,54,55,56,57,60,66,74,75,76,77,106,109] fun K hK=>?_|(refine hK.go ?_;clear hK K)|with_reducible exact wT|refine wA ?_|(refine wB (fun h=>?_) (fun h=>?_)<;>first|exact wN h|subst (h:(_:Bool)=_)|skip)|(refine zaJ 0 rfl ?_;try refine wD ?_)|(refine wQ ?_;clear hQ hR hE hM)|refine wC c0 ?_|refine wS c1 ?_|fail);all_goals clear hX)
   all_goals first|rfl|(exfalso;contradiction)|skip
  ·rw[h4]at c1 hlix
   rw[hlix,if_neg (show ¬((i:Nat):Int)<0 by omega),if_neg (show ¬((i:Nat):Int)<0 by omega),Int.toNat_natCast]
   have hri:i<p.routes.length:=by omega
   have hlk:s.locks.length<=1000:=hs.2.2
   by_cases hph:(nth s.locks i).phase=0
   ·rw[if_pos hph,if_pos hph]
    have hr:=zab hri
    have hwp:=zbv ((zaH (zac hst).1).2.1 _ hr)
    have hwl:=zbf hok hr
    have hsec:∀ m∈(zah p (nth p.routes i)).1.path++(zah p (nth p.routes i)).1.over,0<=m/\m<=99:=fun m hm=>by
     rw[hwp.1,hwp.2.1]at hm
     obtain ⟨q,hq,rfl⟩:=(zb8 hok hr).1 m hm
     have:=zcQ hok hq
     omega
    have hask:∀ k,k<(zah p (nth p.routes i)).1.asks.length->0<=(nth (zah p (nth p.routes i)).1.asks k).pnt/\(nth (zah p (nth p.routes i)).1.asks k).pnt<=99 /\
      (∃ j,j<s.switches.length/\PC P inv 172 [.agg s.c,.n (nth (zah p (nth p.routes i)).1.asks k).pnt] (·=.ip 3 (s.switches.map Switch.c) j 2)/\(nth s.switches j).call=za9 s (nth (zah p (nth p.routes i)).1.asks k).pnt) /\
      PC P inv 182 [.agg p.c,.n (nth (zah p (nth p.routes i)).1.asks k).pnt] (·=.n (zcw p (nth (zah p (nth p.routes i)).1.asks k).pnt)):=fun k hk=>by
     obtain ⟨⟨x,hx,ex⟩,hb,_⟩:=zbC hok hr (zab hk)
     refine ⟨by omega,by omega, ?_, ?_⟩
     ·obtain ⟨y,hy,ey⟩:=zpw hpa (n:=(nth (zah p (nth p.routes i)).1.asks k).pnt) (List.any_eq_true.2 ⟨x,hx,by simpa using ex⟩)
      rcases zat Switch.id (nth (zah p (nth p.routes i)).1.asks k).pnt s.switches with ⟨_,q⟩|⟨j,hj,q1,q2⟩
      ·exact absurd ey (q y hy)
      ·exact ⟨j,hj,zry hH s (by have:=hs.2.1;omega) hj q1,by rw[<-q2];exact (ziJ hok hpa (zab hj)).symm⟩
     ·rcases zat Pnt.id (nth (zah p (nth p.routes i)).1.asks k).pnt p.points with ⟨_,q⟩|⟨j,hj,q1,q2⟩
      ·exact absurd ex (q x hx)
      ·have:=lies_pc hH p (by have:=hp.pts;omega) hj q1
       rw[<-zqe hok hj,q2]at this
       exact this
    rw[znv]
    have hgw:=hg.get (.sl 4 ((zaP p).map Way.c)) hRl.1 hRl.2
    have hwat:nth (zaP p) i=(zah p (nth p.routes i)).1:=znK _ hri
    have hwlen:(zaP p).length=p.routes.length:=by simp[zaP]
    have hfr:∀ x,PC P inv 181 [.agg s.c,.n x] (·=.b (frT s x)):=fun x=>free_pc hH s (by have:=hs.1;omega) x
    have hok2:∀ a:AskR,ziO p s (zas p s).2.1 a=(decide (za9 s a.pnt=a.lie)||(decide (nth (zas p s).2.1 a.pnt.toNat=0)&&frT s (zcw p a.pnt))):=fun a=>rfl
    have hg1:∀ k:Nat,k<100->(G (zas p s).1 (zas p s).2.1 (.sl 4 ((zaP p).map Way.c)))[k]?=some (.n (nth (zas p s).1 k)):=fun k hk=>hg.get1 _ hRl.1 hk
    have hg2:∀ k:Nat,k<100->(G (zas p s).1 (zas p s).2.1 (.sl 4 ((zaP p).map Way.c)))[100+k]?=some (.n (nth (zas p s).2.1 k)):=fun k hk=>hg.get2 _ hRl.1 hRl.2 hk
    generalize (zah p (nth p.routes i)).1=w at *
    generalize zas p s=GR at *
    obtain ⟨H,A,B⟩:=GR
    dsimp only at *
    generalize zaP p=ws at *
    generalize ziO p s A=ok at *
    clear hwp hr hok hst hpa hR h5 hRe hg
    refine PC.fn hH cd171 fun w0 M Q hM hE hQ hR=>?_;dsimp only[cd171,qm,ql,qf,qi,qb,qc,qp,qv,qN,qT,qF,qt]at hQ |-
    repeat' (first|(refine zaa [0,1,2,3,4,5,6,7,8,9,11,13,15,23,29,37,48,49,50,51,54,55,56,57,60,66,74,75,76,77,106,109] fun K hK=>cnd2 rfl (fun h=>?_) (fun h=>?_)<;>(try first|exact h.elim|obtain rfl:(_:Bool)=_:=h)<;>first|(exfalso;omega)|skip)|refine AWp.sqpC [0,1,2,3,4,5,6,7,8,9,11,13,15,23,29,37,48,49,50,51,54,55,56,57,60,66,74,75,76,77,106,109] fun K hK=>?_|refine AWp.sqpD [0,1,2,3,4,5,6,7,8,9,11,13,15,23,29,37,48,49,50,51,54,55,56,57,60,66,74,75,76,77,106,109] fun K hK=>?_|refine zaa [0,1,2,3,4,5,6,7,8,9,11,13,15,23,29,37,48,49,50,51,54,55,56,57,60,66,74,75,76,77,106,109] fun K hK=>AWp.label ?_|refine AWp.block ?_|(refine hK.go ?_;clear hK K)|refine Cont.go (by assumption) ?_|(refine cnd2 rfl (fun h=>?_) (fun h=>?_)<;>(try first|exact h.elim|obtain rfl:(_:Bool)=_:=h)<;>first|(exfalso;omega)|skip)|((first|refine zaa [0,1,2,3,4,5,6,7,8,9,11,13,15,23,29,37,48,49,50,51,54,55,56,57,60,66,74,75,76,77,106,109] fun K hK=>AWp.reg hE hM ?_|refine zaa [0,1,2,3,4,5,6,7,8,9,11,13,15,23,29,37,48,49,50,51,54,55,56,57,60,66,74,75,76,77,106,109] fun K hK=>AWp.regd hE hM ?_|refine AWp.reg hE hM ?_|refine AWp.regd hE hM ?_|refine AWp.ret ?_|refine AWp.label ?_|(refine zaJ 0 rfl ?_)|refine AWp.skip ?_|refine AWp.exit ?_|(refine pk2 (fun h=>?_) (fun h=>?_)<;>(try first|exact h.elim|obtain rfl:(_:Bool)=_:=h))|refine zkm (fun h=>?_) ?_|refine zay hM (c0) ?_|(refine ze4 hM 4 ( c1) ?_ rfl ?_;(focus (simp -dsimp -implicitDefEqProofs (disch:=omega) only[go_sem,reduceIte,↓reduceIte,Nat.reduceEqDiff,Nat.reduceLT,Nat.reduceLeDiff,Nat.reduceAdd,Nat.reduceSub,Nat.reduceMul,Int.reduceToNat,Int.reduceLT,Int.reduceLE,Int.reduceEq,Int.reduceNeg,Int.reduceNe,reduceCtorEq,hfold,hlen0,hlen,hov,hbd0,hbd,hba,hgw,hwat]<;>fail)))|(refine hQ _ _ _ rfl ?_;clear hQ hR hE hM)|(refine hR _ _ (hQ _ _ _ rfl ?_);clear hQ hR hE hM)|(refine ob_mk ?_ ?_;focus first|omega|(refine zrU ?_;(refine wD ?_;try with_reducible exact wT);done)))<;>try simp -dsimp -implicitDefEqProofs (disch:=omega) only[go_sem,reduceIte,↓reduceIte,Nat.reduceEqDiff,Nat.reduceLT,Nat.reduceLeDiff,Nat.reduceAdd,Nat.reduceSub,Nat.reduceMul,Int.reduceToNat,Int.reduceLT,Int.reduceLE,Int.reduceEq,Int.reduceNeg,Int.reduceNe,reduceCtorEq,hfold,hlen0,hlen,hov,hbd0,hbd,hba,hgw,hwat]))
    refine AWp.midP [3,4,6,8] [(7,.n (zcU H (frT s) (w.path++w.over)))] (True) ?_ fun hmid=>?_
    ·(have hX:=zA @hfold (zA @hlen0 (zA @hlen (zA @hov (zA @hbd0 (zA @hbd @hba)))));(repeat' first|refine zaa [0,1,2,3,4,5,6,7,8,9,11,13,15,23,29,37,48,49,50,51,54,55,56,57,60,66,74,75,76,77,106,109] fun K hK=>?_|(refine hK.go ?_;clear hK K)|with_reducible exact wT|refine wA ?_|(refine wB (fun h=>?_) (fun h=>?_)<;>first|exact wN h|subst (h:(_:Bool)=_)|skip)|(refine zaJ 0 rfl ?_;try refine wD ?_)|(refine wQ ?_;clear hQ hR hE hM)|fail);all_goals clear hX)
     refine zam (ι:=Nat) [3,4,6,7,8,48,49,50] (fun z=>[(50,.n z)]) (fun _=>[]) (fun z=>z) (2) (fun z=>(zcU H (frT s) ((([w.path,w.over]:List (List Int)).drop z).flatten)=zcU H (frT s) (w.path++w.over))) (0) ?_;rintro k ⟨hk,hg0⟩;(try dsimp only at hk hg0 |-);rcases Nat.lt_or_ge k 2 with hlt|hge
     ·have hout:=hg0
      obtain rfl|rfl:k=0\/k=1:=by omega
      ·(repeat' first|refine zaa [0,1,2,3,4,5,6,7,8,9,11,13,15,23,29,37,48,49,50,51,54,55,56,57,60,66,74,75,76,77,106,109] fun K hK=>?_|(refine hK.go ?_;clear hK K)|with_reducible exact wT|refine wA ?_|(refine wB (fun h=>?_) (fun h=>?_)<;>first|exact wN h|subst (h:(_:Bool)=_)|skip)|(refine zaJ 0 rfl ?_;try refine wD ?_)|(refine wQ ?_;clear hQ hR hE hM)|fail)
       refine zam (ι:=Nat) [3,4,6,7,8,48,49,50,54,55,56] (fun z=>[(56,.n z)]) (fun _=>[]) (fun z=>z) (w.path.length) (fun z=>(zcU H (frT s) (w.path.drop z++w.over)=zcU H (frT s) (w.path++w.over))) (0) ?_;rintro j ⟨hk,hj⟩;(try dsimp only at hk hj |-);rcases Nat.lt_or_ge j w.path.length with hlt|hge
       ·have hx:=hsec (nth w.path j) (List.mem_append_left _ (zab hlt))
        rw[zaf hlt,List.cons_append,zcU]at hj
        by_cases h1:nth H (nth w.path j).toNat=0
        ·rw[if_pos h1]at hj
         have c3:=hfr (nth w.path j)
         cases hf:frT s (nth w.path j) with
         |true =>
          rw[if_pos hf]at hj
          rw[hf]at c3
          (have hX:=zA @hlen (zA @hbd (zA @hba (zA @hg1 @h1)));(repeat' first|refine zaa [0,1,2,3,4,5,6,7,8,9,11,13,15,23,29,37,48,49,50,51,54,55,56,57,60,66,74,75,76,77,106,109] fun K hK=>?_|(refine hK.go ?_;clear hK K)|with_reducible exact wT|refine wA ?_|(refine wB (fun h=>?_) (fun h=>?_)<;>first|exact wN h|subst (h:(_:Bool)=_)|skip)|(refine zaJ 0 rfl ?_;try refine wD ?_)|(refine wQ ?_;clear hQ hR hE hM)|refine wC c3 ?_|fail);all_goals clear hX)
          all_goals first|(exfalso;contradiction)|exact ⟨j+1,by omega,⟨by omega,hj⟩,by omega⟩
         |false =>
          rw[if_neg (by rw[hf];simp)]at hj
          rw[hf]at c3
          (have hX:=zA @hlen (zA @hbd (zA @hba (zA @hg1 @h1)));(repeat' first|refine zaa [0,1,2,3,4,5,6,7,8,9,11,13,15,23,29,37,48,49,50,51,54,55,56,57,60,66,74,75,76,77,106,109] fun K hK=>?_|(refine hK.go ?_;clear hK K)|with_reducible exact wT|refine wA ?_|(refine wB (fun h=>?_) (fun h=>?_)<;>first|exact wN h|subst (h:(_:Bool)=_)|skip)|(refine zaJ 0 rfl ?_;try refine wD ?_)|(refine wQ ?_;clear hQ hR hE hM)|refine wC c3 ?_|fail);all_goals clear hX)
          all_goals first|exact hj|(exfalso;contradiction)
        ·rw[if_neg h1]at hj
         (have hX:=zA @hlen (zA @hbd (zA @hba @hg1));(repeat' first|refine zaa [0,1,2,3,4,5,6,7,8,9,11,13,15,23,29,37,48,49,50,51,54,55,56,57,60,66,74,75,76,77,106,109] fun K hK=>?_|(refine hK.go ?_;clear hK K)|with_reducible exact wT|refine wA ?_|(refine wB (fun h=>?_) (fun h=>?_)<;>first|exact wN h|subst (h:(_:Bool)=_)|skip)|(refine zaJ 0 rfl ?_;try refine wD ?_)|(refine wQ ?_;clear hQ hR hE hM)|fail);all_goals clear hX)
         all_goals first|exact hj|(exfalso;contradiction)
       ·rw[List.drop_eq_nil_of_le hge]at hj
        (repeat' first|refine zaa [0,1,2,3,4,5,6,7,8,9,11,13,15,23,29,37,48,49,50,51,54,55,56,57,60,66,74,75,76,77,106,109] fun K hK=>?_|(refine hK.go ?_;clear hK K)|with_reducible exact wT|refine wA ?_|(refine wB (fun h=>?_) (fun h=>?_)<;>first|exact wN h|subst (h:(_:Bool)=_)|skip)|(refine zaJ 0 rfl ?_;try refine wD ?_)|(refine wQ ?_;clear hQ hR hE hM)|fail)
        exact ⟨1,by omega,⟨by omega,by simpa using hj⟩,rfl⟩
      ·replace hout:zcU H (frT s) (w.over.drop 0)=zcU H (frT s) (w.path++w.over):=by simpa using hout
       (repeat' first|refine zaa [0,1,2,3,4,5,6,7,8,9,11,13,15,23,29,37,48,49,50,51,54,55,56,57,60,66,74,75,76,77,106,109] fun K hK=>?_|(refine hK.go ?_;clear hK K)|with_reducible exact wT|refine wA ?_|(refine wB (fun h=>?_) (fun h=>?_)<;>first|exact wN h|subst (h:(_:Bool)=_)|skip)|(refine zaJ 0 rfl ?_;try refine wD ?_)|(refine wQ ?_;clear hQ hR hE hM)|fail)
       refine zam (ι:=Nat) [3,4,6,7,8,48,49,50,54,55,56] (fun z=>[(56,.n z)]) (fun _=>[]) (fun z=>z) (w.over.length) (fun z=>(zcU H (frT s) (w.over.drop z)=zcU H (frT s) (w.path++w.over))) (0) ?_;rintro j ⟨hk,hj⟩;(try dsimp only at hk hj |-);rcases Nat.lt_or_ge j w.over.length with hlt|hge
       ·have hx:=hsec (nth w.over j) (List.mem_append_right _ (zab hlt))
        rw[zaf hlt,zcU]at hj
        by_cases h1:nth H (nth w.over j).toNat=0
        ·rw[if_pos h1]at hj
         have c3:=hfr (nth w.over j)
         cases hf:frT s (nth w.over j) with
         |true =>
          rw[if_pos hf]at hj
          rw[hf]at c3
          (have hX:=zA @hlen (zA @hbd (zA @hba (zA @hg1 @h1)));(repeat' first|refine zaa [0,1,2,3,4,5,6,7,8,9,11,13,15,23,29,37,48,49,50,51,54,55,56,57,60,66,74,75,76,77,106,109] fun K hK=>?_|(refine hK.go ?_;clear hK K)|with_reducible exact wT|refine wA ?_|(refine wB (fun h=>?_) (fun h=>?_)<;>first|exact wN h|subst (h:(_:Bool)=_)|skip)|(refine zaJ 0 rfl ?_;try refine wD ?_)|(refine wQ ?_;clear hQ hR hE hM)|refine wC c3 ?_|fail);all_goals clear hX)
          all_goals first|(exfalso;contradiction)|exact ⟨j+1,by omega,⟨by omega,hj⟩,by omega⟩
         |false =>
          rw[if_neg (by rw[hf];simp)]at hj
          rw[hf]at c3
          (have hX:=zA @hlen (zA @hbd (zA @hba (zA @hg1 @h1)));(repeat' first|refine zaa [0,1,2,3,4,5,6,7,8,9,11,13,15,23,29,37,48,49,50,51,54,55,56,57,60,66,74,75,76,77,106,109] fun K hK=>?_|(refine hK.go ?_;clear hK K)|with_reducible exact wT|refine wA ?_|(refine wB (fun h=>?_) (fun h=>?_)<;>first|exact wN h|subst (h:(_:Bool)=_)|skip)|(refine zaJ 0 rfl ?_;try refine wD ?_)|(refine wQ ?_;clear hQ hR hE hM)|refine wC c3 ?_|fail);all_goals clear hX)
          all_goals first|exact hj|(exfalso;contradiction)
        ·rw[if_neg h1]at hj
         (have hX:=zA @hlen (zA @hbd (zA @hba @hg1));(repeat' first|refine zaa [0,1,2,3,4,5,6,7,8,9,11,13,15,23,29,37,48,49,50,51,54,55,56,57,60,66,74,75,76,77,106,109] fun K hK=>?_|(refine hK.go ?_;clear hK K)|with_reducible exact wT|refine wA ?_|(refine wB (fun h=>?_) (fun h=>?_)<;>first|exact wN h|subst (h:(_:Bool)=_)|skip)|(refine zaJ 0 rfl ?_;try refine wD ?_)|(refine wQ ?_;clear hQ hR hE hM)|fail);all_goals clear hX)
         all_goals first|exact hj|(exfalso;contradiction)
       ·rw[List.drop_eq_nil_of_le hge]at hj
        (repeat' first|refine zaa [0,1,2,3,4,5,6,7,8,9,11,13,15,23,29,37,48,49,50,51,54,55,56,57,60,66,74,75,76,77,106,109] fun K hK=>?_|(refine hK.go ?_;clear hK K)|with_reducible exact wT|refine wA ?_|(refine wB (fun h=>?_) (fun h=>?_)<;>first|exact wN h|subst (h:(_:Bool)=_)|skip)|(refine zaJ 0 rfl ?_;try refine wD ?_)|(refine wQ ?_;clear hQ hR hE hM)|fail)
        exact ⟨2,by omega,⟨by omega,by simpa using hj⟩,rfl⟩
     ·obtain rfl:k=2:=by omega
      (repeat' first|refine zaa [0,1,2,3,4,5,6,7,8,9,11,13,15,23,29,37,48,49,50,51,54,55,56,57,60,66,74,75,76,77,106,109] fun K hK=>?_|(refine hK.go ?_;clear hK K)|with_reducible exact wT|refine wA ?_|(refine wB (fun h=>?_) (fun h=>?_)<;>first|exact wN h|subst (h:(_:Bool)=_)|skip)|(refine zaJ 0 rfl ?_;try refine wD ?_)|(refine wQ ?_;clear hQ hR hE hM)|fail)
      all_goals first|exact hg0|(simpa using hg0)
    ·(have hX:=zA @hlen (zA @hbd @hba);(repeat' first|refine zaa [0,1,2,3,4,5,6,7,8,9,11,13,15,23,29,37,48,49,50,51,54,55,56,57,60,66,74,75,76,77,106,109] fun K hK=>?_|(refine hK.go ?_;clear hK K)|with_reducible exact wT|refine wA ?_|(refine wB (fun h=>?_) (fun h=>?_)<;>first|exact wN h|subst (h:(_:Bool)=_)|skip)|(refine zaJ 0 rfl ?_;try refine wD ?_)|(refine wQ ?_;clear hQ hR hE hM)|fail);all_goals clear hX)
     refine zam (ι:=Nat×Int) [3,4,6,7,8,74,75,76] (fun z=>[(7,.n z.2),(76,.n z.1)]) (fun _=>[]) (fun z=>z.1) (w.asks.length) (fun z=>(zrN ok z.2 (w.asks.drop z.1)=zrN ok (zcU H (frT s) (w.path++w.over)) w.asks)) (0,(zcU H (frT s) (w.path++w.over))) ?_;rintro ⟨k,e⟩ ⟨hk,hq⟩;(try dsimp only at hk hq |-);rcases Nat.lt_or_ge k w.asks.length with hlt|hge
     ·obtain ⟨ha1,ha2,⟨j,hj,d1,hcall⟩,d2⟩:=hask k hlt
      have d3:=hfr (zcw p (nth w.asks k).pnt)
      have hok3:=hok2 (nth w.asks k)
      rw[zaf hlt,zrN]at hq
      by_cases he:e=0
      ·subst he
       rw[if_pos rfl]at hq
       by_cases h1:za9 s (nth w.asks k).pnt=(nth w.asks k).lie
       ·rw[hok3,decide_eq_true h1,Bool.true_or,if_pos rfl]at hq
        have h2:decide ((nth s.switches j).call=(nth w.asks k).lie)=true:=decide_eq_true (hcall.trans h1)
        (have hX:=zA @hlen (zA @hbd (zA @hba (zA @hg2 @h2)));(repeat' first|refine zaa [0,1,2,3,4,5,6,7,8,9,11,13,15,23,29,37,48,49,50,51,54,55,56,57,60,66,74,75,76,77,106,109] fun K hK=>?_|(refine hK.go ?_;clear hK K)|with_reducible exact wT|refine wA ?_|(refine wB (fun h=>?_) (fun h=>?_)<;>first|exact wN h|subst (h:(_:Bool)=_)|skip)|(refine zaJ 0 rfl ?_;try refine wD ?_)|(refine wQ ?_;clear hQ hR hE hM)|refine wC d1 ?_|refine wC d2 ?_|refine wC d3 ?_|fail);all_goals clear hX)
        all_goals first|(exfalso;contradiction)|exact ⟨(k+1,0),by dsimp only;omega,⟨by dsimp only;omega,hq⟩,rfl,by dsimp only;omega⟩
       ·have h2:decide ((nth s.switches j).call=(nth w.asks k).lie)=false:=decide_eq_false (fun e=>h1 (hcall.symm.trans e))
        rw[hok3,decide_eq_false h1,Bool.false_or]at hq
        by_cases h3:nth A (nth w.asks k).pnt.toNat=0
        ·rw[decide_eq_true h3,Bool.true_and]at hq
         cases hf:frT s (zcw p (nth w.asks k).pnt) with
         |true =>
          rw[if_pos hf]at hq
          rw[hf]at d3
          (have hX:=zA @hlen (zA @hbd (zA @hba (zA @hg2 (zA @h2 @h3))));(repeat' first|refine zaa [0,1,2,3,4,5,6,7,8,9,11,13,15,23,29,37,48,49,50,51,54,55,56,57,60,66,74,75,76,77,106,109] fun K hK=>?_|(refine hK.go ?_;clear hK K)|with_reducible exact wT|refine wA ?_|(refine wB (fun h=>?_) (fun h=>?_)<;>first|exact wN h|subst (h:(_:Bool)=_)|skip)|(refine zaJ 0 rfl ?_;try refine wD ?_)|(refine wQ ?_;clear hQ hR hE hM)|refine wC d1 ?_|refine wC d2 ?_|refine wC d3 ?_|fail);all_goals clear hX)
          all_goals first|(exfalso;contradiction)|exact ⟨(k+1,0),by dsimp only;omega,⟨by dsimp only;omega,hq⟩,rfl,by dsimp only;omega⟩
         |false =>
          rw[if_neg (by rw[hf];simp)]at hq
          rw[hf]at d3
          (have hX:=zA @hlen (zA @hbd (zA @hba (zA @hg2 (zA @h2 @h3))));(repeat' first|refine zaa [0,1,2,3,4,5,6,7,8,9,11,13,15,23,29,37,48,49,50,51,54,55,56,57,60,66,74,75,76,77,106,109] fun K hK=>?_|(refine hK.go ?_;clear hK K)|with_reducible exact wT|refine wA ?_|(refine wB (fun h=>?_) (fun h=>?_)<;>first|exact wN h|subst (h:(_:Bool)=_)|skip)|(refine zaJ 0 rfl ?_;try refine wD ?_)|(refine wQ ?_;clear hQ hR hE hM)|refine wC d1 ?_|refine wC d2 ?_|refine wC d3 ?_|fail);all_goals clear hX)
          all_goals first|(exfalso;contradiction)|exact ⟨(k+1,183),by dsimp only;omega,⟨by dsimp only;omega,hq⟩,rfl,by dsimp only;omega⟩
        ·rw[decide_eq_false h3,Bool.false_and,if_neg (by simp)]at hq
         have h4:decide (nth A (nth w.asks k).pnt.toNat=0)=false:=decide_eq_false h3
         (have hX:=zA @hlen (zA @hbd (zA @hba (zA @hg2 (zA @h2 @h4))));(repeat' first|refine zaa [0,1,2,3,4,5,6,7,8,9,11,13,15,23,29,37,48,49,50,51,54,55,56,57,60,66,74,75,76,77,106,109] fun K hK=>?_|(refine hK.go ?_;clear hK K)|with_reducible exact wT|refine wA ?_|(refine wB (fun h=>?_) (fun h=>?_)<;>first|exact wN h|subst (h:(_:Bool)=_)|skip)|(refine zaJ 0 rfl ?_;try refine wD ?_)|(refine wQ ?_;clear hQ hR hE hM)|refine wC d1 ?_|refine wC d2 ?_|refine wC d3 ?_|fail);all_goals clear hX)
         all_goals first|(exfalso;contradiction)|exact ⟨(k+1,183),by dsimp only;omega,⟨by dsimp only;omega,hq⟩,rfl,by dsimp only;omega⟩
      ·rw[if_neg he]at hq
       have hed:decide (e=0)=false:=decide_eq_false he
       (have hX:=zA @hlen (zA @hbd (zA @hba @hed));(repeat' first|refine zaa [0,1,2,3,4,5,6,7,8,9,11,13,15,23,29,37,48,49,50,51,54,55,56,57,60,66,74,75,76,77,106,109] fun K hK=>?_|(refine hK.go ?_;clear hK K)|with_reducible exact wT|refine wA ?_|(refine wB (fun h=>?_) (fun h=>?_)<;>first|exact wN h|subst (h:(_:Bool)=_)|skip)|(refine zaJ 0 rfl ?_;try refine wD ?_)|(refine wQ ?_;clear hQ hR hE hM)|fail);all_goals clear hX)
       all_goals first|(exfalso;contradiction)|exact ⟨(k+1,e),by dsimp only;omega,⟨by dsimp only;omega,hq⟩,rfl,by dsimp only;omega⟩
     ·rw[List.drop_eq_nil_of_le hge,zrN]at hq
      (repeat' first|refine zaa [0,1,2,3,4,5,6,7,8,9,11,13,15,23,29,37,48,49,50,51,54,55,56,57,60,66,74,75,76,77,106,109] fun K hK=>?_|(refine hK.go ?_;clear hK K)|with_reducible exact wT|refine wA ?_|(refine wB (fun h=>?_) (fun h=>?_)<;>first|exact wN h|subst (h:(_:Bool)=_)|skip)|(refine zaJ 0 rfl ?_;try refine wD ?_)|(refine wQ ?_;clear hQ hR hE hM)|fail)
      all_goals first|exact hq|rw[hq]|skip
   ·rw[if_neg hph,if_neg hph]
    refine PC.fn hH cd171 fun w0 M Q hM hE hQ hR=>?_;dsimp only[cd171,qm,ql,qf,qi,qb,qc,qp,qv,qN,qT,qF,qt]at hQ |-
    (have hX:=zA @hfold (zA @hlen0 (zA @hlen (zA @hov (zA @hbd0 (zA @hbd @hba)))));(repeat' first|refine zaa [0,1,2,3,4,5,6,7,8,9,11,13,15,23,29,37,48,49,50,51,54,55,56,57,60,66,74,75,76,77,106,109] fun K hK=>?_|(refine hK.go ?_;clear hK K)|with_reducible exact wT|refine wA ?_|(refine wB (fun h=>?_) (fun h=>?_)<;>first|exact wN h|subst (h:(_:Bool)=_)|skip)|(refine zaJ 0 rfl ?_;try refine wD ?_)|(refine wQ ?_;clear hQ hR hE hM)|refine wC c0 ?_|refine wS c1 ?_|fail);all_goals clear hX)
    all_goals first|rfl|(exfalso;contradiction)|skip
 ·rw[show lkW p s n=WayR.z by unfold lkW;rw[if_neg hst],show lkC p s n=zad p s by unfold lkC;rw[if_neg hst]]
  rw[<-hRe]at hst |-
  revert c0 hRl hst
  generalize ofR p s=R
  obtain ⟨G,Z,hg⟩:=GC.ex
  rw[<-hg.eq]
  intro c0 hRl hst
  have hfold:=hg.fold
  have hlen0:=hg.len (.s0 4) hg.zl hg.zl
  have hlen:=hg.len (.sl 4 (R.ways.map Way.c)) hRl.1 hRl.2
  have hov:=hg.ov (.s0 4) (.sl 4 (R.ways.map Way.c)) hg.zl hg.zl hRl.1 hRl.2
  have hbd0:=hg.bd0 Z Z
  have hbd:=hg.bd R.hold R.ask (R.ways.map Way.c)
  have hba:=hg.ba R.hold R.ask (R.ways.map Way.c)
  refine PC.fn hH cd171 fun w0 M Q hM hE hQ hR=>?_;dsimp only[cd171,qm,ql,qf,qi,qb,qc,qp,qv,qN,qT,qF,qt]at hQ |-
  (have hX:=zA @hfold (zA @hlen0 (zA @hlen (zA @hov (zA @hbd0 (zA @hbd @hba)))));(repeat' first|refine zaa [0,1,2,3,4,5,6,7,8,9,11,13,15,23,29,37,48,49,50,51,54,55,56,57,60,66,74,75,76,77,106,109] fun K hK=>?_|(refine hK.go ?_;clear hK K)|with_reducible exact wT|refine wA ?_|(refine wB (fun h=>?_) (fun h=>?_)<;>first|exact wN h|subst (h:(_:Bool)=_)|skip)|(refine zaJ 0 rfl ?_;try refine wD ?_)|(refine wQ ?_;clear hQ hR hE hM)|refine wC c0 ?_|refine wS c1 ?_|fail);all_goals clear hX)
  all_goals first|rfl|(exfalso;contradiction)|skip
def zaZ (q:List AskR) (l:List Switch):List Switch:=q.foldl (fun l a=>zdU Switch.id a.pnt (fun t=>⟨t.id,t.lie,a.lie⟩) l) l
theorem ze0 (q:List AskR):∀ l:List Switch,(zaZ q l).map Switch.id=l.map Switch.id:=by
 induction q with
 |nil=>intro l;rfl
 |cons a q ih=>intro l;show (zaZ q _).map Switch.id=_;rw[ih,zjN Switch.id a.pnt (fun t=>⟨t.id,t.lie,a.lie⟩) (fun _=>rfl)]
theorem zb0 (q:List AskR) (l:List Switch):(zaZ q l).length=l.length:=by
 have:=congrArg List.length (ze0 q l)
 simpa using this
theorem ziI (q:List AskR) (a:AskR) (l:List Switch):zaZ (q++[a]) l=zdU Switch.id a.pnt (fun t=>⟨t.id,t.lie,a.lie⟩) (zaZ q l):=by unfold zaZ;rw[List.foldl_append];rfl
theorem zo6 (l:List Switch):zaZ [] l=l:=rfl
attribute [go_sem] zo6
theorem fget0 {α:Type} {c:α->List AV} {sz:Nat} [Cells c sz] [Inhabited α] {l:List α} {k:Nat} (hk:k<l.length) (hs:0<sz):(l.map c).flatten[k*sz]?=(c (nth l k))[0]?:=by simpa using zf5 (c:=c) (i:=0) hk hs
def zft (s:State) (n:Int) (q:List AskR):State:=⟨s.tracks,zaZ q s.switches,zdU Lock.id n (fun l=>⟨l.id,1,l.gone,l.left⟩) s.locks⟩
def zpk (n:Int) (_:Nat) (l:Lock):Lock:=if l.id=n then ⟨l.id,1,l.gone,l.left⟩ else l
theorem k1At_all (n:Int) (l:List Lock):l.mapIdx (zpk n)=zdU Lock.id n (fun l=>⟨l.id,1,l.gone,l.left⟩) l:=by
 refine List.ext_getElem (by simp[zdU]) fun i h1 h2=>?_
 simp only[List.getElem_mapIdx,zdU,List.getElem_map]
 rfl
theorem zoT (hH:HasAll P inv) (hI:HasIds P inv) (p:Pln) (hp:Sm p) (s:State) (hs:SmS s) (n:Int) (he:lkC p s n=0):PO P inv 156 [.agg p.c,.agg s.c,.n n] (.tup [zdD 6 (zft s n (lkW p s n).asks),.n 0]) (zdE 6 (zft s n (lkW p s n).asks)):=by
 have c0:=zjp hH hI p hp s hs n
 rw[he]at c0
 have c1:=zb6 hH s hs
 have hst:zad p s=0:=by
  unfold lkC at he
  split at he
  ·assumption
  ·rename_i h;exact absurd he h
 have hok:=zai hst
 have hpa:=(zac hst).2.1
 have hpl:=zak hpa
 have hwl:(lkW p s n).asks.length<=1000/\∀ a∈(lkW p s n).asks,zc7 p a.pnt=true:=by
  unfold lkW
  rw[if_pos hst]
  rcases zat Lock.id n s.locks with ⟨h4,_⟩|⟨i,hi,h4,h5⟩
  ·rw[show zeR s n=-1 from h4,if_pos (by decide)]
   exact ⟨by simp[WayR.z],fun a ha=>by simp[WayR.z]at ha⟩
  ·rw[show zeR s n=(i:Int) from h4,if_neg (by omega),Int.toNat_natCast]
   split
   ·refine ⟨(zbf hok (zab (by omega))).1,fun a ha=>?_⟩
    obtain ⟨⟨x,hx,ex⟩,_⟩:=zbC hok (zab (show i<p.routes.length by omega)) ha
    exact List.any_eq_true.2 ⟨x,hx,by simpa using ex⟩
   ·exact ⟨by simp[WayR.z],fun a ha=>by simp[WayR.z]at ha⟩
 generalize lkW p s n=w at *
 have hno:(s.switches.map Switch.id).Nodup:=by rw[zcl hpa];exact zbI hok
 obtain ⟨h1,h2,h3⟩:=hs
 have hix:∀ (q:List AskR) (k:Nat),k<w.asks.length->∃ j,j<s.switches.length/\za3 (fun x=>decide (Switch.id x=(nth w.asks k).pnt)) 0 (zaZ q s.switches)=(j:Int)/\(nth (zaZ q s.switches) j).id=(nth w.asks k).pnt:=fun q k hk=>by
  obtain ⟨y,hy,ey⟩:=zpw hpa (hwl.2 _ (zab hk))
  have hm:(nth w.asks k).pnt∈(zaZ q s.switches).map Switch.id:=by rw[ze0,<-ey];exact List.mem_map_of_mem hy
  obtain ⟨z,hz,ez⟩:=List.mem_map.1 hm
  rcases zat Switch.id (nth w.asks k).pnt (zaZ q s.switches) with ⟨_,r⟩|⟨j,hj,q1,q2⟩
  ·exact absurd ez (r z hz)
  ·exact ⟨j,by rw[zb0]at hj;exact hj,q1,q2⟩
 clear hst hok hpa hpl he
 unfold stV stR at c1
 refine PO.fn hH cd156 fun w0 M Q hM hE hQ hR=>?_;dsimp only[cd156,qm,ql,qf,qi,qb,qc,qN,qt]at hQ |-
 skip
 (repeat' first|refine zaa [0,1,2,3,4,5,6,7,8,9,11,12,21,27,28,29,30,43,44,45,54] fun K hK=>?_|(refine hK.go ?_;clear hK K)|with_reducible exact wT|refine wA ?_|(refine wB (fun h=>?_) (fun h=>?_)<;>first|exact wN h|subst (h:(_:Bool)=_)|skip)|(refine wQ ?_;clear hQ hR)|refine wC c0 ?_|refine wO c1 ?_|fail)
 have hcl:=fun q=>zb0 q s.switches
 refine zam (ι:=Nat) [2,4,6,7,27,28,29] (fun z=>[(29,.n z)]) (fun z=>[(7,.cells ((zaZ (w.asks.take z) s.switches).map Switch.c).flatten (decide (0<s.switches.length)))]) (fun z=>z) (w.asks.length) (fun _=>True) (0) ?_;rintro k ⟨hk,-⟩;(try dsimp only at hk |-);rcases Nat.lt_or_ge k w.asks.length with hlt|hge
 ·obtain ⟨j,hj,q1,q2⟩:=hix (w.asks.take k) k hlt
  have c2:=zil hH (zaZ (w.asks.take k) s.switches) (fun x _=>znT hH (nth w.asks k).pnt x) (by rw[hcl];omega)
  rw[q1]at c2
  have hno2:((zaZ (w.asks.take k) s.switches).map Switch.id).Nodup:=by rw[ze0];exact hno
  have e1:=zcL Switch.id (nth w.asks k).pnt (fun t=>(⟨t.id,t.lie,(nth w.asks k).lie⟩:Switch)) hno2 (by rw[hcl];exact hj) q2
  rw[<-ziI,zhA hlt]at e1
  have e2:=zbS (c:=Switch.c) (l:=zaZ (w.asks.take k) s.switches) (k:=j) (i:=2) (by rw[hcl];exact hj) (by omega) (.i .i64 (nth w.asks k).lie) (⟨(nth (zaZ (w.asks.take k) s.switches) j).id,(nth (zaZ (w.asks.take k) s.switches) j).lie,(nth w.asks k).lie⟩:Switch) rfl
  rw[e1]at e2
  have e3:=zcI (c:=Switch.c) (zaZ (w.asks.take k) s.switches)
  rw[hcl]at e3
  have e4:=hcl (w.asks.take k)
  (have hX:=zA @e2 (zA @e3 @e4);(repeat' first|refine zaa [0,1,2,3,4,5,6,7,8,9,11,12,21,27,28,29,30,43,44,45,54] fun K hK=>?_|(refine hK.go ?_;clear hK K)|with_reducible exact wT|refine wA ?_|(refine wB (fun h=>?_) (fun h=>?_)<;>first|exact wN h|subst (h:(_:Bool)=_)|skip)|(refine wQ ?_;clear hQ hR)|(refine AC.callK 30 (by omega) (by first|omega|exact wF|((refine wD ?_;try with_reducible exact wT);omega)) (zao (F:=cd172) (hH.has _ _ rfl) (Nat.le_of_ble_eq_true rfl) fun Q hQ hR=>?_);dsimp only[cd172,qm,ql,qf,qi,qN,qt]at hQ |-;try refine wD ?_)|refine wS c2 ?_|fail);all_goals clear hX)
  all_goals first|exact ⟨k+1,by omega,by omega,by omega,rfl⟩
  all_goals sorry
 ·rw[List.take_of_length_le hge]
  (repeat' first|refine zaa [0,1,2,3,4,5,6,7,8,9,11,12,21,27,28,29,30,43,44,45,54] fun K hK=>?_|(refine hK.go ?_;clear hK K)|with_reducible exact wT|refine wA ?_|(refine wB (fun h=>?_) (fun h=>?_)<;>first|exact wN h|subst (h:(_:Bool)=_)|skip)|(refine wQ ?_;clear hQ hR)|fail)
  refine zam (ι:=Nat) [2,4,6,7,43,44] (fun z=>[(44,.n z)]) (fun z=>[(8,.cells ((zdT (zpk n) z s.locks).map Lock.c).flatten (decide (0<s.locks.length)))]) (fun z=>z) (s.locks.length) (fun _=>True) (0) ?_;rintro k2 ⟨hk,-⟩;(try dsimp only at hk |-);rcases Nat.lt_or_ge k2 s.locks.length with hlt|hge
  ·have e1:=zeC (zpk n) (l:=s.locks) (k:=k2) (by assumption)
   have hg:=fget0 (c:=Lock.c) (l:=zdT (zpk n) k2 s.locks) (k:=k2) (by rw[zbX];assumption) (by omega)
   rw[zdm _ (by assumption)]at hg
   by_cases hid:(nth s.locks k2).id=n
   ·have e2:=zbS (c:=Lock.c) (l:=zdT (zpk n) k2 s.locks) (k:=k2) (i:=1) (by rw[zbX];assumption) (by omega) (.i .u8 1) (zpk n k2 (nth s.locks k2)) (by rw[zdm _ (by assumption)];unfold zpk;rw[if_pos hid];rfl)
    rw[e1]at e2
    (have hX:=zA @hg @e2;(repeat' first|refine zaa [0,1,2,3,4,5,6,7,8,9,11,12,21,27,28,29,30,43,44,45,54] fun K hK=>?_|(refine hK.go ?_;clear hK K)|with_reducible exact wT|refine wA ?_|(refine wB (fun h=>?_) (fun h=>?_)<;>first|exact wN h|subst (h:(_:Bool)=_)|skip)|(refine wQ ?_;clear hQ hR)|fail);all_goals clear hX)
    all_goals first|(exfalso;contradiction)|exact ⟨k2+1,by omega,by omega,by omega,rfl⟩
   ·rw[show zpk n k2 (nth s.locks k2)=nth (zdT (zpk n) k2 s.locks) k2 by rw[zdm _ (by assumption)];unfold zpk;rw[if_neg hid]]at e1
    have e3:zdT (zpk n) k2 s.locks=zdT (zpk n) (k2+1) s.locks:=by
     rw[<-e1,zaK (by rw[zbX];assumption),List.set_getElem_self]
    (have hX:=@hg;(repeat' first|refine zaa [0,1,2,3,4,5,6,7,8,9,11,12,21,27,28,29,30,43,44,45,54] fun K hK=>?_|(refine hK.go ?_;clear hK K)|with_reducible exact wT|refine wA ?_|(refine wB (fun h=>?_) (fun h=>?_)<;>first|exact wN h|subst (h:(_:Bool)=_)|skip)|(refine wQ ?_;clear hQ hR)|fail);all_goals clear hX)
    all_goals first|(exfalso;contradiction)|exact ⟨k2+1,by omega,by omega,by omega,by rw[<-e3]⟩
  ·rw[zfx _ (by assumption),k1At_all]
   (repeat' first|refine zaa [0,1,2,3,4,5,6,7,8,9,11,12,21,27,28,29,30,43,44,45,54] fun K hK=>?_|(refine hK.go ?_;clear hK K)|with_reducible exact wT|refine wA ?_|(refine wB (fun h=>?_) (fun h=>?_)<;>first|exact wN h|subst (h:(_:Bool)=_)|skip)|(refine wQ ?_;clear hQ hR)|fail)
   all_goals (left;unfold zdD zdE zft;dsimp only;rw[zb0,za1];constructor)
   all_goals (refine wD ?_;try with_reducible exact wT)
end Go.Lev
