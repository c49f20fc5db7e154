/-
  A part of the engine that walks the functions' codes, and of the functions' contracts. Conditions: those that each theorem names.
-/
import Derived.Test.YtibpmipffibbpaaGreatV10
import Derived.IntWalk
set_option linter.unusedSimpArgs false
set_option linter.unusedVariables false
set_option linter.unusedSectionVars false
namespace Go.Lev
open Go.Eng
set_option maxRecDepth 10000
set_option maxHeartbeats 4000000
variable {P:Program} {inv:Nat->Option Nat} {w0:World} {M:Nat->Prop}
theorem trk_ix (hH:HasAll P inv) {p:Pln} (hp:Sm p) {s:State} (hst:zad p s=0) (n:Int):(¬zi2 s n/\PC P inv 293 [.agg p.c,.n n] (·=.n (-1)))\/∃ k:Nat,k<p.sections.length/\k<s.tracks.length/\(nth s.tracks k).id=n/\zi2 s n/\PC P inv 293 [.agg p.c,.n n] (·=.n k):=by
 have hpa:=(zac hst).2.1
 have hpl:=zak hpa
 have c1:=znw hH p (by have:=hp.sec;omega) n
 have hids:=zff hpa
 rcases zat Section.id n p.sections with ⟨h4,h5⟩|⟨k,hk,h4,h5⟩
 ·rw[h4]at c1
  refine .inl ⟨?_,c1⟩
  rintro ⟨t,ht,e⟩
  have h1:t.id∈s.tracks.map Track.id:=List.mem_map_of_mem ht
  rw[hids]at h1
  obtain ⟨x,hx,ex⟩:=List.mem_map.1 h1
  exact h5 x hx (ex.trans e)
 ·rw[h4]at c1
  have hks:k<s.tracks.length:=by omega
  have h1:=(zbH _ _ _).1 (by simp only[zaj,Bool.and_eq_true]at hpa;exact hpa.1)
  have h2:=h1.2 k hks
  simp only[ze6,Bool.and_eq_true,decide_eq_true_eq]at h2
  have h3:(nth s.tracks k).id=n:=h2.1.trans h5
  exact .inr ⟨k,hk,hks,h3,⟨_,zab hks,h3⟩,c1⟩
theorem swt_ix (hH:HasAll P inv) {p:Pln} (hp:Sm p) {s:State} (hst:zad p s=0) (n:Int):(¬zi3 s n/\PC P inv 294 [.agg p.c,.n n] (·=.n (-1)))\/∃ k:Nat,k<p.points.length/\k<s.switches.length/\(nth s.switches k).id=n/\zi3 s n/\PC P inv 294 [.agg p.c,.n n] (·=.n k):=by
 have hpa:=(zac hst).2.1
 have hpl:=zak hpa
 have c1:=zeL hH p (by have:=hp.pts;omega) n
 have hids:=zcl hpa
 rcases zat Pnt.id n p.points with ⟨h4,h5⟩|⟨k,hk,h4,h5⟩
 ·rw[h4]at c1
  refine .inl ⟨?_,c1⟩
  rintro ⟨t,ht,e⟩
  have h1:t.id∈s.switches.map Switch.id:=List.mem_map_of_mem ht
  rw[hids]at h1
  obtain ⟨x,hx,ex⟩:=List.mem_map.1 h1
  exact h5 x hx (ex.trans e)
 ·rw[h4]at c1
  have hks:k<s.switches.length:=by omega
  have h3:(nth s.switches k).id=n:=(zjT hpa hks).trans h5
  exact .inr ⟨k,hk,hks,h3,⟨_,zab hks,h3⟩,c1⟩
theorem sec16_pc (hH:HasAll P inv) (p:Pln) (hp:Sm p) (s:State) (hs:SmS s) (n v:Int):PC P inv 285 [.agg p.c,.agg s.c,.n n,.n v] (·=.tup [.agg (secR p s n v).c,.n (zbj p s n v)]):=by
 have c0:=zbm hH p hp s hs
 have hl1:=hs.1
 by_cases hst:zad p s=0
 ·rw[hst]at c0
  rcases trk_ix hH hp hst n with ⟨hno,c1⟩|⟨k,hk,hks,hid,hyes,c1⟩
  ·have e:zbj p s n v=6:=by unfold zbj;rw[if_pos hst,if_neg hno]
   unfold secR
   rw[e,if_neg (by decide)]
   refine PC.fn hH cd285 fun w0 M Q hM hE hQ hR=>?_;dsimp only[cd285,qm,ql,qf,qi,qc,qp,qN,qT,qt]at hQ |-
   (repeat' first|refine zaa [0,1,2,3,4,5,8,9,10,11,16,23,30] fun K hK=>?_|(refine hK.go ?_;clear hK K)|with_reducible exact wT|refine wA ?_|(refine wB (fun h=>?_) (fun h=>?_)<;>first|exact wN h|subst (h:(_:Bool)=_)|skip)|(refine wQ ?_;clear hQ hR hE hM)|refine wC c0 ?_|refine wC c1 ?_|fail)
   all_goals first|rfl|(exfalso;contradiction)
  ·by_cases hv:v=0\/v=1
   ·have e:zbj p s n v=0:=by unfold zbj;rw[if_pos hst,if_pos hyes,if_pos hv]
    suffices h:PO P inv 285 [.agg p.c,.agg s.c,.n n,.n v] (.tup [zdD 5 (znt s n v),.n 0]) (zdE 5 (znt s n v)) by
     have:=h.pc
     rw[zbi]at this
     unfold secR
     rw[e,if_pos rfl]
     exact this
    have c3:=zdf hH s hs
    have hno:(s.tracks.map Track.id).Nodup:=by rw[zff (zac hst).2.1];exact zer (zai hst)
    have e1:=zcL Track.id n (fun t=>(⟨t.id,v⟩:Track)) hno hks hid
    have e2:=zbS (c:=Track.c) (l:=s.tracks) (k:=k) (i:=1) hks (by omega) (.i .u8 v) (⟨(nth s.tracks k).id,v⟩:Track) rfl
    rw[e1]at e2
    unfold stV stR at c3
    clear e e1 hno hst hyes
    rcases hv with rfl|rfl
    ·refine PO.fn hH cd285 fun w0 M Q hM hE hQ hR=>?_;dsimp only[cd285,qm,ql,qf,qi,qc,qp,qN,qT,qt]at hQ |-
     (have hX:=zA @e2 @Int.toNat_natCast;(repeat' first|refine zaa [0,1,2,3,4,5,8,9,10,11,16,23,30] fun K hK=>?_|(refine hK.go ?_;clear hK K)|with_reducible exact wT|refine wA ?_|(refine wB (fun h=>?_) (fun h=>?_)<;>first|exact wN h|subst (h:(_:Bool)=_)|skip)|(refine wR ?_;clear hQ hR hE hM)|refine wC c0 ?_|refine wC c1 ?_|refine wO c3 ?_|fail);all_goals clear hX)
     all_goals first|(exfalso;omega)|skip
     all_goals (left;unfold zdD zdE znt;dsimp only;rw[za1];constructor)
     all_goals (refine wD ?_;try with_reducible exact wT)
    ·refine PO.fn hH cd285 fun w0 M Q hM hE hQ hR=>?_;dsimp only[cd285,qm,ql,qf,qi,qc,qp,qN,qT,qt]at hQ |-
     (have hX:=zA @e2 @Int.toNat_natCast;(repeat' first|refine zaa [0,1,2,3,4,5,8,9,10,11,16,23,30] fun K hK=>?_|(refine hK.go ?_;clear hK K)|with_reducible exact wT|refine wA ?_|(refine wB (fun h=>?_) (fun h=>?_)<;>first|exact wN h|subst (h:(_:Bool)=_)|skip)|(refine wR ?_;clear hQ hR hE hM)|refine wC c0 ?_|refine wC c1 ?_|refine wO c3 ?_|fail);all_goals clear hX)
     all_goals first|(exfalso;omega)|skip
     all_goals (left;unfold zdD zdE znt;dsimp only;rw[za1];constructor)
     all_goals (refine wD ?_;try with_reducible exact wT)
   ·have e:zbj p s n v=2:=by unfold zbj;rw[if_pos hst,if_pos hyes,if_neg hv]
    unfold secR
    rw[e,if_neg (by decide)]
    clear e hst hyes
    refine PC.fn hH cd285 fun w0 M Q hM hE hQ hR=>?_;dsimp only[cd285,qm,ql,qf,qi,qc,qp,qN,qT,qt]at hQ |-
    (repeat' first|refine zaa [0,1,2,3,4,5,8,9,10,11,16,23,30] fun K hK=>?_|(refine hK.go ?_;clear hK K)|with_reducible exact wT|refine wA ?_|(refine wB (fun h=>?_) (fun h=>?_)<;>first|exact wN h|subst (h:(_:Bool)=_)|skip)|(refine wQ ?_;clear hQ hR hE hM)|refine wC c0 ?_|refine wC c1 ?_|fail)
    all_goals first|rfl|(exfalso;contradiction)|(exfalso;omega)
 ·have e:zbj p s n v=zad p s:=by unfold zbj;rw[if_neg hst]
  unfold secR
  rw[e,if_neg hst]
  clear e
  generalize zad p s=e at *
  refine PC.fn hH cd285 fun w0 M Q hM hE hQ hR=>?_;dsimp only[cd285,qm,ql,qf,qi,qc,qp,qN,qT,qt]at hQ |-
  (repeat' first|refine zaa [0,1,2,3,4,5,8,9,10,11,16,23,30] fun K hK=>?_|(refine hK.go ?_;clear hK K)|with_reducible exact wT|refine wA ?_|(refine wB (fun h=>?_) (fun h=>?_)<;>first|exact wN h|subst (h:(_:Bool)=_)|skip)|(refine wQ ?_;clear hQ hR hE hM)|refine wC c0 ?_|fail)
  all_goals first|rfl|(exfalso;contradiction)
theorem det16_pc (hH:HasAll P inv) (p:Pln) (hp:Sm p) (s:State) (hs:SmS s) (n v:Int):PC P inv 286 [.agg p.c,.agg s.c,.n n,.n v] (·=.tup [.agg (zm1 p s n v).c,.n (zbl p s n v)]):=by
 have c0:=zbm hH p hp s hs
 have hl1:=hs.2.1
 by_cases hst:zad p s=0
 ·rw[hst]at c0
  rcases swt_ix hH hp hst n with ⟨hno,c1⟩|⟨k,hk,hks,hid,hyes,c1⟩
  ·have e:zbl p s n v=6:=by unfold zbl;rw[if_pos hst,if_neg hno]
   unfold zm1
   rw[e,if_neg (by decide)]
   refine PC.fn hH cd286 fun w0 M Q hM hE hQ hR=>?_;dsimp only[cd286,qm,ql,qf,qi,qc,qv,qN,qF,qt]at hQ |-
   (repeat' first|refine zaa [0,1,2,3,4,5,8,9,10,11,16,23,30] fun K hK=>?_|(refine hK.go ?_;clear hK K)|with_reducible exact wT|refine wA ?_|(refine wB (fun h=>?_) (fun h=>?_)<;>first|exact wN h|subst (h:(_:Bool)=_)|skip)|(refine wQ ?_;clear hQ hR hE hM)|refine wC c0 ?_|refine wC c1 ?_|fail)
   all_goals first|rfl|(exfalso;contradiction)
  ·by_cases hv:0<=v/\v<=2
   ·have e:zbl p s n v=0:=by unfold zbl;rw[if_pos hst,if_pos hyes,if_pos hv]
    suffices h:PO P inv 286 [.agg p.c,.agg s.c,.n n,.n v] (.tup [zdD 5 (znu s n v),.n 0]) (zdE 5 (znu s n v)) by
     have:=h.pc
     rw[zbi]at this
     unfold zm1
     rw[e,if_pos rfl]
     exact this
    have c3:=zdf hH s hs
    have hno:(s.switches.map Switch.id).Nodup:=by rw[zcl (zac hst).2.1];exact zbI (zai hst)
    have e1:=zcL Switch.id n (fun t=>(⟨t.id,v,t.call⟩:Switch)) hno hks hid
    have e2:=zbS (c:=Switch.c) (l:=s.switches) (k:=k) (i:=1) hks (by omega) (.i .i64 v) (⟨(nth s.switches k).id,v,(nth s.switches k).call⟩:Switch) rfl
    rw[e1]at e2
    unfold stV stR at c3
    clear e e1 hno hst hyes
    refine PO.fn hH cd286 fun w0 M Q hM hE hQ hR=>?_;dsimp only[cd286,qm,ql,qf,qi,qc,qv,qN,qF,qt]at hQ |-
    (have hX:=zA @e2 @Int.toNat_natCast;(repeat' first|refine zaa [0,1,2,3,4,5,8,9,10,11,16,23,30] fun K hK=>?_|(refine hK.go ?_;clear hK K)|with_reducible exact wT|refine wA ?_|(refine wB (fun h=>?_) (fun h=>?_)<;>first|exact wN h|subst (h:(_:Bool)=_)|skip)|(refine wR ?_;clear hQ hR hE hM)|refine wC c0 ?_|refine wC c1 ?_|refine wO c3 ?_|fail);all_goals clear hX)
    all_goals first|(exfalso;omega)|skip
    all_goals (left;unfold zdD zdE znu;dsimp only;rw[za1];constructor)
    all_goals (refine wD ?_;try with_reducible exact wT)
   ·have e:zbl p s n v=2:=by unfold zbl;rw[if_pos hst,if_pos hyes,if_neg hv]
    unfold zm1
    rw[e,if_neg (by decide)]
    clear e hst hyes
    refine PC.fn hH cd286 fun w0 M Q hM hE hQ hR=>?_;dsimp only[cd286,qm,ql,qf,qi,qc,qv,qN,qF,qt]at hQ |-
    (repeat' first|refine zaa [0,1,2,3,4,5,8,9,10,11,16,23,30] fun K hK=>?_|(refine hK.go ?_;clear hK K)|with_reducible exact wT|refine wA ?_|(refine wB (fun h=>?_) (fun h=>?_)<;>first|exact wN h|subst (h:(_:Bool)=_)|skip)|(refine wQ ?_;clear hQ hR hE hM)|refine wC c0 ?_|refine wC c1 ?_|fail)
    all_goals first|rfl|(exfalso;contradiction)|(exfalso;omega)
 ·have e:zbl p s n v=zad p s:=by unfold zbl;rw[if_neg hst]
  unfold zm1
  rw[e,if_neg hst]
  clear e
  generalize zad p s=e at *
  refine PC.fn hH cd286 fun w0 M Q hM hE hQ hR=>?_;dsimp only[cd286,qm,ql,qf,qi,qc,qv,qN,qF,qt]at hQ |-
  (repeat' first|refine zaa [0,1,2,3,4,5,8,9,10,11,16,23,30] fun K hK=>?_|(refine hK.go ?_;clear hK K)|with_reducible exact wT|refine wA ?_|(refine wB (fun h=>?_) (fun h=>?_)<;>first|exact wN h|subst (h:(_:Bool)=_)|skip)|(refine wQ ?_;clear hQ hR hE hM)|refine wC c0 ?_|fail)
  all_goals first|rfl|(exfalso;contradiction)
def stQ2:State:=⟨[⟨1,0⟩,⟨2,0⟩,⟨3,0⟩,⟨4,0⟩],[⟨5,1,1⟩],[⟨1,1,0,0⟩,⟨2,0,0,0⟩]⟩
theorem PC.arg3 {j:Nat} {a b c c':AV} {R:AV->Prop} (h:PC P inv j [a,b,c'] R) (hr:∀ ctx v,rel ctx c v->rel ctx c' v):PC P inv j [a,b,c] R:=fun g hg M w vs hM ha=>h g hg M w vs hM (by
 simp only[zbZ]at ha |-
 obtain ⟨y,ys,e,h1,y2,ys2,e2,h2,y3,ys3,e3,h3,h4⟩:=ha
 exact ⟨y,ys,e,h1,y2,ys2,e2,h2,y3,ys3,e3,hr _ _ h3,h4⟩)
theorem do_pcn (hH:HasAll P inv) (hI:HasIds P inv) (p:Pln) (hp:Sm p) (s:State) (hs:SmS s) (h8:∀ t∈s.tracks,0<=t.is) (kd id v:Int) (ha:0<=kd/\kd<=255):PC P inv 207 [.agg p.c,.agg s.c,.agg [.i .u8 kd,.n id,.n v,.s0 1]] (·=.tup [.agg (doR p s ⟨kd,id,v,[]⟩).c,.n (doC p s ⟨kd,id,v,[]⟩)]) :=
 PC.arg3 (do_pc hH hI p hp s hs h8 ⟨kd,id,v,[]⟩ ha) fun ctx v h=>by
  have:=znz ctx _ v h
  simp only[nz,nzL]at this
  exact this
theorem do23_pc (hH:HasAll P inv) (p:Pln) (hp:Sm p) (s:State) (hs:SmS s) (a:ActD):PC P inv 382 [.agg p.c,.agg s.c,.agg a.c] (·=.tup [.agg (doR p s a).c,.n (doC p s a)]):=by
 have c0:=zbm hH p hp s hs
 by_cases hst:zad p s=0
 ·rw[hst]at c0
  have c1:=sec16_pc hH p hp s hs a.id a.value
  have c2:=det16_pc hH p hp s hs a.id a.value
  have c3:=zpv hH p hp s hs
  have c4:=zrB hH p hp s hs a.id a.value
  have c5:=set18_pc hH p hp s hs a.id
  have c6:=zm3 hH p hp s hs a.id
  by_cases hac:zcX p s a=0
  ·rw[(do_ok hst hac).1,(do_ok hst hac).2]
   have c7:=(zos hH p hp _ (znb p hs a) (zoh hst hac)).pc
   rw[zkW]at c7
   obtain ⟨kd,id,v,dt⟩:=a
   dsimp only at c1 c2 c4 c5 c6
   generalize hT:zdl p (zei p s ⟨kd,id,v,dt⟩)=T at *
   clear hT
   by_cases k1:kd=1
   ·subst k1
    rw[show zcX p s ⟨1,id,v,dt⟩=zbj p s id v by simp[zcX]]at hac
    rw[show zei p s ⟨1,id,v,dt⟩=secR p s id v by simp[zei]]at c7
    rw[hac]at c1
    clear hac hst
    generalize secR p s id v=U at *
    refine PC.fn hH cd382 fun w0 M Q hM hE hQ hR=>?_;dsimp only[cd382,qm,ql,qf,qc,qN,qt]at hQ |-
    (repeat' first|refine zaa [0,1,2,3,4,5,6,7,8,9,14,18,20,32,44,52,64,74,85] fun K hK=>?_|(refine hK.go ?_;clear hK K)|with_reducible exact wT|refine wA ?_|(refine wB (fun h=>?_) (fun h=>?_)<;>first|exact wN h|subst (h:(_:Bool)=_)|skip)|(refine wQ ?_;clear hQ hR hE hM)|refine wC c0 ?_|refine wC c1 ?_|refine wC c7 ?_|fail)
    all_goals first|rfl|(exfalso;contradiction)
   ·by_cases k2:kd=2
    ·subst k2
     rw[show zcX p s ⟨2,id,v,dt⟩=zbl p s id v by simp[zcX]]at hac
     rw[show zei p s ⟨2,id,v,dt⟩=zm1 p s id v by simp[zei]]at c7
     rw[hac]at c2
     clear hac hst
     generalize zm1 p s id v=U at *
     refine PC.fn hH cd382 fun w0 M Q hM hE hQ hR=>?_;dsimp only[cd382,qm,ql,qf,qc,qN,qt]at hQ |-
     (repeat' first|refine zaa [0,1,2,3,4,5,6,7,8,9,14,18,20,32,44,52,64,74,85] fun K hK=>?_|(refine hK.go ?_;clear hK K)|with_reducible exact wT|refine wA ?_|(refine wB (fun h=>?_) (fun h=>?_)<;>first|exact wN h|subst (h:(_:Bool)=_)|skip)|(refine wQ ?_;clear hQ hR hE hM)|refine wC c0 ?_|refine wC c2 ?_|refine wC c7 ?_|fail)
     all_goals first|rfl|(exfalso;contradiction)
    ·by_cases k3:kd=3
     ·subst k3
      rw[show zei p s ⟨3,id,v,dt⟩=zgo p s by simp[zei]]at c7
      rw[hst]at c3
      clear hac hst
      generalize zgo p s=U at *
      refine PC.fn hH cd382 fun w0 M Q hM hE hQ hR=>?_;dsimp only[cd382,qm,ql,qf,qc,qN,qt]at hQ |-
      (repeat' first|refine zaa [0,1,2,3,4,5,6,7,8,9,14,18,20,32,44,52,64,74,85] fun K hK=>?_|(refine hK.go ?_;clear hK K)|with_reducible exact wT|refine wA ?_|(refine wB (fun h=>?_) (fun h=>?_)<;>first|exact wN h|subst (h:(_:Bool)=_)|skip)|(refine wQ ?_;clear hQ hR hE hM)|refine wC c0 ?_|refine wC c3 ?_|refine wC c7 ?_|fail)
      all_goals first|rfl|(exfalso;contradiction)
     ·by_cases k4:kd=4
      ·subst k4
       rw[show zcX p s ⟨4,id,v,dt⟩=zcd p s id v by simp[zcX]]at hac
       rw[show zei p s ⟨4,id,v,dt⟩=zhl p s id v by simp[zei]]at c7
       rw[hac]at c4
       clear hac hst
       generalize zhl p s id v=U at *
       refine PC.fn hH cd382 fun w0 M Q hM hE hQ hR=>?_;dsimp only[cd382,qm,ql,qf,qc,qN,qt]at hQ |-
       (repeat' first|refine zaa [0,1,2,3,4,5,6,7,8,9,14,18,20,32,44,52,64,74,85] fun K hK=>?_|(refine hK.go ?_;clear hK K)|with_reducible exact wT|refine wA ?_|(refine wB (fun h=>?_) (fun h=>?_)<;>first|exact wN h|subst (h:(_:Bool)=_)|skip)|(refine wQ ?_;clear hQ hR hE hM)|refine wC c0 ?_|refine wC c4 ?_|refine wC c7 ?_|fail)
       all_goals first|rfl|(exfalso;contradiction)
      ·by_cases k5:kd=5
       ·subst k5
        rw[show zcX p s ⟨5,id,v,dt⟩=lkC p s id by simp[zcX]]at hac
        rw[show zei p s ⟨5,id,v,dt⟩=lkS p s id by simp[zei]]at c7
        rw[hac]at c5
        clear hac hst
        generalize lkS p s id=U at *
        refine PC.fn hH cd382 fun w0 M Q hM hE hQ hR=>?_;dsimp only[cd382,qm,ql,qf,qc,qN,qt]at hQ |-
        (repeat' first|refine zaa [0,1,2,3,4,5,6,7,8,9,14,18,20,32,44,52,64,74,85] fun K hK=>?_|(refine hK.go ?_;clear hK K)|with_reducible exact wT|refine wA ?_|(refine wB (fun h=>?_) (fun h=>?_)<;>first|exact wN h|subst (h:(_:Bool)=_)|skip)|(refine wQ ?_;clear hQ hR hE hM)|refine wC c0 ?_|refine wC c5 ?_|refine wC c7 ?_|fail)
        all_goals first|rfl|(exfalso;contradiction)
       ·by_cases k6:kd=6
        ·subst k6
         rw[show zcX p s ⟨6,id,v,dt⟩=cnC p s id by simp[zcX]]at hac
         rw[show zei p s ⟨6,id,v,dt⟩=cnR p s id by simp[zei]]at c7
         rw[hac]at c6
         clear hac hst
         generalize cnR p s id=U at *
         refine PC.fn hH cd382 fun w0 M Q hM hE hQ hR=>?_;dsimp only[cd382,qm,ql,qf,qc,qN,qt]at hQ |-
         (repeat' first|refine zaa [0,1,2,3,4,5,6,7,8,9,14,18,20,32,44,52,64,74,85] fun K hK=>?_|(refine hK.go ?_;clear hK K)|with_reducible exact wT|refine wA ?_|(refine wB (fun h=>?_) (fun h=>?_)<;>first|exact wN h|subst (h:(_:Bool)=_)|skip)|(refine wQ ?_;clear hQ hR hE hM)|refine wC c0 ?_|refine wC c6 ?_|refine wC c7 ?_|fail)
         all_goals first|rfl|(exfalso;contradiction)
        ·unfold zcX at hac
         rw[if_neg k1,if_neg k2,if_neg k3,if_neg k4,if_neg k5,if_neg k6]at hac
         cases hac
  ·rw[(do_no hst hac).1,(do_no hst hac).2]
   obtain ⟨kd,id,v,dt⟩:=a
   dsimp only at c1 c2 c4 c5 c6
   unfold State.z
   by_cases k1:kd=1
   ·subst k1
    rw[show zcX p s ⟨1,id,v,dt⟩=zbj p s id v by simp[zcX]]at hac |-
    clear hst
    generalize secR p s id v=U at *
    generalize zbj p s id v=e at *
    refine PC.fn hH cd382 fun w0 M Q hM hE hQ hR=>?_;dsimp only[cd382,qm,ql,qf,qc,qN,qt]at hQ |-
    (repeat' first|refine zaa [0,1,2,3,4,5,6,7,8,9,14,18,20,32,44,52,64,74,85] fun K hK=>?_|(refine hK.go ?_;clear hK K)|with_reducible exact wT|refine wA ?_|(refine wB (fun h=>?_) (fun h=>?_)<;>first|exact wN h|subst (h:(_:Bool)=_)|skip)|(refine wQ ?_;clear hQ hR hE hM)|refine wC c0 ?_|refine wC c1 ?_|fail)
    all_goals first|rfl|(exfalso;contradiction)
   ·by_cases k2:kd=2
    ·subst k2
     rw[show zcX p s ⟨2,id,v,dt⟩=zbl p s id v by simp[zcX]]at hac |-
     clear hst
     generalize zm1 p s id v=U at *
     generalize zbl p s id v=e at *
     refine PC.fn hH cd382 fun w0 M Q hM hE hQ hR=>?_;dsimp only[cd382,qm,ql,qf,qc,qN,qt]at hQ |-
     (repeat' first|refine zaa [0,1,2,3,4,5,6,7,8,9,14,18,20,32,44,52,64,74,85] fun K hK=>?_|(refine hK.go ?_;clear hK K)|with_reducible exact wT|refine wA ?_|(refine wB (fun h=>?_) (fun h=>?_)<;>first|exact wN h|subst (h:(_:Bool)=_)|skip)|(refine wQ ?_;clear hQ hR hE hM)|refine wC c0 ?_|refine wC c2 ?_|fail)
     all_goals first|rfl|(exfalso;contradiction)
    ·by_cases k3:kd=3
     ·subst k3
      rw[show zcX p s ⟨3,id,v,dt⟩=zad p s by simp[zcX]]at hac
      exact absurd hst hac
     ·by_cases k4:kd=4
      ·subst k4
       rw[show zcX p s ⟨4,id,v,dt⟩=zcd p s id v by simp[zcX]]at hac |-
       clear hst
       generalize zhl p s id v=U at *
       generalize zcd p s id v=e at *
       refine PC.fn hH cd382 fun w0 M Q hM hE hQ hR=>?_;dsimp only[cd382,qm,ql,qf,qc,qN,qt]at hQ |-
       (repeat' first|refine zaa [0,1,2,3,4,5,6,7,8,9,14,18,20,32,44,52,64,74,85] fun K hK=>?_|(refine hK.go ?_;clear hK K)|with_reducible exact wT|refine wA ?_|(refine wB (fun h=>?_) (fun h=>?_)<;>first|exact wN h|subst (h:(_:Bool)=_)|skip)|(refine wQ ?_;clear hQ hR hE hM)|refine wC c0 ?_|refine wC c4 ?_|fail)
       all_goals first|rfl|(exfalso;contradiction)
      ·by_cases k5:kd=5
       ·subst k5
        rw[show zcX p s ⟨5,id,v,dt⟩=lkC p s id by simp[zcX]]at hac |-
        clear hst
        generalize lkS p s id=U at *
        generalize lkC p s id=e at *
        refine PC.fn hH cd382 fun w0 M Q hM hE hQ hR=>?_;dsimp only[cd382,qm,ql,qf,qc,qN,qt]at hQ |-
        (repeat' first|refine zaa [0,1,2,3,4,5,6,7,8,9,14,18,20,32,44,52,64,74,85] fun K hK=>?_|(refine hK.go ?_;clear hK K)|with_reducible exact wT|refine wA ?_|(refine wB (fun h=>?_) (fun h=>?_)<;>first|exact wN h|subst (h:(_:Bool)=_)|skip)|(refine wQ ?_;clear hQ hR hE hM)|refine wC c0 ?_|refine wC c5 ?_|fail)
        all_goals first|rfl|(exfalso;contradiction)
       ·by_cases k6:kd=6
        ·subst k6
         rw[show zcX p s ⟨6,id,v,dt⟩=cnC p s id by simp[zcX]]at hac |-
         clear hst
         generalize cnR p s id=U at *
         generalize cnC p s id=e at *
         refine PC.fn hH cd382 fun w0 M Q hM hE hQ hR=>?_;dsimp only[cd382,qm,ql,qf,qc,qN,qt]at hQ |-
         (repeat' first|refine zaa [0,1,2,3,4,5,6,7,8,9,14,18,20,32,44,52,64,74,85] fun K hK=>?_|(refine hK.go ?_;clear hK K)|with_reducible exact wT|refine wA ?_|(refine wB (fun h=>?_) (fun h=>?_)<;>first|exact wN h|subst (h:(_:Bool)=_)|skip)|(refine wQ ?_;clear hQ hR hE hM)|refine wC c0 ?_|refine wC c6 ?_|fail)
         all_goals first|rfl|(exfalso;contradiction)
        ·rw[show zcX p s ⟨kd,id,v,dt⟩=2 by unfold zcX;rw[if_neg k1,if_neg k2,if_neg k3,if_neg k4,if_neg k5,if_neg k6]]
         have z1:=decide_eq_false k1
         have z2:=decide_eq_false k2
         have z3:=decide_eq_false k3
         have z4:=decide_eq_false k4
         have z5:=decide_eq_false k5
         have z6:=decide_eq_false k6
         clear hst hac c1 c2 c3 c4 c5 c6
         refine PC.fn hH cd382 fun w0 M Q hM hE hQ hR=>?_;dsimp only[cd382,qm,ql,qf,qc,qN,qt]at hQ |-
         (have hX:=zA @z1 (zA @z2 (zA @z3 (zA @z4 (zA @z5 @z6))));(repeat' first|refine zaa [0,1,2,3,4,5,6,7,8,9,14,18,20,32,44,52,64,74,85] fun K hK=>?_|(refine hK.go ?_;clear hK K)|with_reducible exact wT|refine wA ?_|(refine wB (fun h=>?_) (fun h=>?_)<;>first|exact wN h|subst (h:(_:Bool)=_)|skip)|(refine wQ ?_;clear hQ hR hE hM)|refine wC c0 ?_|fail);all_goals clear hX)
         all_goals first|rfl|(exfalso;contradiction)
 ·have hd:doC p s a=zad p s/\doR p s a=State.z:=by
   unfold doC doR
   rw[if_neg hst,if_neg hst]
   exact ⟨rfl,rfl⟩
  rw[hd.1,hd.2]
  unfold State.z
  generalize zad p s=e at *
  refine PC.fn hH cd382 fun w0 M Q hM hE hQ hR=>?_;dsimp only[cd382,qm,ql,qf,qc,qN,qt]at hQ |-
  (repeat' first|refine zaa [0,1,2,3,4,5,6,7,8,9,14,18,20,32,44,52,64,74,85] fun K hK=>?_|(refine hK.go ?_;clear hK K)|with_reducible exact wT|refine wA ?_|(refine wB (fun h=>?_) (fun h=>?_)<;>first|exact wN h|subst (h:(_:Bool)=_)|skip)|(refine wQ ?_;clear hQ hR hE hM)|refine wC c0 ?_|fail)
  all_goals first|rfl|(exfalso;contradiction)
theorem do3_po (hH:HasAll P inv) (hI:HasIds P inv) (p:Pln) (hp:Sm p) (s:State) (hs:SmS s) (hst:zad p s=0):PO P inv 207 [.agg p.c,.agg s.c,.agg [.i .u8 3,.n 0,.n 0,.s0 1]] (.tup [zdD 47 (zdl p (ze7 s)),.n 0]) (zdE 47 (zdl p (ze7 s))):=by
 have c0:=zbP hH hI p hp s hs
 have c3:=zpt hH hI p hp s hs
 have hc:=(zjO hst).code hst
 have sT:=(zjO hst).sm hst hs
 have c7:=zk4 hH hI p hp (ze7 s) sT hc
 have e1:zgo p s=ze7 s:=by unfold zgo;rw[if_pos hst]
 rw[e1]at c3
 rw[hst]at c0 c3
 clear hst hc e1
 generalize ze7 s=U at *
 generalize zdl p U=T at *
 unfold zdD zdE at c7
 unfold zdD zdE
 refine PO.fn hH cd207 fun w0 M Q hM hE hQ hR=>?_;dsimp only[cd207,qm,ql,qf,qc,qv,qN,qF,qt]at hQ |-
 skip
 (repeat' first|refine zaa [0,1,2,3,4,5,6,7,8,9,10,11,16,36,47] fun K hK=>?_|(refine hK.go ?_;clear hK K)|with_reducible exact wT|refine wA ?_|(refine wB (fun h=>?_) (fun h=>?_)<;>first|exact wN h|subst (h:(_:Bool)=_)|skip)|(refine wQ ?_;clear hQ hR)|refine wC c0 ?_|(refine AC.callK 40 (by omega) (by first|omega|exact wF|((refine wD ?_;try with_reducible exact wT);omega)) (zao (F:=cd221) (hH.has _ _ rfl) (Nat.le_of_ble_eq_true rfl) fun Q hQ hR=>?_);dsimp only[cd221,qm,qN,qt]at hQ |-;try (refine wD ?_;try with_reducible exact wT))|refine wC c3 ?_|refine wO c7 ?_|fail)
 all_goals first|(exfalso;contradiction)|(exfalso;omega)|skip
 all_goals (left;constructor)
 all_goals (refine wD ?_;try with_reducible exact wT)
def ziZ:Sh:=.st [.i .u8,.i .i64,.i .i64,.s 1 (.i .u8)]
theorem of_byte (d:D) (h:Sh.ok (.i .u8) d):∃ x:Int,Sh.av (.i .u8) d=byte1 x/\U8 x:=by
 obtain ⟨a,rfl,ha⟩:=of_u8 h
 exact ⟨a,rfl,ha⟩
theorem of_act (d:D) (h:Sh.ok ziZ d):∃ a:ActD,Sh.av ziZ d=a.c/\0<=a.kind/\a.kind<=255:=by
 obtain ⟨l,rfl,h⟩:=zhd h
 obtain ⟨d1,l,rfl,h1,h⟩:=zaI h
 obtain ⟨d2,l,rfl,h2,h⟩:=zaI h
 obtain ⟨d3,l,rfl,h3,h⟩:=zaI h
 obtain ⟨d4,l,rfl,h4,h⟩:=zaI h
 obtain rfl:=zd8 h
 obtain ⟨a,rfl,ha⟩:=of_u8 h1
 obtain ⟨b,rfl,hb⟩:=zbr h2
 obtain ⟨c,rfl,hc⟩:=zbr h3
 obtain ⟨l4,rfl,m4,h4⟩:=of_s h4
 obtain ⟨xs,e4,f4,g4⟩:=zd2 of_byte l4 h4
 refine ⟨⟨a,b,c,xs⟩, ?_,ha.1,ha.2⟩
 simp only[Sh.av,zc5,ziZ,e4,ActD.c,List.cons_append,List.nil_append]
theorem arg_act {d:D} (h:Sh.ok ziZ d):∃ a:ActD,Sh.arg ziZ d=.agg a.c/\0<=a.kind/\a.kind<=255:=by
 obtain ⟨s,e,h⟩:=of_act d h
 refine ⟨s, ?_,h⟩
 cases d with
 |l l=>simpa only[Sh.arg,ziZ,Sh.av,AV.agg.injEq] using e
 |n _=>simp only[Sh.av,ziZ,ActD.c]at e;cases e
 |t _=>simp only[Sh.av,ziZ,ActD.c]at e;cases e
theorem arg_acts {d:D} (h:Sh.ok (.s 4 ziZ) d):∃ l:List ActD,Sh.arg (.s 4 ziZ) d=.sl 4 (l.map ActD.c)/\∀ a∈l,0<=a.kind/\a.kind<=255:=by
 obtain ⟨as,h1,_,h3⟩:=arg_list of_act h
 exact ⟨as,h1,h3⟩
structure DoI (X:State):Prop where
 sm:SmS X
 u8:∀ t∈X.tracks,0<=t.is
theorem coreDoes_pc (hH:HasAll P inv) (hI:HasIds P inv) (p:Pln) (hp:Pln.ok p) (s:State) (hs:s.ok) (l:List ActD) (ha:∀ a∈l,0<=a.kind/\a.kind<=255):PC P inv 373 [.agg p.c,.agg s.c,.sl 4 (l.map ActD.c)] (·=.b true):=by
 have c1:=zlA hH p
 have c2:=zpI hH s
 cases g1:zlB p with
 |true =>
  rw[g1]at c1
  refine PC.fn hH cd373 fun w0 M Q hM hE hQ hR=>?_;dsimp only[cd373,qm,ql,qf,qi,qb,qc,qp,qv,qN,qT,qF,qt]at hQ |-
  (repeat' first|refine zaa [0,1,2,3,4,6,7,8,9,10,11,12,13,14,15,16,27,35,66,68,85] fun K hK=>?_|(refine hK.go ?_;clear hK K)|with_reducible exact wT|refine wA ?_|(refine wB (fun h=>?_) (fun h=>?_)<;>first|exact wN h|subst (h:(_:Bool)=_)|skip)|(refine wQ ?_;clear hQ hR hE hM)|refine wC c1 ?_|fail)
 |false =>
  rw[g1]at c1
  cases g2:zlC s with
  |true =>
   rw[g2]at c2
   refine PC.fn hH cd373 fun w0 M Q hM hE hQ hR=>?_;dsimp only[cd373,qm,ql,qf,qi,qb,qc,qp,qv,qN,qT,qF,qt]at hQ |-
   (repeat' first|refine zaa [0,1,2,3,4,6,7,8,9,10,11,12,13,14,15,16,27,35,66,68,85] fun K hK=>?_|(refine hK.go ?_;clear hK K)|with_reducible exact wT|refine wA ?_|(refine wB (fun h=>?_) (fun h=>?_)<;>first|exact wN h|subst (h:(_:Bool)=_)|skip)|(refine wQ ?_;clear hQ hR hE hM)|refine wC c1 ?_|refine wC c2 ?_|fail)
  |false =>
   rw[g2]at c2
   by_cases hn:l.length<=30
   ·have sp:=sm_of hp g1
    have ss:=smS_of g2
    have h8:=tr_u8 hs
    have hl1:=ss.1
    have hl2:=ss.2.1
    have hl3:=ss.2.2
    have c3:=zpX hH s (by omega) (by omega) (by omega)
    have c7:=zlb hH ss (rfl:s=s)
    have dD:∀ (X:State),SmS X->(∀ t∈X.tracks,0<=t.is)->∀ i,i<l.length->PC P inv 207 [.agg p.c,.agg X.c,.agg (nth l i).c] (·=.tup [.agg (doR p X (nth l i)).c,.n (doC p X (nth l i))])/\PC P inv 382 [.agg p.c,.agg X.c,.agg (nth l i).c] (·=.tup [.agg (doR p X (nth l i)).c,.n (doC p X (nth l i))])/\PC P inv 10 [.agg (doR p X (nth l i)).c,.agg (doR p X (nth l i)).c] (·=.b true) :=
     fun X sX hX i hi=>⟨do_pc hH hI p sp X sX hX _ (ha _ (zab hi)),do23_pc hH p sp X sX _,zlb hH (doR_sm sX) rfl⟩
    have dN:∀ (X:State),SmS X->(∀ t∈X.tracks,0<=t.is)->∀ i,doC p X (nth l i)=0->SmS (doR p X (nth l i))/\∀ t∈(doR p X (nth l i)).tracks,0<=t.is:=fun X sX hX i he=>⟨doR_sm sX,doR_u8 hX he⟩
    have hT:zad p s=0->∃ T:State,PO P inv 207 [.agg p.c,.agg s.c,.agg [.i .u8 3,.n 0,.n 0,.s0 1]] (.tup [zdD 47 T,.n 0]) (zdE 47 T)/\SmS T:=fun hst=>⟨_,do3_po hH hI p sp s ss hst,zpM (p:=p) ((zjO hst).sm hst ss)⟩
    have hB:¬zad p s=0->PC P inv 207 [.agg p.c,.agg s.c,.agg [.i .u8 3,.n 0,.n 0,.s0 1]] (·=.tup [.agg State.z.c,.n (zad p s)]):=fun hst=>by
     have h1:=do_pcn hH hI p sp s ss h8 3 0 0 (by decide)
     rw[show doC p s ⟨3,0,0,[]⟩=zad p s by unfold doC;rw[if_neg hst],show doR p s ⟨3,0,0,[]⟩=State.z by unfold doR;rw[if_neg hst]]at h1
     exact h1
    generalize zad p s=q at *
    have g0:DoI s:=⟨ss,h8⟩
    clear ha hs
    refine PC.fn hH cd373 fun w0 M Q hM hE hQ hR=>?_;dsimp only[cd373,qm,ql,qf,qi,qb,qc,qp,qv,qN,qT,qF,qt]at hQ |-
    (repeat' first|refine zaa [0,1,2,3,4,6,7,8,9,10,11,12,13,14,15,16,27,35,66,68,85] fun K hK=>?_|(refine hK.go ?_;clear hK K)|with_reducible exact wT|refine wA ?_|(refine wB (fun h=>?_) (fun h=>?_)<;>first|exact wN h|subst (h:(_:Bool)=_)|skip)|(refine wQ ?_;clear hQ hR hE hM)|refine wC c1 ?_|refine wC c2 ?_|refine wC c3 ?_|fail)
    all_goals first|(exfalso;contradiction)|(exfalso;omega)|skip
    refine zam (ι:=Nat×State) [2,3,4,6,7,8,9,10] (fun z=>[(10,.n z.1)]) (fun z=>[(3,.cells z.2.c true),(4,.cells z.2.c true)]) (fun z=>z.1) (l.length) (fun z=>(DoI z.2)) (0,s) ?_;rintro ⟨i,X⟩ ⟨hk,gI⟩;(try dsimp only at hk gI |-);rcases Nat.lt_or_ge i l.length with hlt|hge
    ·obtain ⟨hX1,hX2⟩:=gI
     have hi9:i<l.length:=by assumption
     obtain ⟨d1,d2,d3⟩:=dD X hX1 hX2 i hi9
     have d4:=dN X hX1 hX2 i
     clear dD dN hT hB
     generalize doR p X (nth l i)=Y at *
     generalize doC p X (nth l i)=e at *
     by_cases he:e=0
     ·subst he
      obtain ⟨d5,d6⟩:=d4 rfl
      (repeat' first|refine zaa [0,1,2,3,4,6,7,8,9,10,11,12,13,14,15,16,27,35,66,68,85] fun K hK=>?_|(refine hK.go ?_;clear hK K)|with_reducible exact wT|refine wA ?_|(refine wB (fun h=>?_) (fun h=>?_)<;>first|exact wN h|subst (h:(_:Bool)=_)|skip)|(refine wQ ?_;clear hQ hR hE hM)|refine wC d1 ?_|refine wU d1 ?_|refine wC d2 ?_|refine wU d2 ?_|refine wC d3 ?_|fail)
      all_goals first|(exfalso;contradiction)|(exfalso;omega)|exact ⟨(i+1,Y),by dsimp only;omega,⟨by dsimp only;omega,⟨d5,d6⟩⟩,by dsimp only;omega,rfl,rfl⟩|exact ⟨(i+1,Y),by dsimp only;omega,⟨by dsimp only;omega,⟨d5,d6⟩⟩,by dsimp only;omega,rfl⟩
     ·clear d4
      (repeat' first|refine zaa [0,1,2,3,4,6,7,8,9,10,11,12,13,14,15,16,27,35,66,68,85] fun K hK=>?_|(refine hK.go ?_;clear hK K)|with_reducible exact wT|refine wA ?_|(refine wB (fun h=>?_) (fun h=>?_)<;>first|exact wN h|subst (h:(_:Bool)=_)|skip)|(refine wQ ?_;clear hQ hR hE hM)|refine wC d1 ?_|refine wU d1 ?_|refine wC d2 ?_|refine wU d2 ?_|refine wC d3 ?_|fail)
      all_goals first|(exfalso;contradiction)|(exfalso;omega)|exact ⟨(i+1,X),by dsimp only;omega,⟨by dsimp only;omega,⟨hX1,hX2⟩⟩,by dsimp only;omega,rfl,rfl⟩|exact ⟨(i+1,X),by dsimp only;omega,⟨by dsimp only;omega,⟨hX1,hX2⟩⟩,by dsimp only;omega,rfl⟩
    ·clear dD dN
     by_cases hq:q=0
     ·obtain ⟨T,c9,sT⟩:=hT hq
      clear hT hB
      have ht1:=sT.1
      have ht2:=sT.2.1
      have ht3:=sT.2.2
      unfold zdD zdE at c9
      (repeat' first|refine zaa [0,1,2,3,4,6,7,8,9,10,11,12,13,14,15,16,27,35,66,68,85] fun K hK=>?_|(refine hK.go ?_;clear hK K)|with_reducible exact wT|refine wA ?_|(refine wB (fun h=>?_) (fun h=>?_)<;>first|exact wN h|subst (h:(_:Bool)=_)|skip)|(refine wQ ?_;clear hQ hR hE hM)|refine wO c9 ?_|refine wC c7 ?_|fail)
      all_goals first|rfl|(exfalso;contradiction)|(exfalso;omega)
     ·have c9:=hB hq
      clear hT hB
      unfold State.z at c9
      (repeat' first|refine zaa [0,1,2,3,4,6,7,8,9,10,11,12,13,14,15,16,27,35,66,68,85] fun K hK=>?_|(refine hK.go ?_;clear hK K)|with_reducible exact wT|refine wA ?_|(refine wB (fun h=>?_) (fun h=>?_)<;>first|exact wN h|subst (h:(_:Bool)=_)|skip)|(refine wQ ?_;clear hQ hR hE hM)|refine wC c9 ?_|refine wC c7 ?_|fail)
      all_goals first|rfl|(exfalso;contradiction)|(exfalso;omega)
   ·refine PC.fn hH cd373 fun w0 M Q hM hE hQ hR=>?_;dsimp only[cd373,qm,ql,qf,qi,qb,qc,qp,qv,qN,qT,qF,qt]at hQ |-
    (repeat' first|refine zaa [0,1,2,3,4,6,7,8,9,10,11,12,13,14,15,16,27,35,66,68,85] fun K hK=>?_|(refine hK.go ?_;clear hK K)|with_reducible exact wT|refine wA ?_|(refine wB (fun h=>?_) (fun h=>?_)<;>first|exact wN h|subst (h:(_:Bool)=_)|skip)|(refine wQ ?_;clear hQ hR hE hM)|refine wC c1 ?_|refine wC c2 ?_|fail)
    all_goals first|rfl|(exfalso;contradiction)|(exfalso;omega)
end Go.Lev
