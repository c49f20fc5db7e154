/-
  A part of the engine that walks the functions' codes, and of the functions' contracts. Conditions: those that each theorem names.
-/
import Derived.Test.YthjfjbajmhkbbaaGreatL8
import Derived.IntWalk
set_option linter.unusedSimpArgs false
set_option linter.unusedVariables false
set_option linter.unusedSectionVars false
namespace Go.Lev
open Go.Eng
theorem ziI {α β:Type} {q:α→β→Bool}:∀ {a:List α} {b:List β},zaM q a b=true→∀ x∈a,∃ y∈b,q x y=true
 |[],_,_,x,h=>by cases h
 |x::xs,[],h,_,_=>by simp[zaM]at h
 |x::xs,y::ys,h,z,hz=>by
  simp only[zaM,Bool.and_eq_true]at h
  rcases List.mem_cons.1 hz with rfl|hz
  ·exact ⟨y,by simp,h.1⟩
  ·obtain ⟨w,hw,e⟩:=ziI h.2 z hz
   exact ⟨w,by simp[hw],e⟩
section
variable {p:Pln} {s:State} (h:zag p s=0)
include h
end
end Go.Lev
namespace Go.Lev
open Go.Eng
set_option maxRecDepth 10000
set_option maxHeartbeats 4000000
variable {P:Program} {inv:Nat→Option Nat} {w0:World} {M:Nat→Prop}
theorem is168_pc (hH:HasAll P inv) (n:Int) (x:Switch):PC P inv 168 ([.agg x.c]++[.ip 1 [[.n n]] 0 0]) (·=.b (decide (x.id=n))):=by
 refine PC.fn hH cd168 fun w0 M Q hM hE hQ hR=>?_;dsimp only[cd168,qm,ql,qf,qi,qb,qc,qp,qv,qN,qT,qF,qt]at hQ ⊢
 (repeat' first|refine zaa [0,1,2,3] fun K hK=>?_|(refine hK.go ?_;clear hK K)|with_reducible exact wT|refine wA ?_|(refine wB (fun h=>?_) (fun h=>?_)<;>first|exact wN h|subst (h:(_:Bool)=_)|skip)|(refine wQ ?_;clear hQ hR hE hM)|fail)
theorem is169_pc (hH:HasAll P inv) (n:Int) (x:Pnt):PC P inv 169 ([.agg x.c]++[.ip 1 [[.n n]] 0 0]) (·=.b (decide (x.id=n))):=by
 refine PC.fn hH cd169 fun w0 M Q hM hE hQ hR=>?_;dsimp only[cd169,qm,ql,qf,qi,qb,qc,qp,qv,qN,qT,qF,qt]at hQ ⊢
 (repeat' first|refine zaa [0,1,2,3] fun K hK=>?_|(refine hK.go ?_;clear hK K)|with_reducible exact wT|refine wA ?_|(refine wB (fun h=>?_) (fun h=>?_)<;>first|exact wN h|subst (h:(_:Bool)=_)|skip)|(refine wQ ?_;clear hQ hR hE hM)|fail)
theorem is170_pc (hH:HasAll P inv) (n:Int) (x:Track):PC P inv 170 ([.agg x.c]++[.ip 1 [[.n n]] 0 0]) (·=.b (decide (x.id=n))):=by
 refine PC.fn hH cd170 fun w0 M Q hM hE hQ hR=>?_;dsimp only[cd170,qm,ql,qf,qi,qb,qc,qp,qv,qN,qT,qF,qt]at hQ ⊢
 (repeat' first|refine zaa [0,1,2,3] fun K hK=>?_|(refine hK.go ?_;clear hK K)|with_reducible exact wT|refine wA ?_|(refine wB (fun h=>?_) (fun h=>?_)<;>first|exact wN h|subst (h:(_:Bool)=_)|skip)|(refine wQ ?_;clear hQ hR hE hM)|fail)
theorem trk_of {p:Pln} {s:State} (h:zak p s=true) {n:Int} (hs:∃ x∈p.sections,x.id=n):zlV s n:=by
 obtain ⟨x,hx,rfl⟩:=hs
 have:x.id∈s.tracks.map Track.id:=by rw[zfX h];exact List.mem_map_of_mem hx
 obtain ⟨t,ht,e⟩:=List.mem_map.1 this
 exact ⟨t,ht,e⟩
theorem znV {p:Pln} {s:State} (h:zak p s=true) (n:Int):zgH s n≤2:=by
 unfold zgH
 cases e:s.tracks.find? fun t=>decide (t.id=n) with
 |none=>exact Int.le_refl _
 |some t =>
  obtain ⟨x,_,hx⟩:=ziI (by simp only[zak,Bool.and_eq_true]at h;exact h.1) t (List.mem_of_find?_eq_some e)
  simp only[zeS,Bool.and_eq_true,decide_eq_true_eq]at hx
  exact hx.2
theorem zow {p:Pln} {s:State}:zag p s=0∨zag p s=8∨zag p s=100:=by
 unfold zag
 split
 ·split
  ·exact .inl rfl
  ·exact .inr (.inl rfl)
 ·exact .inr (.inr rfl)
theorem zlM (hH:HasAll P inv) (hI:HasIds P inv) (p:Pln) (hp:Sm p) (s:State) (hs:SmS s) (h8:∀ t∈s.tracks,0≤t.is) (n:Int):PC P inv 153 [.agg p.c,.agg s.c,.n n] (·=.n (zeJ p s n)):=by
 have c0:=zni hH hI p hp s hs n
 unfold zeJ
 unfold zfO at c0
 by_cases hst:zag p s=0
 ·rw[if_pos hst]at c0 ⊢
  have hok:=zar hst
  have hpa:=(zad hst).2.1
  cases hn:zcA p n with
  |false =>
   rw[hn,if_neg (by simp)]at c0
   rw[if_neg (by simp)]
   refine PC.fn hH cd153 fun w0 M Q hM hE hQ hR=>?_;dsimp only[cd153,qm,ql,qf,qi,qb,qc,qp,qv,qN,qT,qF,qt]at hQ ⊢
   (repeat' first|refine zaa [0,1,2,3,4,5,6,7,8,9,10,19,34,37,45] fun K hK=>?_|(refine hK.go ?_;clear hK K)|with_reducible exact wT|refine wA ?_|(refine wB (fun h=>?_) (fun h=>?_)<;>first|exact wN h|subst (h:(_:Bool)=_)|skip)|(refine wQ ?_;clear hQ hR hE hM)|refine wC c0 ?_|fail)
   all_goals first|rfl|(exfalso;contradiction)|skip
  |true =>
   rw[hn,if_pos rfl]at c0
   rw[if_pos rfl]
   have c1:=zhT hH p.points (fun x _=>is169_pc hH n x) (Nat.le_trans hp.pts (by omega))
   obtain ⟨x,hx,ex⟩:=List.any_eq_true.1 hn
   have ex:x.id=n:=by simpa using ex
   rcases zav Pnt.id n p.points with ⟨_,h4⟩|⟨k,hk,h4,h5⟩
   ·exact absurd ex (h4 x hx)
   ·rw[h4]at c1
    have e1:zcn p n=(nth p.points k).sec:=by unfold zcn;rw[zfH Pnt.id (zbJ hok) hk h5]
    have c2:=zl1 hH s.tracks (fun x _=>is170_pc hH (nth p.points k).sec x) (Nat.le_trans hs.1 (by omega))
    obtain ⟨t,ht,et⟩:=trk_of hpa (zo6 hok (zab hk))
    rcases zav Track.id (nth p.points k).sec s.tracks with ⟨_,h6⟩|⟨m,hm,h6,h7⟩
    ·exact absurd et (h6 t ht)
    ·rw[h6]at c2
     have hno:(s.tracks.map Track.id).Nodup:=by rw[zfX hpa];exact zfk hok
     have e2:zgH s (zcn p n)=(nth s.tracks m).is:=by unfold zgH;rw[e1,zfH Track.id hno hm h7]
     have e3:=znV hpa (zcn p n)
     have e4:=h8 _ (zab hm)
     rw[e2]at e3 ⊢
     have hl1:=hp.pts
     have hl2:=hs.1
     generalize nth (zau p s).2.1 n.toNat=a at c0 ⊢
     clear h4 h5 h6 h7 e1 e2 et ht hno hpa hok hn ex hx
     refine PC.fn hH cd153 fun w0 M Q hM hE hQ hR=>?_;dsimp only[cd153,qm,ql,qf,qi,qb,qc,qp,qv,qN,qT,qF,qt]at hQ ⊢
     (repeat' first|refine zaa [0,1,2,3,4,5,6,7,8,9,10,19,34,37,45] fun K hK=>?_|(refine hK.go ?_;clear hK K)|with_reducible exact wT|refine wA ?_|(refine wB (fun h=>?_) (fun h=>?_)<;>first|exact wN h|subst (h:(_:Bool)=_)|skip)|(refine wQ ?_;clear hQ hR hE hM)|refine wC c0 ?_|refine wP c1 ?_|refine wS c2 ?_|fail)
     all_goals ((repeat' split)<;>first|rfl|(exfalso;contradiction)|(exfalso;omega))
 ·rw[if_neg hst]at c0 ⊢
  generalize zag p s=e at c0 hst ⊢
  refine PC.fn hH cd153 fun w0 M Q hM hE hQ hR=>?_;dsimp only[cd153,qm,ql,qf,qi,qb,qc,qp,qv,qN,qT,qF,qt]at hQ ⊢
  (repeat' first|refine zaa [0,1,2,3,4,5,6,7,8,9,10,19,34,37,45] fun K hK=>?_|(refine hK.go ?_;clear hK K)|with_reducible exact wT|refine wA ?_|(refine wB (fun h=>?_) (fun h=>?_)<;>first|exact wN h|subst (h:(_:Bool)=_)|skip)|(refine wQ ?_;clear hQ hR hE hM)|refine wC c0 ?_|fail)
  all_goals first|rfl|(exfalso;contradiction)|skip
theorem znf {p:Pln} {s:State} {n v:Int} (h:zcU p s n v=0):zag p s=0∧zcA p n=true∧(v=1∨v=2)∧zeJ p s n=0:=by
 unfold zcU at h
 split at h
 ·rename_i h1
  split at h
  ·rename_i h2
   split at h
   ·rename_i h3;exact ⟨h1,h2,h3,h⟩
   ·cases h
  ·cases h
 ·rename_i h1;exact absurd h h1
theorem zne (hH:HasAll P inv) (hI:HasIds P inv) (p:Pln) (hp:Sm p) (s:State) (hs:SmS s) (h8:∀ t∈s.tracks,0≤t.is) (n v:Int) (he:zcU p s n v=0):PO P inv 151 [.agg p.c,.agg s.c,.n n,.n v] (.tup [zen 6 (ziO s n v),.n 0]) (zdn 6 (ziO s n v)):=by
 obtain ⟨hst,hn,hv,hm⟩:=znf he
 have c0:=zlM hH hI p hp s hs h8 n
 rw[hm]at c0
 have c1:=zc5 hH s hs
 obtain ⟨t,ht,htn⟩:=zoq (zad hst).2.1 hn
 have c2:=zhR hH s.switches (fun x _=>is168_pc hH n x) (by have:=hs.2.1;omega)
 have hno:(s.switches.map Switch.id).Nodup:=by rw[zcR (zad hst).2.1];exact zbJ (zar hst)
 have h2:=hs.2.1
 rcases zav Switch.id n s.switches with ⟨_,h4⟩|⟨k,hk,h4,h5⟩
 ·exact absurd htn (h4 t ht)
 ·rw[h4]at c2
  have e1:=zcE Switch.id n (fun t=>(⟨t.id,t.lie,v⟩:Switch)) hno hk h5
  have e2:=zaz (c:=Switch.c) (l:=s.switches) (k:=k) (i:=2) hk (by omega) (.i .i64 v) (⟨(nth s.switches k).id,(nth s.switches k).lie,v⟩:Switch) rfl
  rw[e1]at e2
  unfold stV stR at c1
  refine PO.fn hH cd151 fun w0 M Q hM hE hQ hR=>?_;dsimp only[cd151,qm,ql,qf,qi,qb,qc,qp,qv,qN,qT,qF,qt]at hQ ⊢
  (have hX:=@e2;(repeat' first|refine zaa [0,1,2,3,4,5,6,8,9,10,11,34,36] fun K hK=>?_|(refine hK.go ?_;clear hK K)|with_reducible exact wT|refine wA ?_|(refine wB (fun h=>?_) (fun h=>?_)<;>first|exact wN h|subst (h:(_:Bool)=_)|skip)|(refine wR ?_;clear hQ hR hE hM)|refine wC c0 ?_|refine wO c1 ?_|refine wS c2 ?_|fail);all_goals clear hX)
  all_goals (left;unfold zen zdn ziO;dsimp only;rw[zbe];constructor)
  all_goals (refine no_implicit_lambda% (st ?_);try with_reducible exact wT)
theorem znO {p:Pln} {s:State} {n:Int} (hst:zag p s=0) (hn:zcA p n=true):zeJ p s n=0∨zeJ p s n=170∨zeJ p s n=171:=by
 unfold zeJ
 rw[if_pos hst,if_pos hn]
 split
 ·split
  ·exact .inl rfl
  ·exact .inr (.inr rfl)
 ·exact .inr (.inl rfl)
theorem callP_pc (hH:HasAll P inv) (hI:HasIds P inv) (p:Pln) (hp:Sm p) (s:State) (hs:SmS s) (h8:∀ t∈s.tracks,0≤t.is) (n v:Int):PC P inv 151 [.agg p.c,.agg s.c,.n n,.n v] (·=.tup [.agg (zlc p s n v).c,.n (zcU p s n v)]):=by
 unfold zlc
 by_cases he:zcU p s n v=0
 ·have:=(zne hH hI p hp s hs h8 n v he).pc
  rw[zbL]at this
  rw[if_pos he,he]
  exact this
 ·rw[if_neg he]
  have c0:=zlM hH hI p hp s hs h8 n
  have key:(∃ e,zeJ p s n=e∧zcU p s n v=e∧(e=6∨e=8∨e=100))∨(∃ e,zeJ p s n=e∧(e=0∨e=170∨e=171)∧zcU p s n v=2∧¬v=1∧¬v=2)∨(∃ e,zeJ p s n=e∧(e=170∨e=171)∧zcU p s n v=e∧(v=1∨v=2)):=by
   by_cases hst:zag p s=0
   ·cases hn:zcA p n with
    |false=>exact .inl ⟨6,by unfold zeJ;rw[if_pos hst,if_neg (by simp[hn])],by unfold zcU;rw[if_pos hst,if_neg (by simp[hn])],.inl rfl⟩
    |true =>
     have hm:=znO hst hn
     have hc:zcU p s n v=if v=1∨v=2 then zeJ p s n else 2:=by unfold zcU;rw[if_pos hst,if_pos hn]
     by_cases hv:v=1∨v=2
     ·rw[if_pos hv]at hc
      rcases hm with hm|hm|hm
      ·exact absurd (hc.trans hm) he
      ·exact .inr (.inr ⟨170,hm,.inl rfl,hc.trans hm,hv⟩)
      ·exact .inr (.inr ⟨171,hm,.inr rfl,hc.trans hm,hv⟩)
     ·rw[if_neg hv]at hc
      exact .inr (.inl ⟨_,rfl,hm,hc,fun h=>hv (.inl h),fun h=>hv (.inr h)⟩)
   ·have h1:zeJ p s n=zag p s:=by unfold zeJ;rw[if_neg hst]
    have h2:zcU p s n v=zag p s:=by unfold zcU;rw[if_neg hst]
    rcases zow (p:=p) (s:=s) with h|h|h
    ·exact absurd h hst
    ·exact .inl ⟨8,h1.trans h,h2.trans h,.inr (.inl rfl)⟩
    ·exact .inl ⟨100,h1.trans h,h2.trans h,.inr (.inr rfl)⟩
  rcases key with ⟨e,h1,h2,h3⟩|⟨e,h1,h3,h2,h4,h5⟩|⟨e,h1,h3,h2,h4⟩
  ·rw[h1]at c0
   rw[h2]
   rcases h3 with rfl|rfl|rfl
   all_goals refine PC.fn hH cd151 fun w0 M Q hM hE hQ hR=>?_;dsimp only[cd151,qm,ql,qf,qi,qb,qc,qp,qv,qN,qT,qF,qt]at hQ ⊢
   all_goals (repeat' first|refine zaa [0,1,2,3,4,5,6,8,9,10,11,34,36] fun K hK=>?_|(refine hK.go ?_;clear hK K)|with_reducible exact wT|refine wA ?_|(refine wB (fun h=>?_) (fun h=>?_)<;>first|exact wN h|subst (h:(_:Bool)=_)|skip)|(refine wQ ?_;clear hQ hR hE hM)|refine wC c0 ?_|fail)
   all_goals first|rfl|(exfalso;contradiction)|(exfalso;omega)
  ·rw[h1]at c0
   rw[h2]
   rcases h3 with rfl|rfl|rfl
   all_goals refine PC.fn hH cd151 fun w0 M Q hM hE hQ hR=>?_;dsimp only[cd151,qm,ql,qf,qi,qb,qc,qp,qv,qN,qT,qF,qt]at hQ ⊢
   all_goals (repeat' first|refine zaa [0,1,2,3,4,5,6,8,9,10,11,34,36] fun K hK=>?_|(refine hK.go ?_;clear hK K)|with_reducible exact wT|refine wA ?_|(refine wB (fun h=>?_) (fun h=>?_)<;>first|exact wN h|subst (h:(_:Bool)=_)|skip)|(refine wQ ?_;clear hQ hR hE hM)|refine wC c0 ?_|fail)
   all_goals first|rfl|(exfalso;contradiction)|(exfalso;omega)
  ·rw[h1]at c0
   rw[h2]
   rcases h3 with rfl|rfl
   all_goals refine PC.fn hH cd151 fun w0 M Q hM hE hQ hR=>?_;dsimp only[cd151,qm,ql,qf,qi,qb,qc,qp,qv,qN,qT,qF,qt]at hQ ⊢
   all_goals (repeat' first|refine zaa [0,1,2,3,4,5,6,8,9,10,11,34,36] fun K hK=>?_|(refine hK.go ?_;clear hK K)|with_reducible exact wT|refine wA ?_|(refine wB (fun h=>?_) (fun h=>?_)<;>first|exact wN h|subst (h:(_:Bool)=_)|skip)|(refine wQ ?_;clear hQ hR hE hM)|refine wC c0 ?_|fail)
   all_goals first|rfl|(exfalso;contradiction)|(exfalso;omega)
end Go.Lev
namespace Go.Lev
open Go.Eng
theorem isPnt_ix {p:Pln} {n:Int} (h:zcA p n=true):∃ k,k<p.points.length∧(nth p.points k).id=n:=by
 obtain ⟨x,hx,e⟩:=List.any_eq_true.1 h
 obtain ⟨k,hk,rfl⟩:=zbG hx
 exact ⟨k,hk,by simpa using e⟩
end Go.Lev
namespace Go.Lev
open Go.Eng
set_option maxRecDepth 10000
set_option maxHeartbeats 4000000
variable {P:Program} {inv:Nat→Option Nat} {w0:World} {M:Nat→Prop}
theorem zqs (hH:HasAll P inv) (p:Pln) (hp:Sm p) (s:State) (hs:SmS s) (n v:Int) (he:zcU p s n v=0):PO P inv 328 [.agg p.c,.agg s.c,.n n,.n v] (.tup [zen 5 (ziO s n v),.n 0]) (zdn 5 (ziO s n v)):=by
 obtain ⟨hst,hn,hv,hm⟩:=znf he
 have c0:=zbw hH p hp s hs
 rw[hst]at c0
 obtain ⟨k,hk,hid⟩:=isPnt_ix hn
 have c1:=zdO hH p (by have:=hp.pts;omega) n
 have hpa:=(zad hst).2.1
 have hpl:=zap hpa
 have hks:k<s.switches.length:=by omega
 have hix:zbd (fun x=>decide (Pnt.id x=n)) 0 p.points=(k:Int):=by
  rcases zav Pnt.id n p.points with ⟨_,h4⟩|⟨q,hq,h4,h5⟩
  ·exact absurd hid (h4 _ (zab hk))
  ·rw[h4,zpm Pnt.id (zbJ (zar hst)) hq hk (h5.trans hid.symm)]
 rw[hix]at c1
 have c2:=ze1 hH p hp s hs hst hk
 rw[←zlN hst hk,hid,hm]at c2
 have c3:=zcd hH s hs
 have hno:(s.switches.map Switch.id).Nodup:=by rw[zcR hpa];exact zbJ (zar hst)
 have h5:(nth s.switches k).id=n:=by rw[zjk hpa hks];exact hid
 have h2:=hs.2.1
 have e1:=zcE Switch.id n (fun t=>(⟨t.id,t.lie,v⟩:Switch)) hno hks h5
 have e2:=zaz (c:=Switch.c) (l:=s.switches) (k:=k) (i:=2) hks (by omega) (.i .i64 v) (⟨(nth s.switches k).id,(nth s.switches k).lie,v⟩:Switch) rfl
 rw[e1]at e2
 unfold stV stR at c3
 clear he hst hn hm hpa hpl hix hno e1
 rcases hv with rfl|rfl
 ·refine PO.fn hH cd328 fun w0 M Q hM hE hQ hR=>?_;dsimp only[cd328,qm,ql,qf,qi,qb,qc,qp,qv,qN,qT,qF,qt]at hQ ⊢
  (have hX:=zA @e2 @Int.toNat_natCast;(repeat' first|refine zaa [0,1,2,3,4,5,8,9,10,11,16,23,30,37] fun K hK=>?_|(refine hK.go ?_;clear hK K)|with_reducible exact wT|refine wA ?_|(refine wB (fun h=>?_) (fun h=>?_)<;>first|exact wN h|subst (h:(_:Bool)=_)|skip)|(refine wR ?_;clear hQ hR hE hM)|refine wC c0 ?_|refine wC c1 ?_|refine wC c2 ?_|refine wO c3 ?_|fail);all_goals clear hX)
  all_goals first|(exfalso;omega)|skip
  all_goals (left;unfold zen zdn ziO;dsimp only;rw[zbe];constructor)
  all_goals (refine no_implicit_lambda% (st ?_);try with_reducible exact wT)
 ·refine PO.fn hH cd328 fun w0 M Q hM hE hQ hR=>?_;dsimp only[cd328,qm,ql,qf,qi,qb,qc,qp,qv,qN,qT,qF,qt]at hQ ⊢
  (have hX:=zA @e2 @Int.toNat_natCast;(repeat' first|refine zaa [0,1,2,3,4,5,8,9,10,11,16,23,30,37] fun K hK=>?_|(refine hK.go ?_;clear hK K)|with_reducible exact wT|refine wA ?_|(refine wB (fun h=>?_) (fun h=>?_)<;>first|exact wN h|subst (h:(_:Bool)=_)|skip)|(refine wR ?_;clear hQ hR hE hM)|refine wC c0 ?_|refine wC c1 ?_|refine wC c2 ?_|refine wO c3 ?_|fail);all_goals clear hX)
  all_goals first|(exfalso;omega)|skip
  all_goals (left;unfold zen zdn ziO;dsimp only;rw[zbe];constructor)
  all_goals (refine no_implicit_lambda% (st ?_);try with_reducible exact wT)
theorem zqt (hH:HasAll P inv) (p:Pln) (hp:Sm p) (s:State) (hs:SmS s) (n v:Int):PC P inv 328 [.agg p.c,.agg s.c,.n n,.n v] (·=.tup [.agg (zlc p s n v).c,.n (zcU p s n v)]):=by
 unfold zlc
 by_cases he:zcU p s n v=0
 ·have:=(zqs hH p hp s hs n v he).pc
  rw[zbL]at this
  rw[if_pos he,he]
  exact this
 ·rw[if_neg he]
  have c0:=zbw hH p hp s hs
  by_cases hst:zag p s=0
  ·rw[hst]at c0
   have c1:=zdO hH p (by have:=hp.pts;omega) n
   rcases zav Pnt.id n p.points with ⟨h4,h5⟩|⟨k,hk,h4,h5⟩
   ·rw[h4]at c1
    have hno:zcA p n=false:=by
     unfold zcA
     rw[List.any_eq_false]
     intro x hx
     simpa using h5 x hx
    have:zcU p s n v=6:=by unfold zcU;rw[if_pos hst,hno,if_neg (by simp)]
    rw[this]
    refine PC.fn hH cd328 fun w0 M Q hM hE hQ hR=>?_;dsimp only[cd328,qm,ql,qf,qi,qb,qc,qp,qv,qN,qT,qF,qt]at hQ ⊢
    (repeat' first|refine zaa [0,1,2,3,4,5,8,9,10,11,16,23,30,37] fun K hK=>?_|(refine hK.go ?_;clear hK K)|with_reducible exact wT|refine wA ?_|(refine wB (fun h=>?_) (fun h=>?_)<;>first|exact wN h|subst (h:(_:Bool)=_)|skip)|(refine wQ ?_;clear hQ hR hE hM)|refine wC c0 ?_|refine wC c1 ?_|fail)
    all_goals first|rfl|(exfalso;contradiction)|trace_state
   ·rw[h4]at c1
    have hpn:zcA p n=true:=by rw[←h5];exact zjT hk
    have hc:zcU p s n v=if v=1∨v=2 then zeJ p s n else 2:=by unfold zcU;rw[if_pos hst,if_pos hpn]
    by_cases hv:v=1∨v=2
    ·have c2:=ze1 hH p hp s hs hst hk
     rw[←zlN hst hk,h5]at c2
     rw[if_pos hv]at hc
     rw[hc]at he ⊢
     generalize zeJ p s n=e at *
     clear hst hpn h4 hc
     refine PC.fn hH cd328 fun w0 M Q hM hE hQ hR=>?_;dsimp only[cd328,qm,ql,qf,qi,qb,qc,qp,qv,qN,qT,qF,qt]at hQ ⊢
     (repeat' first|refine zaa [0,1,2,3,4,5,8,9,10,11,16,23,30,37] fun K hK=>?_|(refine hK.go ?_;clear hK K)|with_reducible exact wT|refine wA ?_|(refine wB (fun h=>?_) (fun h=>?_)<;>first|exact wN h|subst (h:(_:Bool)=_)|skip)|(refine wQ ?_;clear hQ hR hE hM)|refine wC c0 ?_|refine wC c1 ?_|refine wC c2 ?_|fail)
     all_goals first|rfl|(exfalso;contradiction)|(exfalso;omega)|trace_state
    ·rw[if_neg hv]at hc
     rw[hc]
     clear hst hpn h4 hc he
     refine PC.fn hH cd328 fun w0 M Q hM hE hQ hR=>?_;dsimp only[cd328,qm,ql,qf,qi,qb,qc,qp,qv,qN,qT,qF,qt]at hQ ⊢
     (repeat' first|refine zaa [0,1,2,3,4,5,8,9,10,11,16,23,30,37] fun K hK=>?_|(refine hK.go ?_;clear hK K)|with_reducible exact wT|refine wA ?_|(refine wB (fun h=>?_) (fun h=>?_)<;>first|exact wN h|subst (h:(_:Bool)=_)|skip)|(refine wQ ?_;clear hQ hR hE hM)|refine wC c0 ?_|refine wC c1 ?_|fail)
     all_goals first|rfl|(exfalso;contradiction)|(exfalso;omega)|trace_state
  ·have:zcU p s n v=zag p s:=by unfold zcU;rw[if_neg hst]
   rw[this]
   clear this he
   generalize zag p s=e at *
   refine PC.fn hH cd328 fun w0 M Q hM hE hQ hR=>?_;dsimp only[cd328,qm,ql,qf,qi,qb,qc,qp,qv,qN,qT,qF,qt]at hQ ⊢
   (repeat' first|refine zaa [0,1,2,3,4,5,8,9,10,11,16,23,30,37] fun K hK=>?_|(refine hK.go ?_;clear hK K)|with_reducible exact wT|refine wA ?_|(refine wB (fun h=>?_) (fun h=>?_)<;>first|exact wN h|subst (h:(_:Bool)=_)|skip)|(refine wQ ?_;clear hQ hR hE hM)|refine wC c0 ?_|fail)
   all_goals first|rfl|(exfalso;contradiction)|trace_state
end Go.Lev
namespace Go.Lev
open Go.Eng
set_option maxRecDepth 10000
set_option maxHeartbeats 4000000
variable {P:Program} {inv:Nat→Option Nat} {w0:World} {M:Nat→Prop}
theorem tr_u8 {s:State} (hs:s.ok):∀ t∈s.tracks,0≤t.is:=fun t ht=>(hs.1.2 t ht).2.1
end Go.Lev
namespace Go.Lev
open Go.Eng
set_option maxRecDepth 10000
set_option maxHeartbeats 4000000
variable {P:Program} {inv:Nat→Option Nat} {w0:World} {M:Nat→Prop}
theorem setC_sm {s:State} (h:SmS s) (n v:Int):SmS (ziO s n v):=⟨h.1,by unfold ziO;dsimp only;rw[zbe];exact h.2.1,h.2.2⟩
end Go.Lev
namespace Go.Lev
open Go.Eng
set_option maxRecDepth 10000
set_option maxHeartbeats 4000000
variable {P:Program} {inv:Nat→Option Nat} {w0:World} {M:Nat→Prop}
theorem pointCalls_pc (hH:HasAll P inv) (hI:HasIds P inv) (p:Pln) (hp:Pln.ok p) (s:State) (hs:s.ok) (n v:Int):PC P inv 324 [.agg p.c,.agg s.c,.n n,.n v] (·=.b true):=by
 have c1:=zdj hH p
 have c2:=zfg hH s
 cases g1:zgx p with
 |true =>
  rw[g1]at c1
  refine PC.fn hH cd324 fun w0 M Q hM hE hQ hR=>?_;dsimp only[cd324,qm,ql,qf,qi,qb,qc,qp,qv,qN,qT,qF,qt]at hQ ⊢
  (repeat' first|refine zaa [0,1,2,3,4,5,8,9,10,11,12,13,14,15,21,42,57,59,64,76] fun K hK=>?_|(refine hK.go ?_;clear hK K)|with_reducible exact wT|refine wA ?_|(refine wB (fun h=>?_) (fun h=>?_)<;>first|exact wN h|subst (h:(_:Bool)=_)|skip)|(refine wQ ?_;clear hQ hR hE hM)|refine wC c1 ?_|fail)
 |false =>
  rw[g1]at c1
  cases g2:zhV s with
  |true =>
   rw[g2]at c2
   refine PC.fn hH cd324 fun w0 M Q hM hE hQ hR=>?_;dsimp only[cd324,qm,ql,qf,qi,qb,qc,qp,qv,qN,qT,qF,qt]at hQ ⊢
   (repeat' first|refine zaa [0,1,2,3,4,5,8,9,10,11,12,13,14,15,21,42,57,59,64,76] fun K hK=>?_|(refine hK.go ?_;clear hK K)|with_reducible exact wT|refine wA ?_|(refine wB (fun h=>?_) (fun h=>?_)<;>first|exact wN h|subst (h:(_:Bool)=_)|skip)|(refine wQ ?_;clear hQ hR hE hM)|refine wC c1 ?_|refine wC c2 ?_|fail)
  |false =>
   rw[g2]at c2
   have sp:=sm_of hp g1
   have ss:=zms g2
   have h8:=tr_u8 hs
   have c3:=zcd hH s ss
   have c4:=zqt hH p sp s ss n v
   have c5:=zlM hH hI p sp s ss h8 n
   have c6:=zkM hH p sp s ss n
   have c7:=za6 hH ss (rfl:s=s)
   have hl1:=ss.1
   have hl2:=ss.2.1
   unfold stV stR at c3
   by_cases he:zcU p s n v=0
   ·have c8:=zne hH hI p sp s ss h8 n v he
    have sT:=setC_sm ss n v
    have c9:=za6 hH sT (rfl:ziO s n v=ziO s n v)
    have hnr:=ze0 6 (ziO s n v)
    have e1:zlc p s n v=ziO s n v:=by unfold zlc;rw[if_pos he]
    rw[e1,he]at c4
    have hl3:=sT.1
    have hl4:=sT.2.1
    clear e1 he
    generalize ziO s n v=T at *
    generalize zeJ p s n=e at *
    unfold zen zdn at c8
    unfold zdn at hnr
    refine PC.fn hH cd324 fun w0 M Q hM hE hQ hR=>?_;dsimp only[cd324,qm,ql,qf,qi,qb,qc,qp,qv,qN,qT,qF,qt]at hQ ⊢
    (repeat' first|refine zaa [0,1,2,3,4,5,8,9,10,11,12,13,14,15,21,42,57,59,64,76] fun K hK=>?_|(refine hK.go ?_;clear hK K)|with_reducible exact wT|refine wA ?_|(refine wB (fun h=>?_) (fun h=>?_)<;>first|exact wN h|subst (h:(_:Bool)=_)|skip)|(refine wQ ?_;clear hQ hR hE hM)|refine wC c1 ?_|refine wC c2 ?_|refine wO c3 ?_|refine wV c8 ?_|refine wC c4 ?_|refine wS c9 ?_|refine wS c5 ?_|refine wP c5 ?_|refine wC c6 ?_|fail)
    all_goals first|(exfalso;contradiction)|skip
    refine zae (ι:=Nat) [5,8,9,10,14] (fun z=>[(14,.n z)]) (fun z=>[(15,.cells ((zbN w9 z T.switches).map Switch.c).flatten (decide (0<T.switches.length)))]) (fun z=>z) (T.switches.length) (fun _=>True) (0) ?_;rintro k ⟨hk,-⟩;(try dsimp only at hk ⊢);rcases Nat.lt_or_ge k T.switches.length with hlt|hge
    ·have d1:=zaX w9 hlt
     have d2:=zaz (c:=Switch.c) (l:=zbN w9 k T.switches) (k:=k) (i:=2) (by rw[zaB];exact hlt) (by omega) (.i .i64 9) (w9 k (nth T.switches k)) (by rw[zaI _ hlt];rfl)
     rw[d1]at d2
     (have hX:=@d2;(repeat' first|refine zaa [0,1,2,3,4,5,8,9,10,11,12,13,14,15,21,42,57,59,64,76] fun K hK=>?_|(refine hK.go ?_;clear hK K)|with_reducible exact wT|refine wA ?_|(refine wB (fun h=>?_) (fun h=>?_)<;>first|exact wN h|subst (h:(_:Bool)=_)|skip)|(refine wQ ?_;clear hQ hR hE hM)|fail);all_goals clear hX)
     all_goals first|(exfalso;contradiction)|exact ⟨k+1,by omega,by omega,by omega,rfl⟩|trace_state
    ·(repeat' first|refine zaa [0,1,2,3,4,5,8,9,10,11,12,13,14,15,21,42,57,59,64,76] fun K hK=>?_|(refine hK.go ?_;clear hK K)|with_reducible exact wT|refine wA ?_|(refine wB (fun h=>?_) (fun h=>?_)<;>first|exact wN h|subst (h:(_:Bool)=_)|skip)|(refine wQ ?_;clear hQ hR hE hM)|fail)
     refine zae (ι:=Nat) [5,8,9,10,15] (fun z=>[(15,.n z)]) (fun z=>[(14,.cells ((zbN t9 z T.tracks).map Track.c).flatten (decide (0<T.tracks.length)))]) (fun z=>z) (T.tracks.length) (fun _=>True) (0) ?_;rintro k2 ⟨hk,-⟩;(try dsimp only at hk ⊢);rcases Nat.lt_or_ge k2 T.tracks.length with hlt|hge
     ·have hlt2:k2<T.tracks.length:=by assumption
      have d1:=zaX t9 hlt2
      have d2:=zaz (c:=Track.c) (l:=zbN t9 k2 T.tracks) (k:=k2) (i:=1) (by rw[zaB];exact hlt2) (by omega) (.i .u8 9) (t9 k2 (nth T.tracks k2)) (by rw[zaI _ hlt2];rfl)
      rw[d1]at d2
      (have hX:=@d2;(repeat' first|refine zaa [0,1,2,3,4,5,8,9,10,11,12,13,14,15,21,42,57,59,64,76] fun K hK=>?_|(refine hK.go ?_;clear hK K)|with_reducible exact wT|refine wA ?_|(refine wB (fun h=>?_) (fun h=>?_)<;>first|exact wN h|subst (h:(_:Bool)=_)|skip)|(refine wQ ?_;clear hQ hR hE hM)|fail);all_goals clear hX)
      all_goals first|(exfalso;contradiction)|exact ⟨k2+1,by omega,by omega,by omega,rfl⟩|trace_state
     ·(repeat' first|refine zaa [0,1,2,3,4,5,8,9,10,11,12,13,14,15,21,42,57,59,64,76] fun K hK=>?_|(refine hK.go ?_;clear hK K)|with_reducible exact wT|refine wA ?_|(refine wB (fun h=>?_) (fun h=>?_)<;>first|exact wN h|subst (h:(_:Bool)=_)|skip)|(refine wQ ?_;clear hQ hR hE hM)|refine wS c7 ?_|fail)
      all_goals first|rfl|(exfalso;contradiction)|trace_state
   ·have c8:=callP_pc hH hI p sp s ss h8 n v
    have e1:zlc p s n v=State.z:=by unfold zlc;rw[if_neg he]
    have c9:=za6 hH (a:=State.z) ⟨by decide,by decide,by decide⟩ (rfl:State.z=State.z)
    rw[e1]at c4 c8
    unfold State.z at c4 c8 c9
    clear e1
    generalize zcU p s n v=e at *
    generalize zeJ p s n=e2 at *
    refine PC.fn hH cd324 fun w0 M Q hM hE hQ hR=>?_;dsimp only[cd324,qm,ql,qf,qi,qb,qc,qp,qv,qN,qT,qF,qt]at hQ ⊢
    (repeat' first|refine zaa [0,1,2,3,4,5,8,9,10,11,12,13,14,15,21,42,57,59,64,76] fun K hK=>?_|(refine hK.go ?_;clear hK K)|with_reducible exact wT|refine wA ?_|(refine wB (fun h=>?_) (fun h=>?_)<;>first|exact wN h|subst (h:(_:Bool)=_)|skip)|(refine wQ ?_;clear hQ hR hE hM)|refine wC c1 ?_|refine wC c2 ?_|refine wO c3 ?_|refine wS c8 ?_|refine wC c4 ?_|refine wS c9 ?_|refine wS c5 ?_|refine wP c5 ?_|refine wC c6 ?_|fail)
    all_goals first|(exfalso;contradiction)|skip
    refine zae (ι:=Nat) [5,8,9,10,14] (fun z=>[(14,.n z)]) (fun _=>[]) (fun z=>z) (0) (fun _=>True) (0) ?_;rintro k ⟨hk,-⟩;(try dsimp only at hk ⊢);rcases Nat.lt_or_ge k 0 with hlt|hge
    ·exact absurd hlt (by omega)
    ·(repeat' first|refine zaa [0,1,2,3,4,5,8,9,10,11,12,13,14,15,21,42,57,59,64,76] fun K hK=>?_|(refine hK.go ?_;clear hK K)|with_reducible exact wT|refine wA ?_|(refine wB (fun h=>?_) (fun h=>?_)<;>first|exact wN h|subst (h:(_:Bool)=_)|skip)|(refine wQ ?_;clear hQ hR hE hM)|fail)
     refine zae (ι:=Nat) [5,8,9,10,15] (fun z=>[(15,.n z)]) (fun _=>[]) (fun z=>z) (0) (fun _=>True) (0) ?_;rintro k2 ⟨hk,-⟩;(try dsimp only at hk ⊢);rcases Nat.lt_or_ge k2 0 with hlt|hge
     ·exact absurd (show k2<0 by assumption) (by omega)
     ·(repeat' first|refine zaa [0,1,2,3,4,5,8,9,10,11,12,13,14,15,21,42,57,59,64,76] fun K hK=>?_|(refine hK.go ?_;clear hK K)|with_reducible exact wT|refine wA ?_|(refine wB (fun h=>?_) (fun h=>?_)<;>first|exact wN h|subst (h:(_:Bool)=_)|skip)|(refine wQ ?_;clear hQ hR hE hM)|refine wS c7 ?_|fail)
      all_goals first|rfl|(exfalso;contradiction)|trace_state
end Go.Lev
