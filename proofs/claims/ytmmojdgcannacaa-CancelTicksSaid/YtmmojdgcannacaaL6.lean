/-
  A part of the engine that walks the functions' codes, and of the functions' contracts. Conditions: those that each theorem names.
-/
import Derived.Test.YtmmojdgcannacaaL5
import Derived.IntWalk
set_option linter.unusedSimpArgs false
set_option linter.unusedVariables false
set_option linter.unusedSectionVars false
namespace Go.Lev
open Go.Eng
set_option maxRecDepth 10000
set_option maxHeartbeats 4000000
variable {P:Program} {inv:Nat→Option Nat} {w0:World} {M:Nat→Prop}
def zaX (q:List AskR) (l:List Switch):List Switch:=q.foldl (fun l a=>zdh Switch.id a.pnt (fun t=>⟨t.id,t.lie,a.lie⟩) l) l
theorem zfo (q:List AskR):∀ l:List Switch,(zaX q l).map Switch.id=l.map Switch.id:=by
 induction q with
 |nil=>intro l;rfl
 |cons a q ih=>intro l;show (zaX q _).map Switch.id=_;rw[ih,zhO Switch.id a.pnt (fun t=>⟨t.id,t.lie,a.lie⟩) (fun _=>rfl)]
theorem zcQ (q:List AskR) (l:List Switch):(zaX q l).length=l.length:=by
 have:=congrArg List.length (zfo q l)
 simpa using this
theorem zkn (q:List AskR) (a:AskR) (l:List Switch):zaX (q++[a]) l=zdh Switch.id a.pnt (fun t=>⟨t.id,t.lie,a.lie⟩) (zaX q l):=by unfold zaX;rw[List.foldl_append];rfl
theorem zlY (l:List Switch):zaX [] l=l:=rfl
attribute [go_sem] zlY
theorem fget0 {α:Type} {c:α→List AV} {sz:Nat} [Cells c sz] [Inhabited α] {l:List α} {k:Nat} (hk:k<l.length) (hs:0<sz):(l.map c).flatten[k*sz]?=(c (nth l k))[0]?:=by simpa using zfZ (c:=c) (i:=0) hk hs
def zhe (s:State) (n:Int) (q:List AskR):State:=⟨s.tracks,zaX q s.switches,zdh Lock.id n (fun l=>⟨l.id,1,l.gone,l.left⟩) s.locks⟩
def zmh (n:Int) (_:Nat) (l:Lock):Lock:=if l.id=n then ⟨l.id,1,l.gone,l.left⟩ else l
theorem k1At_all (n:Int) (l:List Lock):l.mapIdx (zmh n)=zdh Lock.id n (fun l=>⟨l.id,1,l.gone,l.left⟩) l:=by
 refine List.ext_getElem (by simp[zdh]) fun i h1 h2=>?_
 simp only[List.getElem_mapIdx,zdh,List.getElem_map]
 rfl
theorem zlM (hH:HasAll P inv) (hI:HasIds P inv) (p:Pln) (hp:Sm p) (s:State) (hs:SmS s) (n:Int) (he:lkC p s n=0):PO P inv 156 [.agg p.c,.agg s.c,.n n] (.tup [zkJ 6 (zhe s n (lkW p s n).asks),.n 0]) (zkK 6 (zhe s n (lkW p s n).asks)):=by
 have c0:=zhA hH hI p hp s hs n
 rw[he]at c0
 have c1:=zeu hH s hs
 have hst:zam p s=0:=by
  unfold lkC at he
  split at he
  ·assumption
  ·rename_i h;exact absurd he h
 have hok:=zaQ hst
 have hpa:=(zaf hst).2.1
 have hpl:=zaw hpa
 have hwl:(lkW p s n).asks.length≤1000∧∀ a∈(lkW p s n).asks,zlQ p a.pnt=true:=by
  unfold lkW
  rw[if_pos hst]
  rcases zbr Lock.id n s.locks with ⟨h4,_⟩|⟨i,hi,h4,h5⟩
  ·rw[show zeg s n=-1 from h4,if_pos (by decide)]
   exact ⟨by simp[WayR.z],fun a ha=>by simp[WayR.z]at ha⟩
  ·rw[show zeg s n=(i:Int) from h4,if_neg (by omega),Int.toNat_natCast]
   split
   ·refine ⟨(zcE hok (zai (by omega))).1,fun a ha=>?_⟩
    obtain ⟨⟨x,hx,ex⟩,_⟩:=zbt hok (zai (show i<p.routes.length by omega)) ha
    exact List.any_eq_true.2 ⟨x,hx,by simpa using ex⟩
   ·exact ⟨by simp[WayR.z],fun a ha=>by simp[WayR.z]at ha⟩
 generalize lkW p s n=w at *
 have hno:(s.switches.map Switch.id).Nodup:=by rw[zdk hpa];exact zdo hok
 obtain ⟨h1,h2,h3⟩:=hs
 have hix:∀ (q:List AskR) (k:Nat),k<w.asks.length→∃ j,j<s.switches.length∧zbN (fun x=>decide (Switch.id x=(nth w.asks k).pnt)) 0 (zaX q s.switches)=(j:Int)∧(nth (zaX q s.switches) j).id=(nth w.asks k).pnt:=fun q k hk=>by
  obtain ⟨y,hy,ey⟩:=swt_of hpa (hwl.2 _ (zai hk))
  have hm:(nth w.asks k).pnt∈(zaX q s.switches).map Switch.id:=by rw[zfo,←ey];exact List.mem_map_of_mem hy
  obtain ⟨z,hz,ez⟩:=List.mem_map.1 hm
  rcases zbr Switch.id (nth w.asks k).pnt (zaX q s.switches) with ⟨_,r⟩|⟨j,hj,q1,q2⟩
  ·exact absurd ez (r z hz)
  ·exact ⟨j,by rw[zcQ]at hj;exact hj,q1,q2⟩
 clear hst hok hpa hpl he
 unfold stV stR at c1
 refine PO.fn hH cd156 fun w0 M Q hM hE hQ hR=>?_;dsimp only[cd156,qm,ql,qf,qi,qb,qc,qp,qv,qN,qT,qF,qt]at hQ ⊢
 skip
 (repeat' first|refine zaa [0,1,2,3,4,5,6,7,8,9,11,12,21,27,28,29,30,43,44,45,54] fun K hK=>?_|(refine hK.go ?_;clear hK K)|with_reducible exact wT|refine wA ?_|(refine wB (fun h=>?_) (fun h=>?_)<;>first|exact wN h|subst (h:(_:Bool)=_)|skip)|(refine wQ ?_;clear hQ hR)|refine wC c0 ?_|refine wO c1 ?_|fail)
 have hcl:=fun q=>zcQ q s.switches
 refine zas (ι:=Nat) [2,4,6,7,27,28,29] (fun z=>[(29,.n z)]) (fun z=>[(7,.cells ((zaX (w.asks.take z) s.switches).map Switch.c).flatten (decide (0<s.switches.length)))]) (fun z=>z) (w.asks.length) (fun _=>True) (0) ?_;rintro k ⟨hk,-⟩;(try dsimp only at hk ⊢);rcases Nat.lt_or_ge k w.asks.length with hlt|hge
 ·obtain ⟨j,hj,q1,q2⟩:=hix (w.asks.take k) k hlt
  have c2:=znr hH (zaX (w.asks.take k) s.switches) (fun x _=>zk7 hH (nth w.asks k).pnt x) (by rw[hcl];omega)
  rw[q1]at c2
  have hno2:((zaX (w.asks.take k) s.switches).map Switch.id).Nodup:=by rw[zfo];exact hno
  have e1:=zkC Switch.id (nth w.asks k).pnt (fun t=>(⟨t.id,t.lie,(nth w.asks k).lie⟩:Switch)) hno2 (by rw[hcl];exact hj) q2
  rw[←zkn,zms hlt]at e1
  have e2:=zc3 (c:=Switch.c) (l:=zaX (w.asks.take k) s.switches) (k:=j) (i:=2) (by rw[hcl];exact hj) (by omega) (.i .i64 (nth w.asks k).lie) (⟨(nth (zaX (w.asks.take k) s.switches) j).id,(nth (zaX (w.asks.take k) s.switches) j).lie,(nth w.asks k).lie⟩:Switch) rfl
  rw[e1]at e2
  have e3:=zc4 (c:=Switch.c) (zaX (w.asks.take k) s.switches)
  rw[hcl]at e3
  have e4:=hcl (w.asks.take k)
  (have hX:=zA @e2 (zA @e3 @e4);(repeat' first|refine zaa [0,1,2,3,4,5,6,7,8,9,11,12,21,27,28,29,30,43,44,45,54] fun K hK=>?_|(refine hK.go ?_;clear hK K)|with_reducible exact wT|refine wA ?_|(refine wB (fun h=>?_) (fun h=>?_)<;>first|exact wN h|subst (h:(_:Bool)=_)|skip)|(refine wQ ?_;clear hQ hR)|(refine AC.callK 30 (by omega) (by first|omega|exact wF|((refine no_implicit_lambda% (st ?_);try with_reducible exact wT);omega)) (zar (F:=cd172) (hH.has _ _ rfl) (Nat.le_of_ble_eq_true rfl) fun Q hQ hR=>?_);dsimp only[cd172,qm,ql,qf,qi,qb,qc,qp,qv,qN,qT,qF,qt]at hQ ⊢;try (refine no_implicit_lambda% (st ?_);try with_reducible exact wT))|refine wS c2 ?_|fail);all_goals clear hX)
  all_goals first|exact ⟨k+1,by omega,by omega,by omega,rfl⟩|trace_state
  all_goals sorry
 ·rw[List.take_of_length_le hge]
  (repeat' first|refine zaa [0,1,2,3,4,5,6,7,8,9,11,12,21,27,28,29,30,43,44,45,54] fun K hK=>?_|(refine hK.go ?_;clear hK K)|with_reducible exact wT|refine wA ?_|(refine wB (fun h=>?_) (fun h=>?_)<;>first|exact wN h|subst (h:(_:Bool)=_)|skip)|(refine wQ ?_;clear hQ hR)|fail)
  refine zas (ι:=Nat) [2,4,6,7,43,44] (fun z=>[(44,.n z)]) (fun z=>[(8,.cells ((zfO (zmh n) z s.locks).map Lock.c).flatten (decide (0<s.locks.length)))]) (fun z=>z) (s.locks.length) (fun _=>True) (0) ?_;rintro k2 ⟨hk,-⟩;(try dsimp only at hk ⊢);rcases Nat.lt_or_ge k2 s.locks.length with hlt|hge
  ·have e1:=zfN (zmh n) (l:=s.locks) (k:=k2) (by assumption)
   have hg:=fget0 (c:=Lock.c) (l:=zfO (zmh n) k2 s.locks) (k:=k2) (by rw[zcq];assumption) (by omega)
   rw[zdF _ (by assumption)]at hg
   by_cases hid:(nth s.locks k2).id=n
   ·have e2:=zc3 (c:=Lock.c) (l:=zfO (zmh n) k2 s.locks) (k:=k2) (i:=1) (by rw[zcq];assumption) (by omega) (.i .u8 1) (zmh n k2 (nth s.locks k2)) (by rw[zdF _ (by assumption)];unfold zmh;rw[if_pos hid];rfl)
    rw[e1]at e2
    (have hX:=zA @hg @e2;(repeat' first|refine zaa [0,1,2,3,4,5,6,7,8,9,11,12,21,27,28,29,30,43,44,45,54] fun K hK=>?_|(refine hK.go ?_;clear hK K)|with_reducible exact wT|refine wA ?_|(refine wB (fun h=>?_) (fun h=>?_)<;>first|exact wN h|subst (h:(_:Bool)=_)|skip)|(refine wQ ?_;clear hQ hR)|fail);all_goals clear hX)
    all_goals first|(exfalso;contradiction)|exact ⟨k2+1,by omega,by omega,by omega,rfl⟩
   ·rw[show zmh n k2 (nth s.locks k2)=nth (zfO (zmh n) k2 s.locks) k2 by rw[zdF _ (by assumption)];unfold zmh;rw[if_neg hid]]at e1
    have e3:zfO (zmh n) k2 s.locks=zfO (zmh n) (k2+1) s.locks:=by
     rw[←e1,zaW (by rw[zcq];assumption),List.set_getElem_self]
    (have hX:=@hg;(repeat' first|refine zaa [0,1,2,3,4,5,6,7,8,9,11,12,21,27,28,29,30,43,44,45,54] fun K hK=>?_|(refine hK.go ?_;clear hK K)|with_reducible exact wT|refine wA ?_|(refine wB (fun h=>?_) (fun h=>?_)<;>first|exact wN h|subst (h:(_:Bool)=_)|skip)|(refine wQ ?_;clear hQ hR)|fail);all_goals clear hX)
    all_goals first|(exfalso;contradiction)|exact ⟨k2+1,by omega,by omega,by omega,by rw[←e3]⟩
  ·rw[zhN _ (by assumption),k1At_all]
   (repeat' first|refine zaa [0,1,2,3,4,5,6,7,8,9,11,12,21,27,28,29,30,43,44,45,54] fun K hK=>?_|(refine hK.go ?_;clear hK K)|with_reducible exact wT|refine wA ?_|(refine wB (fun h=>?_) (fun h=>?_)<;>first|exact wN h|subst (h:(_:Bool)=_)|skip)|(refine wQ ?_;clear hQ hR)|fail)
   all_goals (left;unfold zkJ zkK zhe;dsimp only;rw[zcQ,zcV];constructor)
   all_goals (refine no_implicit_lambda% (st ?_);try with_reducible exact wT)
end Go.Lev
namespace Go.Lev
open Go.Eng
theorem zi5:∀ (l:List AskR) (m:List Bool),m.length=100→(∀ a∈l,0≤a.pnt∧a.pnt≤99)→(zi6 m l=true↔(∀ a∈l,nth m a.pnt.toNat=false)∧(l.map AskR.pnt).Nodup)
 |[],m,_,_=>by simp[zi6]
 |a::r,m,hm,hr=>by
  have h0:=hr a (by simp)
  have ih:=zi5 r (m.set a.pnt.toNat true) (by simpa using hm) fun b hb=>hr b (by simp[hb])
  rw[zi6,Bool.and_eq_true,ih]
  simp only[List.map_cons,List.nodup_cons,List.mem_cons,forall_eq_or_imp,Bool.not_eq_true',List.mem_map,not_exists,not_and]
  have key:∀ b∈r,nth (m.set a.pnt.toNat true) b.pnt.toNat=false↔(nth m b.pnt.toNat=false∧b.pnt≠a.pnt):=fun b hb=>by
   have hb':=hr b (by simp[hb])
   rw[zbk _ _ _ _ (by omega)]
   by_cases e:b.pnt=a.pnt
   ·rw[e,if_pos rfl];simp
   ·rw[if_neg (by omega)];simp[e]
  constructor
  ·rintro ⟨h1,h2,h3⟩
   exact ⟨⟨h1,fun b hb=>((key b hb).1 (h2 b hb)).1⟩,fun b hb=>((key b hb).1 (h2 b hb)).2,h3⟩
  ·rintro ⟨⟨h1,h2⟩,h3,h4⟩
   exact ⟨h1,fun b hb=>(key b hb).2 ⟨h2 b hb,h3 b hb⟩,h4⟩
theorem once_iff {l:List AskR} (h:∀ a∈l,0≤a.pnt∧a.pnt≤99):once l=true↔(l.map AskR.pnt).Nodup:=by
 unfold once
 rw[zi5 l _ (by simp) h]
 constructor
 ·exact fun h=>h.2
 ·intro h2
  exact ⟨fun a ha=>by have:=h a ha;exact zgG _ _ _ (by omega),h2⟩
theorem zfs {p:Pln} (ho:zbq p=true) {r:Rte} (hr:r∈p.routes):((zah p r).1.asks.map AskR.pnt).Nodup:=by
 obtain ⟨hok,_,h3⟩:=zbf ho
 have:=h3 r hr
 simp only[zct,Bool.and_eq_true]at this
 exact (once_iff fun a ha=>by have:=zbt hok hr ha;omega).1 this.1
def zd5 (l:List Switch) (n:Int):Int:=zeW (zfV [] l) n
theorem zl0 (l:List Switch) {n m:Int} (v:Int) (h:m≠n):zd5 (zdh Switch.id n (fun t=>⟨t.id,t.lie,v⟩) l) m=zd5 l m:=zh9 n v m h l [] [] rfl
theorem zn0 {l:List Switch} (hn:(l.map Switch.id).Nodup) {n:Int} (v:Int) (h:n∈l.map Switch.id):zd5 (zdh Switch.id n (fun t=>⟨t.id,t.lie,v⟩) l) n=v:=by
 obtain ⟨x,hx,e⟩:=List.mem_map.1 h
 have h1:(⟨x.id,x.lie,v⟩:Switch)∈zdh Switch.id n (fun t=>⟨t.id,t.lie,v⟩) l:=by
  unfold zdh
  exact List.mem_map.2 ⟨x,hx,by rw[if_pos e]⟩
 have:=zj8 (zdh Switch.id n (fun t=>⟨t.id,t.lie,v⟩) l) [] (by rw[zhO Switch.id n (fun t=>⟨t.id,t.lie,v⟩) (fun _=>rfl)];exact hn) _ h1
 dsimp only at this
 rw[e]at this
 exact this
theorem zfn:∀ (q:List AskR) (l:List Switch) {n:Int},(∀ a∈q,a.pnt≠n)→zd5 (zaX q l) n=zd5 l n
 |[],_,_,_=>rfl
 |a::q,l,n,h=>by
  show zd5 (zaX q (zdh Switch.id a.pnt (fun t=>⟨t.id,t.lie,a.lie⟩) l)) n=_
  rw[zfn q _ fun b hb=>h b (by simp[hb]),zl0 l a.lie (fun e=>h a (by simp) e.symm)]
theorem zeP:∀ (q:List AskR) (l:List Switch),(l.map Switch.id).Nodup→(q.map AskR.pnt).Nodup→∀ a∈q,a.pnt∈l.map Switch.id→zd5 (zaX q l) a.pnt=a.lie
 |[],_,_,_,a,ha,_=>by cases ha
 |b::q,l,hl,hq,a,ha,hi=>by
  simp only[List.map_cons,List.nodup_cons]at hq
  show zd5 (zaX q (zdh Switch.id b.pnt (fun t=>⟨t.id,t.lie,b.lie⟩) l)) a.pnt=_
  rcases List.mem_cons.1 ha with rfl|ha
  ·rw[zfn q _ fun c hc e=>hq.1 (by rw[←e];exact List.mem_map_of_mem hc),zn0 hl _ hi]
  ·refine zeP q _ (by rw[zhO Switch.id b.pnt (fun t=>⟨t.id,t.lie,b.lie⟩) (fun _=>rfl)];exact hl) hq.2 a ha ?_
   rw[zhO Switch.id b.pnt (fun t=>⟨t.id,t.lie,b.lie⟩) (fun _=>rfl)];exact hi
end Go.Lev
namespace Go.Lev
open Go.Eng
theorem zml {p:Pln} {s:State} (h:zan p s=true):(zof p s).length=s.locks.length:=by
 have:=zaw h
 simp only[zof,List.length_zip,zaD,List.length_map]
 omega
theorem zeY {p:Pln} {s:State} (h:zan p s=true) {i:Nat} (hi:i<(zof p s).length):(zof p s)[i]=((zah p (nth p.routes i)).1,nth s.locks i):=by
 have h1:=zml h
 have h2:=zaw h
 simp[zof,zaD,zaW (show i<p.routes.length by omega),zaW (show i<s.locks.length by omega)]
theorem zjA {p:Pln} {s:State} (h:zan p s=true):zkA (zof p s)↔∀ i j,i<s.locks.length→j<s.locks.length→i≠j→∀ m∈zmj p s i,m∉zmj p s j:=by
 have hl:=zml h
 unfold zkA
 rw[List.pairwise_iff_getElem]
 constructor
 ·intro hp i j hi hj hne m hm hm'
  rcases Nat.lt_trichotomy i j with hlt|e|hlt
  ·have:=hp i j (by omega) (by omega) hlt
   rw[zeY h,zeY h]at this
   exact this m hm hm'
  ·exact hne e
  ·have:=hp j i (by omega) (by omega) hlt
   rw[zeY h,zeY h]at this
   exact this m hm' hm
 ·intro hp i j hi hj hlt
  rw[zeY h,zeY h]
  exact hp i j (by omega) (by omega) (by omega)
theorem zfH {p:Pln} {s:State} (h:zan p s=true):zlo s (zof p s)↔∀ i,i<s.locks.length→∀ a∈zn6 p s i,zb6 s a.pnt=a.lie:=by
 have h2:=zaw h
 constructor
 ·intro hp i hi a ha
  exact hp _ (zof_at h (by omega)) a ha
 ·intro hp z hz a ha
  obtain ⟨i,r,_,hi,e1,e2,_,e3,_⟩:=zeX h hz
  refine hp i (by omega) a ?_
  unfold zn6
  rw[e1,e2,←e3]
  exact ha
theorem zek {p:Pln} {s:State}:zam p s=0↔zbq p=true∧zan p s=true∧(∀ i j,i<s.locks.length→j<s.locks.length→i≠j→∀ m∈zmj p s i,m∉zmj p s j)∧∀ i,i<s.locks.length→∀ a∈zn6 p s i,zb6 s a.pnt=a.lie:=by
 rw[ze1]
 constructor
 ·rintro ⟨h1,h2,h3,h4⟩;exact ⟨h1,h2,(zjA h2).1 h3,(zfH h2).1 h4⟩
 ·rintro ⟨h1,h2,h3,h4⟩;exact ⟨h1,h2,(zjA h2).2 h3,(zfH h2).2 h4⟩
theorem zeQ (s:State) (n:Int):zb6 s n=zd5 s.switches n:=rfl
theorem zlZ (q:List AskR):∀ (l:List Switch) (k:Nat),k<l.length→(nth (zaX q l) k).id=(nth l k).id∧(nth (zaX q l) k).lie=(nth l k).lie∧((nth (zaX q l) k).call=(nth l k).call∨∃ a∈q,a.pnt=(nth l k).id∧(nth (zaX q l) k).call=a.lie):=by
 induction q with
 |nil=>intro l k _;exact ⟨rfl,rfl,.inl rfl⟩
 |cons b q ih =>
  intro l k hk
  have h1:=ih (zdh Switch.id b.pnt (fun t=>⟨t.id,t.lie,b.lie⟩) l) k (by rw[zcV];exact hk)
  have h2:nth (zdh Switch.id b.pnt (fun t=>(⟨t.id,t.lie,b.lie⟩:Switch)) l) k=if (nth l k).id=b.pnt then ⟨(nth l k).id,(nth l k).lie,b.lie⟩ else nth l k:=by
   unfold zdh
   exact zlK (fun x=>if Switch.id x=b.pnt then (⟨x.id,x.lie,b.lie⟩:Switch) else x) hk
  rw[show zaX (b::q) l=zaX q (zdh Switch.id b.pnt (fun t=>⟨t.id,t.lie,b.lie⟩) l) from rfl]
  rw[h2]at h1
  by_cases e:(nth l k).id=b.pnt
  ·rw[if_pos e]at h1
   dsimp only at h1
   refine ⟨h1.1,h1.2.1,.inr ?_⟩
   rcases h1.2.2 with h3|⟨a,ha,h3,h4⟩
   ·exact ⟨b,by simp,e.symm,h3⟩
   ·exact ⟨a,by simp[ha],h3,h4⟩
  ·rw[if_neg e]at h1
   refine ⟨h1.1,h1.2.1, ?_⟩
   rcases h1.2.2 with h3|⟨a,ha,h3,h4⟩
   ·exact .inl h3
   ·exact .inr ⟨a,by simp[ha],h3,h4⟩
section
variable {p:Pln} {s:State} {i:Nat} (h:zam p s=0) (hi:i<s.locks.length) (hph:(nth s.locks i).phase=0)
include h hi
theorem zes {n:Int} (hid:(nth s.locks i).id=n) (q:List AskR) {j:Nat} (hj:j<s.locks.length):nth (zhe s n q).locks j=if j=i then ⟨n,1,(nth s.locks i).gone,(nth s.locks i).left⟩ else nth s.locks j:=by
 show nth (zdh Lock.id n (fun l=>⟨l.id,1,l.gone,l.left⟩) s.locks) j=_
 have h2:nth (zdh Lock.id n (fun l=>(⟨l.id,1,l.gone,l.left⟩:Lock)) s.locks) j=if (nth s.locks j).id=n then ⟨(nth s.locks j).id,1,(nth s.locks j).gone,(nth s.locks j).left⟩ else nth s.locks j:=by
  unfold zdh
  exact zlK (fun x=>if Lock.id x=n then (⟨x.id,1,x.gone,x.left⟩:Lock) else x) hj
 rw[h2]
 by_cases e:j=i
 ·subst e;rw[if_pos hid,if_pos rfl,hid]
 ·rw[if_neg e,if_neg (fun e2=>e (zkc h hj hi (e2.trans hid.symm)))]
include hph
theorem zey:(nth s.locks i).gone=0∧(nth s.locks i).left=0:=by
 have:=zfD (zaf h).2.1 hi
 simp only[zcj,zb9,hph,Bool.and_eq_true]at this
 simpa using this.2
theorem zlz {n:Int} (hid:(nth s.locks i).id=n):zan p (zhe s n (zah p (nth p.routes i)).1.asks)=true:=by
 have hpa:=(zaf h).2.1
 have hok:=zaQ h
 have hl:=zaw hpa
 have hp2:=hpa
 unfold zan at hpa ⊢
 simp only[Bool.and_eq_true,zdE]at hpa ⊢
 refine ⟨hpa.1,⟨by show (zaX _ _).length=_;rw[zcQ];exact hpa.2.1.1,fun k hk=>?_⟩,by show (zdh _ _ _ _).length=_;rw[zcV];exact hpa.2.2.1,fun k hk=>?_⟩
 ·have hk':k<s.switches.length:=by have:k<(zaX (zah p (nth p.routes i)).1.asks s.switches).length:=hk;rw[zcQ]at this;exact this
  have h1:=hpa.2.1.2 k hk'
  have h2:=zlZ (zah p (nth p.routes i)).1.asks s.switches k hk'
  show ziA (nth (zaX _ s.switches) k) _=true
  simp only[ziA,zfh,Bool.and_eq_true,decide_eq_true_eq]at h1 ⊢
  refine ⟨h2.1.trans h1.1,by rw[h2.2.1];exact h1.2.1, ?_⟩
  rcases h2.2.2 with e|⟨a,ha,_,e⟩
  ·rw[e];exact h1.2.2
  ·have:=(zbt hok (zai (show i<p.routes.length by omega)) ha).2.2
   rw[e];omega
 ·have hk':k<s.locks.length:=by have:k<(zdh Lock.id n (fun l=>(⟨l.id,1,l.gone,l.left⟩:Lock)) s.locks).length:=hk;rw[zcV]at this;exact this
  rw[zes h hi hid _ hk']
  have h1:=hpa.2.2.2 k hk'
  split
  ·rename_i e
   subst e
   have hr:=zey h hi hph
   simp only[zcj,zb9,Bool.and_eq_true,decide_eq_true_eq]at h1 ⊢
   refine ⟨hid▸h1.1, ?_⟩
   simp[hr.1,hr.2]
  ·exact h1
theorem zmF {n:Int} (hid:(nth s.locks i).id=n) (hf:∀ m∈(zah p (nth p.routes i)).1.path++(zah p (nth p.routes i)).1.over,nth (zaJ p s).1 m.toNat=0)
  (hk:∀ a∈(zah p (nth p.routes i)).1.asks,zb6 s a.pnt=a.lie∨nth (zaJ p s).2.1 a.pnt.toNat=0):zam p (zhe s n (zah p (nth p.routes i)).1.asks)=0:=by
 have h':=zek.1 h
 obtain ⟨h1,h2,h3,h4⟩:=h'
 have hok:=zaQ h
 have hl:=zaw h2
 have hr:=zey h hi hph
 have hsl:(zhe s n (zah p (nth p.routes i)).1.asks).locks.length=s.locks.length:=zcV _ _ _ _
 have hwr:nth p.routes i∈p.routes:=zai (by omega)
 have hd:∀ j,j<s.locks.length→zmj p (zhe s n (zah p (nth p.routes i)).1.asks) j=if j=i then (zah p (nth p.routes i)).1.path++(zah p (nth p.routes i)).1.over else zmj p s j:=fun j hj=>by
  unfold zmj
  rw[zes h hi hid _ hj]
  by_cases e:j=i
  ·subst e
   rw[if_pos rfl,if_pos rfl]
   unfold zbm
   rw[if_neg (by dsimp only;omega)]
   dsimp only
   rw[hr.1];rfl
  ·rw[if_neg e,if_neg e]
 have ha:∀ j,j<s.locks.length→zn6 p (zhe s n (zah p (nth p.routes i)).1.asks) j=if j=i then (zah p (nth p.routes i)).1.asks else zn6 p s j:=fun j hj=>by
  unfold zn6
  rw[zes h hi hid _ hj]
  by_cases e:j=i
  ·subst e
   rw[if_pos rfl,if_pos rfl]
   unfold zbw
   rw[if_neg (by dsimp only;omega)]
   refine List.filter_eq_self.2 fun a _=>?_
   simp only[zcS,hr.1,Bool.or_eq_true,decide_eq_true_eq]
   omega
  ·rw[if_neg e,if_neg e]
 have hnd:(s.switches.map Switch.id).Nodup:=by rw[zdk h2];exact zdo hok
 refine zek.2 ⟨h1,zlz h hi hph hid,fun a b ha' hb' hne m hm hm'=>?_,fun j hj a haj=>?_⟩
 ·rw[hsl]at ha' hb'
  rw[hd a ha']at hm
  rw[hd b hb']at hm'
  have free:∀ j,j<s.locks.length→∀ m∈(zah p (nth p.routes i)).1.path++(zah p (nth p.routes i)).1.over,m∉zmj p s j:=fun j hj m hm hm'=>by
   have e1:=hf m hm
   have e2:=zkg h (zgz h hj) hm'
   have:=zkb h hj
   rw[e1]at e2
   dsimp only at e2
   omega
  by_cases e:a=i
  ·rw[if_pos e]at hm
   rw[if_neg (fun e2=>hne (e.trans e2.symm))]at hm'
   exact free b hb' m hm hm'
  ·rw[if_neg e]at hm
   by_cases e2:b=i
   ·rw[if_pos e2]at hm'
    exact free a ha' m hm' hm
   ·rw[if_neg e2]at hm'
    exact h3 a b ha' hb' hne m hm hm'
 ·rw[hsl]at hj
  rw[ha j hj]at haj
  rw[zeQ]
  show zd5 (zaX _ s.switches) a.pnt=_
  by_cases e:j=i
  ·rw[if_pos e]at haj
   refine zeP _ _ hnd (zfs h1 hwr) a haj ?_
   obtain ⟨x,hx,ex⟩:=(zbt hok hwr haj).1
   rw[zdk h2,←ex]
   exact List.mem_map_of_mem hx
  ·rw[if_neg e]at haj
   have h5:=h4 j hj a haj
   rcases Classical.em (∃ b∈(zah p (nth p.routes i)).1.asks,b.pnt=a.pnt) with ⟨b,hb,eb⟩|hno
   ·have h6:=zeP _ s.switches hnd (zfs h1 hwr) b hb (by
     obtain ⟨x,hx,ex⟩:=(zbt hok hwr hb).1
     rw[zdk h2,←ex]
     exact List.mem_map_of_mem hx)
    rw[←eb,h6]
    rcases hk b hb with h7|h7
    ·rw[←h7,eb];exact h5
    ·rw[eb,ask_is h hj haj]at h7
     have:=znd h hj haj
     omega
   ·rw[zfn _ _ fun b hb e=>hno ⟨b,hb,e⟩]
    exact h5
end
end Go.Lev
namespace Go.Lev
open Go.Eng
theorem znE {p:Pln} {s:State} (ho:OkP p) (h:zan p s=true) (n:Int):frT s n=decide (zmi s n=0):=by
 rw[Bool.eq_iff_iff,decide_eq_true_eq]
 constructor
 ·intro h1
  obtain ⟨x,hx,e⟩:=List.any_eq_true.1 h1
  simp only[Bool.and_eq_true,decide_eq_true_eq]at e
  obtain ⟨k,hk,rfl⟩:=mem_nth hx
  rw[e.1,isOf_at ho h hk];exact e.2.symm
 ·intro h1
  unfold zmi at h1
  cases e:s.tracks.find? fun t=>decide (t.id=n) with
  |none=>rw[e]at h1;exact absurd h1 (by decide)
  |some t =>
   rw[e]at h1
   have h2:=List.find?_some e
   exact List.any_eq_true.2 ⟨t,List.mem_of_find?_eq_some e,by
    simp only[Bool.and_eq_true,decide_eq_true_eq]
    exact ⟨(show t.id=n by simpa using h2).symm,h1.symm⟩⟩
theorem znb {p:Pln} {s:State} (h:zam p s=0) {i:Nat} (hi:i<s.locks.length) {n:Int} (hid:(nth s.locks i).id=n):zeg s n=(i:Int):=by
 unfold zeg
 rcases zbr Lock.id n s.locks with ⟨_,h4⟩|⟨k,hk,h4,h5⟩
 ·exact absurd hid (h4 _ (zai hi))
 ·rw[h4,zkc h hk hi (h5.trans hid.symm)]
theorem lkC_at {p:Pln} {s:State} (h:zam p s=0) {i:Nat} (hi:i<s.locks.length) {n:Int} (hid:(nth s.locks i).id=n):lkC p s n=if (nth s.locks i).phase=0 then setE p s i else 180:=by
 unfold lkC
 rw[if_pos h,znb h hi hid,if_neg (by omega),Int.toNat_natCast]
theorem lkC_no {p:Pln} {s:State} (h:zam p s=0) {n:Int} (hid:∀ x∈s.locks,x.id≠n):lkC p s n=6:=by
 unfold lkC
 rw[if_pos h,if_pos]
 unfold zeg
 rcases zbr Lock.id n s.locks with ⟨h3,_⟩|⟨k,hk,h4,h5⟩
 ·rw[h3];decide
 ·exact absurd h5 (hid _ (zai hk))
def leF (p:Pln) (s:State) (n e:Int) (w:WayR) (H A:Int→Int):Bool :=
 zfe (fun i _ zcN=>cond (!decide ((nth s.locks i).id=n)) (zcN ())
   (cond (!decide ((nth s.locks i).phase=0)) (decide (e=180))
    (zfe (fun k _ next2=>cond (!decide (H (nth (w.path++w.over) k)=0)) (decide (e=181)) (cond (!decide (zmi s (nth (w.path++w.over) k)=0)) (decide (e=182)) (next2 ())))
     (fun _=>zfe (fun k _ next3 =>
       zfe (fun m _ next4=>cond (decide ((nth s.switches m).id=(nth w.asks k).pnt)&&!decide ((nth s.switches m).call=(nth w.asks k).lie)&&(!decide (A (nth s.switches m).id=0)||!decide (zmi s (nth p.points m).sec=0))) (decide (e=183)) (next4 ()))
        (fun _=>next3 ()) s.switches.length 0 ())
      (fun _=>decide (e=0)) w.asks.length 0 ()) (w.path++w.over).length 0 ())))
  (fun _=>decide (e=6)) s.locks.length 0 ()
end Go.Lev
namespace Go.Lev
open Go.Eng
set_option maxRecDepth 10000
set_option maxHeartbeats 4000000
variable {P:Program} {inv:Nat→Option Nat} {w0:World} {M:Nat→Prop}
section
variable {L:List Lock} {k:Nat} (h:k<L.length)
include h
theorem zec (v:Int):(L.map Lock.c).flatten.set (k*4) (.i .i64 v)=((L.set k ⟨v,(nth L k).phase,(nth L k).gone,(nth L k).left⟩).map Lock.c).flatten:=by
 have:=zc3 (c:=Lock.c) (l:=L) (k:=k) (i:=0) h (by omega) (.i .i64 v) ⟨v,(nth L k).phase,(nth L k).gone,(nth L k).left⟩ rfl
 simpa using this
theorem lk_set1 (v:Int):(L.map Lock.c).flatten.set (k*4+1) (.i .u8 v)=((L.set k ⟨(nth L k).id,v,(nth L k).gone,(nth L k).left⟩).map Lock.c).flatten :=
 zc3 (c:=Lock.c) (l:=L) (k:=k) (i:=1) h (by omega) (.i .u8 v) ⟨(nth L k).id,v,(nth L k).gone,(nth L k).left⟩ rfl
theorem lk_set2 (v:Int):(L.map Lock.c).flatten.set (k*4+2) (.i .i64 v)=((L.set k ⟨(nth L k).id,(nth L k).phase,v,(nth L k).left⟩).map Lock.c).flatten :=
 zc3 (c:=Lock.c) (l:=L) (k:=k) (i:=2) h (by omega) (.i .i64 v) ⟨(nth L k).id,(nth L k).phase,v,(nth L k).left⟩ rfl
theorem zj9 (v:Int):(L.map Lock.c).flatten.set (k*4+3) (.i .i64 v)=((L.set k ⟨(nth L k).id,(nth L k).phase,(nth L k).gone,v⟩).map Lock.c).flatten :=
 zc3 (c:=Lock.c) (l:=L) (k:=k) (i:=3) h (by omega) (.i .i64 v) ⟨(nth L k).id,(nth L k).phase,(nth L k).gone,v⟩ rfl
theorem zka:(L.map Lock.c).flatten[k*4]?=some (.i .i64 (nth L k).id):=fget0 (c:=Lock.c) (l:=L) h (by omega)
theorem zfg:(L.map Lock.c).flatten[k*4+1]?=some (.i .u8 (nth L k).phase):=zfZ (c:=Lock.c) (l:=L) (i:=1) h (by omega)
theorem zff:(L.map Lock.c).flatten[k*4+2]?=some (.i .i64 (nth L k).gone):=zfZ (c:=Lock.c) (l:=L) (i:=2) h (by omega)
theorem zic:(L.map Lock.c).flatten[k*4+3]?=some (.i .i64 (nth L k).left):=zfZ (c:=Lock.c) (l:=L) (i:=3) h (by omega)
theorem zfd (x:Lock):nth (L.set k x) k=x:=by rw[zbk _ _ _ _ h,if_pos rfl]
end
theorem zhW (L:List Lock) (k:Nat) (x y:Lock):(L.set k x).set k y=L.set k y:=by rw[List.set_set]
section
variable {L:List Lock} {k:Nat} (h:k<L.length) (x:Lock)
include h
theorem zk3 (v:Int):((L.set k x).map Lock.c).flatten.set (k*4) (.i .i64 v)=((L.set k ⟨v,x.phase,x.gone,x.left⟩).map Lock.c).flatten:=by rw[zec (by simpa using h),zfd h,zhW]
theorem zcy (v:Int):((L.set k x).map Lock.c).flatten.set (k*4+1) (.i .u8 v)=((L.set k ⟨x.id,v,x.gone,x.left⟩).map Lock.c).flatten:=by rw[lk_set1 (by simpa using h),zfd h,zhW]
theorem zcx (v:Int):((L.set k x).map Lock.c).flatten.set (k*4+2) (.i .i64 v)=((L.set k ⟨x.id,x.phase,v,x.left⟩).map Lock.c).flatten:=by rw[lk_set2 (by simpa using h),zfd h,zhW]
theorem zcw (v:Int):((L.set k x).map Lock.c).flatten.set (k*4+3) (.i .i64 v)=((L.set k ⟨x.id,x.phase,x.gone,v⟩).map Lock.c).flatten:=by rw[zj9 (by simpa using h),zfd h,zhW]
theorem zk5:((L.set k x).map Lock.c).flatten[k*4]?=some (.i .i64 x.id):=by rw[zka (by simpa using h),zfd h]
theorem zk4:((L.set k x).map Lock.c).flatten[k*4+3]?=some (.i .i64 x.left):=by rw[zic (by simpa using h),zfd h]
end
def zbM (l:Lock):Lock:=if l.left=0 then l else if l.left-1=0 then ⟨l.id,0,0,0⟩ else ⟨l.id,l.phase,l.gone,l.left-1⟩
def zhP (s:State):State:=⟨s.tracks,s.switches,s.locks.map zbM⟩
theorem zi7 {α:Type} (f:α→α) (l:List α):l.mapIdx (fun _ x=>f x)=l.map f:=by
 refine List.ext_getElem (by simp) fun i h1 h2=>by simp
theorem updI_id {α:Type} [Inhabited α] (f:Nat→α→α) {k:Nat} {l:List α} (h:k<l.length) (e:f k (nth l k)=nth l k):zfO f k l=zfO f (k+1) l:=by
 have e1:=zfN f h
 rw[e,←zdF f h,zaW (by rw[zcq];exact h),List.set_getElem_self]at e1
 exact e1
theorem tick_po (hH:HasAll P inv) (hI:HasIds P inv) (p:Pln) (hp:Sm p) (s:State) (hs:SmS s) (he:zam p s=0):PO P inv 163 [.agg p.c,.agg s.c] (.tup [zkJ 5 (zhP s),.n 0]) (zkK 5 (zhP s)):=by
 have c0:=zdG hH hI p hp s hs
 rw[he]at c0
 have c1:=zeu hH s hs
 have hlf:∀ k,k<s.locks.length→0≤(nth s.locks k).left∧(nth s.locks k).left≤9:=fun k hk=>by
  have hpa:=(zaf he).2.1
  have hpl:=zaw hpa
  have h1:=znf (zfD hpa hk)
  have h2:=zkE (zaQ he) (zai (show k<p.routes.length by omega))
  omega
 obtain ⟨h1,h2,h3⟩:=hs
 unfold stV stR at c1
 refine PO.fn hH cd163 fun w0 M Q hM hE hQ hR=>?_;dsimp only[cd163,qm,ql,qf,qi,qb,qc,qp,qv,qN,qT,qF,qt]at hQ ⊢
 (repeat' first|refine zaa [0,1,2,3,4,5,6,7,8,13,20,21,22,32,44] fun K hK=>?_|(refine hK.go ?_;clear hK K)|with_reducible exact wT|refine wA ?_|(refine wB (fun h=>?_) (fun h=>?_)<;>first|exact wN h|subst (h:(_:Bool)=_)|skip)|(refine wR ?_;clear hQ hR hE hM)|refine wC c0 ?_|refine wO c1 ?_|fail)
 all_goals first|(exfalso;contradiction)|skip
 refine zas (ι:=Nat) [3,4,5,20,21] (fun z=>[(21,.n z)]) (fun z=>[(7,.cells ((zfO (fun _ l=>zbM l) z s.locks).map Lock.c).flatten (decide (0<s.locks.length)))]) (fun z=>z) (s.locks.length) (fun _=>True) (0) ?_;rintro k ⟨hk,-⟩;(try dsimp only at hk ⊢);rcases Nat.lt_or_ge k s.locks.length with hlt|hge
 ·have e1:=zfN (fun _ l=>zbM l) hlt
  have en:=zdF (fun _ l=>zbM l) hlt
  have hlen:(zfO (fun _ l=>zbM l) k s.locks).length=s.locks.length:=zcq _ _ _
  have hl9:=hlf k hlt
  have eid:=updI_id (fun _ l=>zbM l) hlt
  (try dsimp only at e1);(try dsimp only at eid)
  generalize hU:zfO (fun _ l=>zbM l) k s.locks=U at *
  have hk:k<U.length:=by omega
  by_cases h0:(nth s.locks k).left=0
  ·have eid:=eid (by unfold zbM;rw[if_pos h0])
   have hd:decide ((nth s.locks k).left=0)=true:=decide_eq_true h0
   (have hX:=zA (zic hk) (zA @en (zA @hlen @hd));(repeat' first|refine zaa [0,1,2,3,4,5,6,7,8,13,20,21,22,32,44] fun K hK=>?_|(refine hK.go ?_;clear hK K)|with_reducible exact wT|refine wA ?_|(refine wB (fun h=>?_) (fun h=>?_)<;>first|exact wN h|subst (h:(_:Bool)=_)|skip)|(refine wR ?_;clear hQ hR hE hM)|fail);all_goals clear hX)
   all_goals first|(exfalso;contradiction)|exact ⟨k+1,by omega,by omega,by omega,by rw[eid]⟩|trace_state
  ·have hd:decide ((nth s.locks k).left=0)=false:=decide_eq_false h0
   by_cases hl1:(nth s.locks k).left-1=0
   ·rw[show zbM (nth s.locks k)=⟨(nth s.locks k).id,0,0,0⟩ by unfold zbM;rw[if_neg h0,if_pos hl1]]at e1
    have hd1:decide ((nth s.locks k).left-1=0)=true:=decide_eq_true hl1
    (have hX:=zA (zka hk) (zA (zic hk) (zA (zk5 hk) (zA (zk4 hk) (zA (zj9 hk) (zA (zk3 hk) (zA (zcy hk) (zA (zcx hk) (zA (zcw hk) (zA @en (zA @hlen (zA @hd @hd1)))))))))));(repeat' first|refine zaa [0,1,2,3,4,5,6,7,8,13,20,21,22,32,44] fun K hK=>?_|(refine hK.go ?_;clear hK K)|with_reducible exact wT|refine wA ?_|(refine wB (fun h=>?_) (fun h=>?_)<;>first|exact wN h|subst (h:(_:Bool)=_)|skip)|(refine wR ?_;clear hQ hR hE hM)|fail);all_goals clear hX)
    all_goals first|(exfalso;contradiction)|exact ⟨k+1,by omega,by omega,by omega,by rw[←e1]⟩|trace_state
   ·rw[show zbM (nth s.locks k)=⟨(nth s.locks k).id,(nth s.locks k).phase,(nth s.locks k).gone,(nth s.locks k).left-1⟩ by unfold zbM;rw[if_neg h0,if_neg hl1]]at e1
    have hd1:decide ((nth s.locks k).left-1=0)=false:=decide_eq_false hl1
    (have hX:=zA (zka hk) (zA (zic hk) (zA (zk5 hk) (zA (zk4 hk) (zA (zj9 hk) (zA (zk3 hk) (zA (zcy hk) (zA (zcx hk) (zA (zcw hk) (zA @en (zA @hlen (zA @hd @hd1)))))))))));(repeat' first|refine zaa [0,1,2,3,4,5,6,7,8,13,20,21,22,32,44] fun K hK=>?_|(refine hK.go ?_;clear hK K)|with_reducible exact wT|refine wA ?_|(refine wB (fun h=>?_) (fun h=>?_)<;>first|exact wN h|subst (h:(_:Bool)=_)|skip)|(refine wR ?_;clear hQ hR hE hM)|fail);all_goals clear hX)
    all_goals first|(exfalso;contradiction)|exact ⟨k+1,by omega,by omega,by omega,by rw[←e1]⟩|trace_state
 ·rw[zhN _ hge,zi7]
  (repeat' first|refine zaa [0,1,2,3,4,5,6,7,8,13,20,21,22,32,44] fun K hK=>?_|(refine hK.go ?_;clear hK K)|with_reducible exact wT|refine wA ?_|(refine wB (fun h=>?_) (fun h=>?_)<;>first|exact wN h|subst (h:(_:Bool)=_)|skip)|(refine wR ?_;clear hQ hR hE hM)|fail)
  all_goals (left;unfold zkJ zkK zhP;dsimp only;rw[List.length_map];constructor)
  all_goals (refine no_implicit_lambda% (st ?_);try with_reducible exact wT)
def zlr (p:Pln) (s:State):State:=if zam p s=0 then zhP s else State.z
theorem zmp (hH:HasAll P inv) (hI:HasIds P inv) (p:Pln) (hp:Sm p) (s:State) (hs:SmS s):PC P inv 163 [.agg p.c,.agg s.c] (·=.tup [.agg (zlr p s).c,.n (zam p s)]):=by
 unfold zlr
 by_cases he:zam p s=0
 ·have:=(tick_po hH hI p hp s hs he).pc
  rw[ze0]at this
  rw[if_pos he,he]
  exact this
 ·have c0:=zdG hH hI p hp s hs
  rw[if_neg he]
  generalize zam p s=e at c0 he ⊢
  refine PC.fn hH cd163 fun w0 M Q hM hE hQ hR=>?_;dsimp only[cd163,qm,ql,qf,qi,qb,qc,qp,qv,qN,qT,qF,qt]at hQ ⊢
  (repeat' first|refine zaa [0,1,2,3,4,5,6,7,8,13,20,21,22,32,44] fun K hK=>?_|(refine hK.go ?_;clear hK K)|with_reducible exact wT|refine wA ?_|(refine wB (fun h=>?_) (fun h=>?_)<;>first|exact wN h|subst (h:(_:Bool)=_)|skip)|(refine wQ ?_;clear hQ hR hE hM)|refine wC c0 ?_|fail)
  all_goals first|rfl|(exfalso;contradiction)|skip
end Go.Lev
namespace Go.Lev
open Go.Eng
set_option maxRecDepth 10000
set_option maxHeartbeats 4000000
variable {P:Program} {inv:Nat→Option Nat} {w0:World} {M:Nat→Prop}
theorem zk8 (hH:HasAll P inv) (n:Int) (x:Lock):PC P inv 174 ([.agg x.c]++[.ip 1 [[.n n]] 0 0]) (·=.b (decide (x.id=n))):=by
 refine PC.fn hH cd174 fun w0 M Q hM hE hQ hR=>?_;dsimp only[cd174,qm,ql,qf,qi,qb,qc,qp,qv,qN,qT,qF,qt]at hQ ⊢
 (repeat' first|refine zaa [0,1,2,3] fun K hK=>?_|(refine hK.go ?_;clear hK K)|with_reducible exact wT|refine wA ?_|(refine wB (fun h=>?_) (fun h=>?_)<;>first|exact wN h|subst (h:(_:Bool)=_)|skip)|(refine wQ ?_;clear hQ hR hE hM)|fail)
theorem cn175 (hH:HasAll P inv) (s:State) (hs:s.tracks.length≤1000000000) (m:Int):PC P inv 175 ([.n m]++[.ip 3 [s.c] 0 0]) (·=.b (frT s m)):=by
 have c1:=znu hH s.tracks ⟨m,0⟩ hs
 rw[show (s.tracks.any fun x=>decide ((⟨m,0⟩:Track).id=x.id)&&decide ((⟨m,0⟩:Track).is=x.is))=frT s m from rfl]at c1
 refine PC.fn hH cd175 fun w0 M Q hM hE hQ hR=>?_;dsimp only[cd175,qm,ql,qf,qi,qb,qc,qp,qv,qN,qT,qF,qt]at hQ ⊢
 (repeat' first|refine zaa [0,1,3] fun K hK=>?_|(refine hK.go ?_;clear hK K)|with_reducible exact wT|refine wA ?_|(refine wB (fun h=>?_) (fun h=>?_)<;>first|exact wN h|subst (h:(_:Bool)=_)|skip)|(refine wQ ?_;clear hQ hR hE hM)|refine wC c1 ?_|fail)
theorem cn178 (hH:HasAll P inv) (s:State) (hs:s.tracks.length≤1000000000) (m:Int):PC P inv 178 ([.n m]++[.ip 1 [[.fn 175 [.ip 3 [s.c] 0 0]]] 0 0]) (·=.b (!frT s m)):=by
 have c1:=cn175 hH s hs m
 refine PC.fn hH cd178 fun w0 M Q hM hE hQ hR=>?_;dsimp only[cd178,qm,ql,qf,qi,qb,qc,qp,qv,qN,qT,qF,qt]at hQ ⊢
 (repeat' first|refine zaa [0,1,3] fun K hK=>?_|(refine hK.go ?_;clear hK K)|with_reducible exact wT|refine wA ?_|(refine wB (fun h=>?_) (fun h=>?_)<;>first|exact wN h|subst (h:(_:Bool)=_)|skip)|(refine wQ ?_;clear hQ hR hE hM)|refine wC c1 ?_|fail)
def zfF (s:State) (w:WayR) (l:Lock):Bool:=!((w.path.drop l.gone.toNat).any fun m=>!frT s m)
def cnC0 (s:State) (w:WayR) (l:Lock):Int:=if l.phase=0 then 220 else if l.phase=1 then 0 else if l.phase=2∧zfF s w l=true then 0 else 221
def cnL (s:State) (w:WayR) (r:Rte) (l:Lock) (n:Int):Lock:=if l.phase=1∧frT s w.near=false then ⟨n,4,0,r.timer⟩ else ⟨n,0,0,0⟩
def cnC (p:Pln) (s:State) (n:Int):Int:=if zam p s=0 then (if zeg s n<0 then 6 else cnC0 s (zah p (nth p.routes (zeg s n).toNat)).1 (nth s.locks (zeg s n).toNat)) else zam p s
def cnS (p:Pln) (s:State) (n:Int):State:=⟨s.tracks,s.switches,s.locks.set (zeg s n).toNat (cnL s (zah p (nth p.routes (zeg s n).toNat)).1 (nth p.routes (zeg s n).toNat) (nth s.locks (zeg s n).toNat) n)⟩
def cnR (p:Pln) (s:State) (n:Int):State:=if cnC p s n=0 then cnS p s n else State.z
theorem znW (hH:HasAll P inv) (hI:HasIds P inv) (p:Pln) (hp:Sm p) (s:State) (hs:SmS s) (n:Int) (he:cnC p s n=0):PO P inv 162 [.agg p.c,.agg s.c,.n n] (.tup [zkJ 7 (cnS p s n),.n 0]) (zkK 7 (cnS p s n)):=by
 have c0:=of_pc hH hI p hp s hs
 have hRl:=zgF p s
 have c1:=zeu hH s hs
 have c2:=zkf hH s.locks (fun x _=>zk8 hH n x) (by have:=hs.2.2;omega)
 have hst:zam p s=0:=by
  unfold cnC at he
  split at he
  ·assumption
  ·rename_i h;exact absurd he h
 have hok:=zaQ hst
 have hpa:=(zaf hst).2.1
 have hpl:=zaw hpa
 have hR:ofR p s=⟨(zaJ p s).1,(zaJ p s).2.1,zaD p,0⟩:=by unfold ofR;rw[if_pos hst]
 rw[hR]at c0 hRl
 dsimp only at c0 hRl
 unfold cnC at he
 rw[if_pos hst]at he
 unfold cnS
 rcases zbr Lock.id n s.locks with ⟨h4,_⟩|⟨i,hi,h4,h5⟩
 ·rw[show zeg s n=-1 from h4,if_pos (by decide)]at he
  cases he
 ·rw[show zeg s n=(i:Int) from h4,if_neg (by omega),Int.toNat_natCast]at he
  rw[show zeg s n=(i:Int) from h4,Int.toNat_natCast]
  rw[h4]at c2
  have hri:i<p.routes.length:=by omega
  have hwat:nth (zaD p) i=(zah p (nth p.routes i)).1:=zlK _ hri
  have hwlen:(zaD p).length=p.routes.length:=by simp[zaD]
  have hwl:=zcE hok (zai hri)
  have hwp:=zbP ((zbf (zaf hst).1).2.1 _ (zai hri))
  have hgn:=zfj hok (zai hri) (zfD hpa hi)
  rw[←hwp.1]at hgn
  have h3:=hs.2.2
  have c4:=fun m=>cn175 hH s (by have:=hs.1;omega) m
  have c5:=hasInt hH ((zah p (nth p.routes i)).1.path.drop (nth s.locks i).gone.toNat) (fun x _=>cn178 hH s (by have:=hs.1;omega) x) (by simp;omega)
  rw[show (((zah p (nth p.routes i)).1.path.drop (nth s.locks i).gone.toNat).any fun m=>!frT s m)=!zfF s (zah p (nth p.routes i)).1 (nth s.locks i) by simp[zfF]]at c5
  unfold cnC0 at he
  generalize (zah p (nth p.routes i)).1=w at *
  generalize zaD p=ws at *
  generalize zaJ p s=GR at *
  obtain ⟨H,A,B⟩:=GR
  dsimp only at *
  obtain ⟨G,Z,hg⟩:=zhn
  rw[←hg.eq]at c0
  have hfold:=hg.fold
  have hlen0:=hg.len (.s0 4) hg.zl hg.zl
  have hlen:=hg.len (.sl 4 (ws.map Way.c)) hRl.1 hRl.2
  have hov:=hg.ov (.s0 4) (.sl 4 (ws.map Way.c)) hg.zl hg.zl hRl.1 hRl.2
  have hbd0:=hg.bd0 Z Z
  have hbd:=hg.bd H A (ws.map Way.c)
  have hba:=hg.ba H A (ws.map Way.c)
  have hgw:=hg.get (.sl 4 (ws.map Way.c)) hRl.1 hRl.2
  clear hg hR hok hpa hst hwp
  unfold stV stR at c1
  have c6:=c4 w.near
  unfold cnL
  by_cases hp1:(nth s.locks i).phase=1
  ·cases hf:frT s w.near with
   |true =>
    rw[if_neg (fun h=>by cases h.2)]
    rw[hf]at c6
    refine PO.fn hH cd162 fun w0 M Q hM hE hQ hR=>?_;dsimp only[cd162,qm,ql,qf,qi,qb,qc,qp,qv,qN,qT,qF,qt]at hQ ⊢
    (have hX:=zA @hfold (zA @hlen0 (zA @hlen (zA @hov (zA @hbd0 (zA @hbd (zA @hba (zA @hgw (zA @hwat (zA @hp1 (zA (zfg hi) (zA (zff hi) (zA (zec hi) (zA (zcy hi) (zA (zcx hi) (zcw hi)))))))))))))));(repeat' first|refine zaa [0,1,2,3,4,5,6,7,8,9,10,11,12,13,14,15,23,33,54,71,80,84,86,88,97] fun K hK=>?_|(refine hK.go ?_;clear hK K)|with_reducible exact wT|refine wA ?_|(refine wB (fun h=>?_) (fun h=>?_)<;>first|exact wN h|subst (h:(_:Bool)=_)|skip)|(refine wR ?_;clear hQ hR hE hM)|refine wC c0 ?_|refine wO c1 ?_|refine wS c2 ?_|refine wS c6 ?_|fail);all_goals clear hX)
    all_goals first|(exfalso;contradiction)|(exfalso;omega)|skip
    all_goals (left;unfold zkJ zkK;dsimp only;rw[List.length_set];constructor)
    all_goals (refine no_implicit_lambda% (st ?_);try with_reducible exact wT)
   |false =>
    rw[if_pos ⟨hp1,rfl⟩]
    rw[hf]at c6
    refine PO.fn hH cd162 fun w0 M Q hM hE hQ hR=>?_;dsimp only[cd162,qm,ql,qf,qi,qb,qc,qp,qv,qN,qT,qF,qt]at hQ ⊢
    (have hX:=zA @hfold (zA @hlen0 (zA @hlen (zA @hov (zA @hbd0 (zA @hbd (zA @hba (zA @hgw (zA @hwat (zA @hp1 (zA (zfg hi) (zA (zff hi) (zA (zec hi) (zA (zcy hi) (zA (zcx hi) (zcw hi)))))))))))))));(repeat' first|refine zaa [0,1,2,3,4,5,6,7,8,9,10,11,12,13,14,15,23,33,54,71,80,84,86,88,97] fun K hK=>?_|(refine hK.go ?_;clear hK K)|with_reducible exact wT|refine wA ?_|(refine wB (fun h=>?_) (fun h=>?_)<;>first|exact wN h|subst (h:(_:Bool)=_)|skip)|(refine wR ?_;clear hQ hR hE hM)|refine wC c0 ?_|refine wO c1 ?_|refine wS c2 ?_|refine wS c6 ?_|fail);all_goals clear hX)
    all_goals first|(exfalso;contradiction)|(exfalso;omega)|skip
    all_goals (left;unfold zkJ zkK;dsimp only;rw[List.length_set];constructor)
    all_goals (refine no_implicit_lambda% (st ?_);try with_reducible exact wT)
  ·rw[if_neg (fun h=>hp1 h.1)]
   rw[if_neg hp1]at he
   by_cases hp0:(nth s.locks i).phase=0
   ·rw[if_pos hp0]at he;cases he
   ·rw[if_neg hp0]at he
    by_cases hp2:(nth s.locks i).phase=2∧zfF s w (nth s.locks i)=true
    ·obtain ⟨hp1,hem⟩:=hp2
     rw[hem,List.map_drop]at c5
     refine PO.fn hH cd162 fun w0 M Q hM hE hQ hR=>?_;dsimp only[cd162,qm,ql,qf,qi,qb,qc,qp,qv,qN,qT,qF,qt]at hQ ⊢
     (have hX:=zA @hfold (zA @hlen0 (zA @hlen (zA @hov (zA @hbd0 (zA @hbd (zA @hba (zA @hgw (zA @hwat (zA @hp1 (zA (zfg hi) (zA (zff hi) (zA (zec hi) (zA (zcy hi) (zA (zcx hi) (zcw hi)))))))))))))));(repeat' first|refine zaa [0,1,2,3,4,5,6,7,8,9,10,11,12,13,14,15,23,33,54,71,80,84,86,88,97] fun K hK=>?_|(refine hK.go ?_;clear hK K)|with_reducible exact wT|refine wA ?_|(refine wB (fun h=>?_) (fun h=>?_)<;>first|exact wN h|subst (h:(_:Bool)=_)|skip)|(refine wR ?_;clear hQ hR hE hM)|refine wC c0 ?_|refine wO c1 ?_|refine wS c2 ?_|refine wS c5 ?_|fail);all_goals clear hX)
     all_goals first|(exfalso;contradiction)|(exfalso;omega)|skip
     all_goals (left;unfold zkJ zkK;dsimp only;rw[List.length_set];constructor)
     all_goals (refine no_implicit_lambda% (st ?_);try with_reducible exact wT)
    ·rw[if_neg hp2]at he;cases he
end Go.Lev
namespace Go.Lev
open Go.Eng
set_option maxRecDepth 10000
set_option maxHeartbeats 4000000
variable {P:Program} {inv:Nat→Option Nat} {w0:World} {M:Nat→Prop}
def stepL (r:Rte) (is:Int→Int) (l:Lock):Lock :=
 if l.phase=1∨l.phase=4 then (if (r.path.any fun n=>decide (is n=1))=true then ⟨l.id,2,0,0⟩ else l)
 else if l.phase=2 then
  (if l.gone<(r.path.length:Int)-1∧is (nth r.path l.gone.toNat)=0∧is (nth r.path (l.gone.toNat+1))=1 then ⟨l.id,l.phase,l.gone+1,l.left⟩
   else if l.gone=(r.path.length:Int)-1∧is (nth r.path (r.path.length-1))=1 then ⟨l.id,3,(r.path.length:Int)-1,r.timer⟩
   else if l.gone=(r.path.length:Int)-1∧is (nth r.path (r.path.length-1))=0 then ⟨l.id,0,0,0⟩
   else l)
 else if l.phase=3 then (if is (nth r.path (r.path.length-1))=0 then ⟨l.id,0,0,0⟩ else l)
 else l
end Go.Lev
namespace Go.Eng
section
variable {P:Program} {inv:Nat→Option Nat} {w0:World} {M:Nat→Prop} {n N:Nat} {φ φ0:AF} {σ σ0:AS}
end
end Go.Eng
namespace Go.Lev
open Go.Eng
set_option maxRecDepth 10000
set_option maxHeartbeats 4000000
variable {P:Program} {inv:Nat→Option Nat} {w0:World} {M:Nat→Prop}
def rankL (r:Rte) (l:Lock):Nat:=if l.phase=1∨l.phase=4 then r.path.length+3 else if l.phase=2 then 2+((r.path.length:Int)-1-l.gone).toNat else if l.phase=3 then 1 else 0
def zmE (r:Rte) (is:Int→Int):Nat→Lock→Lock
 |0,l=>l
 |m+1,l=>if stepL r is l=l then l else zmE r is m (stepL r is l)
def settleL (r:Rte) (is:Int→Int) (l:Lock):Lock:=zmE r is (rankL r l) l
end Go.Lev
namespace Go.Lev
open Go.Eng
set_option maxRecDepth 10000
set_option maxHeartbeats 4000000
variable {P:Program} {inv:Nat→Option Nat} {w0:World} {M:Nat→Prop}
def setlF (p:Pln) (s:State) (i:Nat) (l:Lock):Lock:=settleL (nth p.routes i) (zmi s) l
def setlS (p:Pln) (s:State):State:=⟨s.tracks,s.switches,s.locks.mapIdx (setlF p s)⟩
def setlR (p:Pln) (s:State):State:=if zam p s=0 then setlS p s else State.z
end Go.Lev
namespace Go.Lev
open Go.Eng
set_option maxRecDepth 10000
set_option maxHeartbeats 4000000
variable {P:Program} {inv:Nat→Option Nat} {w0:World} {M:Nat→Prop}
def lkS (p:Pln) (s:State) (n:Int):State:=if lkC p s n=0 then zhe s n (lkW p s n).asks else State.z
theorem zlN (hH:HasAll P inv) (hI:HasIds P inv) (p:Pln) (hp:Sm p) (s:State) (hs:SmS s) (n:Int):PC P inv 156 [.agg p.c,.agg s.c,.n n] (·=.tup [.agg (lkS p s n).c,.n (lkC p s n)]):=by
 unfold lkS
 by_cases he:lkC p s n=0
 ·have:=(zlM hH hI p hp s hs n he).pc
  rw[ze0]at this
  rw[if_pos he,he]
  exact this
 ·have c0:=zhA hH hI p hp s hs n
  rw[if_neg he]
  generalize lkC p s n=e at c0 he ⊢
  generalize lkW p s n=w at c0
  refine PC.fn hH cd156 fun w0 M Q hM hE hQ hR=>?_;dsimp only[cd156,qm,ql,qf,qi,qb,qc,qp,qv,qN,qT,qF,qt]at hQ ⊢
  (repeat' first|refine zaa [0,1,2,3,4,6,7,8,9,11,12,21,27,28,29,30,43,44,45,54] fun K hK=>?_|(refine hK.go ?_;clear hK K)|with_reducible exact wT|refine wA ?_|(refine wB (fun h=>?_) (fun h=>?_)<;>first|exact wN h|subst (h:(_:Bool)=_)|skip)|(refine wQ ?_;clear hQ hR hE hM)|refine wC c0 ?_|fail)
  all_goals first|rfl|(exfalso;contradiction)|skip
theorem znX (hH:HasAll P inv) (hI:HasIds P inv) (p:Pln) (hp:Sm p) (s:State) (hs:SmS s) (n:Int):PC P inv 162 [.agg p.c,.agg s.c,.n n] (·=.tup [.agg (cnR p s n).c,.n (cnC p s n)]):=by
 unfold cnR
 by_cases he:cnC p s n=0
 ·have:=(znW hH hI p hp s hs n he).pc
  rw[ze0]at this
  rw[if_pos he,he]
  exact this
 ·rw[if_neg he]
  have c0:=of_pc hH hI p hp s hs
  have hRl:=zgF p s
  have hRe:=zj2 p s
  have c1:=zeu hH s hs
  have c2:=zkf hH s.locks (fun x _=>zk8 hH n x) (by have:=hs.2.2;omega)
  unfold stV stR at c1
  by_cases hst:zam p s=0
  ·have hok:=zaQ hst
   have hpa:=(zaf hst).2.1
   have hpl:=zaw hpa
   have hR:ofR p s=⟨(zaJ p s).1,(zaJ p s).2.1,zaD p,0⟩:=by unfold ofR;rw[if_pos hst]
   rw[hR]at c0 hRl
   dsimp only at c0 hRl
   unfold cnC at he ⊢
   rw[if_pos hst]at he ⊢
   have h3:=hs.2.2
   rcases zbr Lock.id n s.locks with ⟨h4,_⟩|⟨i,hi,h4,h5⟩
   ·rw[show zeg s n=-1 from h4,if_pos (by decide)]
    rw[h4]at c2
    generalize zaD p=ws at *
    generalize zaJ p s=GR at *
    obtain ⟨H,A,B⟩:=GR
    dsimp only at *
    obtain ⟨G,Z,hg⟩:=zhn
    rw[←hg.eq]at c0
    have hfold:=hg.fold
    have hlen0:=hg.len (.s0 4) hg.zl hg.zl
    have hlen:=hg.len (.sl 4 (ws.map Way.c)) hRl.1 hRl.2
    have hov:=hg.ov (.s0 4) (.sl 4 (ws.map Way.c)) hg.zl hg.zl hRl.1 hRl.2
    have hbd0:=hg.bd0 Z Z
    have hbd:=hg.bd H A (ws.map Way.c)
    have hba:=hg.ba H A (ws.map Way.c)
    clear hg hR
    refine PC.fn hH cd162 fun w0 M Q hM hE hQ hR=>?_;dsimp only[cd162,qm,ql,qf,qi,qb,qc,qp,qv,qN,qT,qF,qt]at hQ ⊢
    (have hX:=zA @hfold (zA @hlen0 (zA @hlen (zA @hov (zA @hbd0 (zA @hbd @hba)))));(repeat' first|refine zaa [0,1,2,3,4,5,6,7,8,9,10,11,12,13,14,15,23,33,54,71,80,84,86,88,97] fun K hK=>?_|(refine hK.go ?_;clear hK K)|with_reducible exact wT|refine wA ?_|(refine wB (fun h=>?_) (fun h=>?_)<;>first|exact wN h|subst (h:(_:Bool)=_)|skip)|(refine wQ ?_;clear hQ hR hE hM)|refine wC c0 ?_|refine wO c1 ?_|refine wS c2 ?_|fail);all_goals clear hX)
    all_goals first|rfl|(exfalso;contradiction)|skip
   ·rw[show zeg s n=(i:Int) from h4,if_neg (show ¬((i:Nat):Int)<0 by omega),Int.toNat_natCast]at he ⊢
    rw[h4]at c2
    have hri:i<p.routes.length:=by omega
    have hwat:nth (zaD p) i=(zah p (nth p.routes i)).1:=zlK _ hri
    have hwlen:(zaD p).length=p.routes.length:=by simp[zaD]
    have hwl:=zcE hok (zai hri)
    have hwp:=zbP ((zbf (zaf hst).1).2.1 _ (zai hri))
    have hgn:=zfj hok (zai hri) (zfD hpa hi)
    rw[←hwp.1]at hgn
    have c5:=hasInt hH ((zah p (nth p.routes i)).1.path.drop (nth s.locks i).gone.toNat) (fun x _=>cn178 hH s (by have:=hs.1;omega) x) (by simp;omega)
    rw[show (((zah p (nth p.routes i)).1.path.drop (nth s.locks i).gone.toNat).any fun m=>!frT s m)=!zfF s (zah p (nth p.routes i)).1 (nth s.locks i) by simp[zfF]]at c5
    unfold cnC0 at he ⊢
    generalize (zah p (nth p.routes i)).1=w at *
    generalize zaD p=ws at *
    generalize zaJ p s=GR at *
    obtain ⟨H,A,B⟩:=GR
    dsimp only at *
    obtain ⟨G,Z,hg⟩:=zhn
    rw[←hg.eq]at c0
    have hfold:=hg.fold
    have hlen0:=hg.len (.s0 4) hg.zl hg.zl
    have hlen:=hg.len (.sl 4 (ws.map Way.c)) hRl.1 hRl.2
    have hov:=hg.ov (.s0 4) (.sl 4 (ws.map Way.c)) hg.zl hg.zl hRl.1 hRl.2
    have hbd0:=hg.bd0 Z Z
    have hbd:=hg.bd H A (ws.map Way.c)
    have hba:=hg.ba H A (ws.map Way.c)
    have hgw:=hg.get (.sl 4 (ws.map Way.c)) hRl.1 hRl.2
    clear hg hR hwp hRe
    by_cases hp0:(nth s.locks i).phase=0
    ·rw[if_pos hp0]
     refine PC.fn hH cd162 fun w0 M Q hM hE hQ hR=>?_;dsimp only[cd162,qm,ql,qf,qi,qb,qc,qp,qv,qN,qT,qF,qt]at hQ ⊢
     (have hX:=zA @hfold (zA @hlen0 (zA @hlen (zA @hov (zA @hbd0 (zA @hbd (zA @hba (zA @hgw (zA @hwat (zA (zfg hi) (zA (zff hi) (zA (zec hi) (zA (zcy hi) (zA (zcx hi) (zA (zcw hi) @hp0))))))))))))));(repeat' first|refine zaa [0,1,2,3,4,5,6,7,8,9,10,11,12,13,14,15,23,33,54,71,80,84,86,88,97] fun K hK=>?_|(refine hK.go ?_;clear hK K)|with_reducible exact wT|refine wA ?_|(refine wB (fun h=>?_) (fun h=>?_)<;>first|exact wN h|subst (h:(_:Bool)=_)|skip)|(refine wQ ?_;clear hQ hR hE hM)|refine wC c0 ?_|refine wO c1 ?_|refine wS c2 ?_|fail);all_goals clear hX)
     all_goals first|rfl|(exfalso;contradiction)|(exfalso;omega)|skip
    ·rw[if_neg hp0]at he ⊢
     by_cases hp1:(nth s.locks i).phase=1
     ·rw[if_pos hp1]at he;exact absurd rfl he
     ·rw[if_neg hp1]at he ⊢
      have e0:decide ((nth s.locks i).phase=0)=false:=decide_eq_false hp0
      have e1:decide ((nth s.locks i).phase=1)=false:=decide_eq_false hp1
      by_cases hp2:(nth s.locks i).phase=2
      ·have hem:zfF s w (nth s.locks i)=false:=by
        cases h:zfF s w (nth s.locks i) with
        |false=>rfl
        |true=>rw[if_pos ⟨hp2,h⟩]at he;exact absurd rfl he
       rw[if_neg (fun h=>by rw[hem]at h;cases h.2)]
       rw[hem,List.map_drop]at c5
       refine PC.fn hH cd162 fun w0 M Q hM hE hQ hR=>?_;dsimp only[cd162,qm,ql,qf,qi,qb,qc,qp,qv,qN,qT,qF,qt]at hQ ⊢
       (have hX:=zA @hfold (zA @hlen0 (zA @hlen (zA @hov (zA @hbd0 (zA @hbd (zA @hba (zA @hgw (zA @hwat (zA (zfg hi) (zA (zff hi) (zA (zec hi) (zA (zcy hi) (zA (zcx hi) (zA (zcw hi) @hp2))))))))))))));(repeat' first|refine zaa [0,1,2,3,4,5,6,7,8,9,10,11,12,13,14,15,23,33,54,71,80,84,86,88,97] fun K hK=>?_|(refine hK.go ?_;clear hK K)|with_reducible exact wT|refine wA ?_|(refine wB (fun h=>?_) (fun h=>?_)<;>first|exact wN h|subst (h:(_:Bool)=_)|skip)|(refine wQ ?_;clear hQ hR hE hM)|refine wC c0 ?_|refine wO c1 ?_|refine wS c2 ?_|refine wS c5 ?_|fail);all_goals clear hX)
       all_goals first|rfl|(exfalso;contradiction)|(exfalso;omega)|skip
      ·rw[if_neg (fun h=>hp2 h.1)]
       have e2:decide ((nth s.locks i).phase=2)=false:=decide_eq_false hp2
       refine PC.fn hH cd162 fun w0 M Q hM hE hQ hR=>?_;dsimp only[cd162,qm,ql,qf,qi,qb,qc,qp,qv,qN,qT,qF,qt]at hQ ⊢
       (have hX:=zA @hfold (zA @hlen0 (zA @hlen (zA @hov (zA @hbd0 (zA @hbd (zA @hba (zA @hgw (zA @hwat (zA (zfg hi) (zA (zff hi) (zA (zec hi) (zA (zcy hi) (zA (zcx hi) (zA (zcw hi) (zA @e0 (zA @e1 @e2))))))))))))))));(repeat' first|refine zaa [0,1,2,3,4,5,6,7,8,9,10,11,12,13,14,15,23,33,54,71,80,84,86,88,97] fun K hK=>?_|(refine hK.go ?_;clear hK K)|with_reducible exact wT|refine wA ?_|(refine wB (fun h=>?_) (fun h=>?_)<;>first|exact wN h|subst (h:(_:Bool)=_)|skip)|(refine wQ ?_;clear hQ hR hE hM)|refine wC c0 ?_|refine wO c1 ?_|refine wS c2 ?_|fail);all_goals clear hX)
       all_goals first|rfl|(exfalso;contradiction)|(exfalso;omega)|skip
  ·rw[show cnC p s n=zam p s by unfold cnC;rw[if_neg hst]]
   rw[←hRe]at hst ⊢
   revert c0 hRl hst
   generalize ofR p s=R
   obtain ⟨G,Z,hg⟩:=zhn
   rw[←hg.eq]
   intro c0 hRl hst
   have hfold:=hg.fold
   have hlen0:=hg.len (.s0 4) hg.zl hg.zl
   have hlen:=hg.len (.sl 4 (R.ways.map Way.c)) hRl.1 hRl.2
   have hov:=hg.ov (.s0 4) (.sl 4 (R.ways.map Way.c)) hg.zl hg.zl hRl.1 hRl.2
   have hbd0:=hg.bd0 Z Z
   have hbd:=hg.bd R.hold R.ask (R.ways.map Way.c)
   have hba:=hg.ba R.hold R.ask (R.ways.map Way.c)
   refine PC.fn hH cd162 fun w0 M Q hM hE hQ hR=>?_;dsimp only[cd162,qm,ql,qf,qi,qb,qc,qp,qv,qN,qT,qF,qt]at hQ ⊢
   (have hX:=zA @hfold (zA @hlen0 (zA @hlen (zA @hov (zA @hbd0 (zA @hbd @hba)))));(repeat' first|refine zaa [0,1,2,3,4,5,6,7,8,9,10,11,12,13,14,15,23,33,54,71,80,84,86,88,97] fun K hK=>?_|(refine hK.go ?_;clear hK K)|with_reducible exact wT|refine wA ?_|(refine wB (fun h=>?_) (fun h=>?_)<;>first|exact wN h|subst (h:(_:Bool)=_)|skip)|(refine wQ ?_;clear hQ hR hE hM)|refine wC c0 ?_|fail);all_goals clear hX)
   all_goals first|rfl|(exfalso;contradiction)|skip
end Go.Lev
namespace Go.Lev
open Go.Eng
theorem zib {H:List Int} {fr:Int→Bool}:∀ {l:List Int},zcD H fr l=0↔∀ x∈l,nth H x.toNat=0∧fr x=true
 |[]=>by simp[zcD]
 |x::r=>by
  rw[zcD]
  constructor
  ·intro h
   split at h
   ·rename_i h1
    split at h
    ·rename_i h2
     intro y hy
     rcases List.mem_cons.1 hy with rfl|hy
     ·exact ⟨h1,h2⟩
     ·exact zib.1 h y hy
    ·cases h
   ·cases h
  ·intro h
   obtain ⟨h1,h2⟩:=h x (by simp)
   rw[if_pos h1,if_pos h2]
   exact zib.2 fun y hy=>h y (by simp[hy])
def zgb (p:Pln) (i:Nat):List Int:=(zah p (nth p.routes i)).1.path++(zah p (nth p.routes i)).1.over
def zb7 (p:Pln) (i:Nat):List AskR:=(zah p (nth p.routes i)).1.asks
structure MaySet (p:Pln) (s:State) (n:Int) (i:Nat):Prop where
 st:zam p s=0
 lt:i<s.locks.length
 id:(nth s.locks i).id=n
 ph:(nth s.locks i).phase=0
 sec:∀ x∈zgb p i,nth (zaJ p s).1 x.toNat=0∧zmi s x=0
 ask:∀ a∈zb7 p i,zb6 s a.pnt=a.lie∨(nth (zaJ p s).2.1 a.pnt.toNat=0∧zmi s (zdp p a.pnt)=0)
theorem zjz {p:Pln} {s:State} (ho:OkP p) (h:zan p s=true) {A:List Int} {a:AskR}:zkq p s A a=true↔zb6 s a.pnt=a.lie∨(nth A a.pnt.toNat=0∧zmi s (zdp p a.pnt)=0):=by
 unfold zkq
 rw[znE ho h]
 simp
theorem lkC_iff {p:Pln} {s:State} {n:Int}:lkC p s n=0↔∃ i,MaySet p s n i:=by
 constructor
 ·intro h
  have hst:zam p s=0:=by
   unfold lkC at h
   split at h
   ·assumption
   ·exact h
  rcases zbr Lock.id n s.locks with ⟨_,hno⟩|⟨i,hi,_,hid⟩
  ·rw[lkC_no hst hno]at h;cases h
  ·rw[lkC_at hst hi hid]at h
   split at h
   ·rename_i hph
    unfold setE at h
    have ho:=zaQ hst
    have hpa:=(zaf hst).2.1
    split at h
    ·rename_i h1
     split at h
     ·rename_i h2
      refine ⟨i,hst,hi,hid,hph,fun x hx=>?_,fun a ha=>(zjz ho hpa).1 (List.all_eq_true.1 h2 a ha)⟩
      have:=zib.1 h1 x hx
      rw[znE ho hpa,decide_eq_true_eq]at this
      exact this
     ·cases h
    ·rename_i h1;exact absurd h h1
   ·cases h
 ·rintro ⟨i,hst,hi,hid,hph,h1,h2⟩
  have ho:=zaQ hst
  have hpa:=(zaf hst).2.1
  rw[lkC_at hst hi hid,if_pos hph]
  unfold setE
  have h3:zcD (zaJ p s).1 (frT s) ((zah p (nth p.routes i)).1.path++(zah p (nth p.routes i)).1.over)=0:=zib.2 fun x hx=>by
   rw[znE ho hpa,decide_eq_true_eq];exact h1 x hx
  have h4:(zah p (nth p.routes i)).1.asks.all (zkq p s (zaJ p s).2.1)=true:=List.all_eq_true.2 fun a ha=>(zjz ho hpa).2 (h2 a ha)
  rw[if_pos h3,if_pos h4]
section
variable {p:Pln} {s:State} {n:Int} {i:Nat} (h:MaySet p s n i)
include h
theorem MaySet.lkW:lkW p s n=(zah p (nth p.routes i)).1:=by
 unfold Go.Lev.lkW
 rw[if_pos h.st,znb h.st h.lt h.id,if_neg (by omega),Int.toNat_natCast,if_pos h.ph]
theorem MaySet.lkS:lkS p s n=zhe s n (zb7 p i):=by
 unfold Go.Lev.lkS
 rw[if_pos (lkC_iff.2 ⟨i,h⟩),h.lkW]
 rfl
theorem MaySet.code:zam p (zhe s n (zb7 p i))=0:=zmF h.st h.lt h.ph h.id (fun m hm=>(h.sec m hm).1) fun a ha=>by
 rcases h.ask a ha with h1|h1
 ·exact .inl h1
 ·exact .inr h1.1
theorem MaySet.lock {j:Nat} (hj:j<s.locks.length):nth (zhe s n (zb7 p i)).locks j=if j=i then ⟨n,1,0,0⟩ else nth s.locks j:=by
 rw[zes h.st h.lt h.id _ hj,(zey h.st h.lt h.ph).1,(zey h.st h.lt h.ph).2]
theorem zkP (q:List AskR):(zhe s n q).locks.length=s.locks.length:=zcV _ _ _ _
theorem MaySet.hd {j:Nat} (hj:j<s.locks.length):zmj p (zhe s n (zb7 p i)) j=if j=i then zgb p i else zmj p s j:=by
 unfold zmj
 rw[h.lock hj]
 by_cases e:j=i
 ·subst e
  rw[if_pos rfl,if_pos rfl]
  unfold zbm
  rw[if_neg (by dsimp only;omega)]
  rfl
 ·rw[if_neg e,if_neg e]
theorem MaySet.as {j:Nat} (hj:j<s.locks.length):zn6 p (zhe s n (zb7 p i)) j=if j=i then zb7 p i else zn6 p s j:=by
 unfold zn6
 rw[h.lock hj]
 by_cases e:j=i
 ·subst e
  rw[if_pos rfl,if_pos rfl]
  unfold zbw
  rw[if_neg (by dsimp only;omega)]
  refine List.filter_eq_self.2 fun a _=>?_
  simp only[zcS,Bool.or_eq_true,decide_eq_true_eq]
  omega
 ·rw[if_neg e,if_neg e]
theorem MaySet.rt:nth p.routes i∈p.routes:=by
 have:=zaw (zaf h.st).2.1
 have:=h.lt
 exact zai (by omega)
theorem MaySet.secR {x:Int} (hx:x∈zgb p i):isSec p x=true∧0≤x:=by
 have ho:=zaQ h.st
 have hwp:=zbP ((zbf (zaf h.st).1).2.1 _ h.rt)
 unfold zgb at hx
 rw[hwp.1,hwp.2.1]at hx
 obtain ⟨q,hq,e⟩:=(zew ho h.rt).1 x hx
 have:=zet ho hq
 exact ⟨List.any_eq_true.2 ⟨q,hq,by simpa using e⟩,by omega⟩
theorem MaySet.holds {x:Int} (hx:x∈zgb p i):nth (zaJ p (zhe s n (zb7 p i))).1 x.toNat=n:=by
 have hi':i<(zhe s n (zb7 p i)).locks.length:=by rw[zkP h];exact h.lt
 have:=(hold_iff h.code hi' (h.secR hx).2).2 (by rw[h.hd h.lt,if_pos rfl];exact hx)
 rw[this,h.lock h.lt,if_pos rfl]
theorem MaySet.asks {a:AskR} (ha:a∈zb7 p i):nth (zaJ p (zhe s n (zb7 p i))).2.1 a.pnt.toNat=a.lie:=by
 have hi':i<(zhe s n (zb7 p i)).locks.length:=by rw[zkP h];exact h.lt
 exact ask_is h.code hi' (by rw[h.as h.lt,if_pos rfl];exact ha)
theorem MaySet.callsIn {a:AskR} (ha:a∈zb7 p i):zb6 (zhe s n (zb7 p i)) a.pnt=a.lie:=by
 have ho:=zaQ h.st
 have hpa:=(zaf h.st).2.1
 rw[zeQ]
 refine zeP _ _ (by rw[zdk hpa];exact zdo ho) (zfs (zaf h.st).1 h.rt) a ha ?_
 obtain ⟨x,hx,ex⟩:=(zbt ho h.rt ha).1
 rw[zdk hpa,←ex]
 exact List.mem_map_of_mem hx
end
end Go.Lev
namespace Go.Lev
open Go.Eng
def On (l l':Lock):Prop:=l'=l∨(l'.id=l.id∧(l'.phase=0∨(¬l.phase=0∧¬l'.phase=0∧l.gone≤l'.gone)))
theorem On.held {l l':Lock} (h:On l l') (w:WayR):∀ m∈zbm w l',m∈zbm w l:=by
 intro m hm
 rcases h with rfl|⟨_,h|⟨h1,h2,h3⟩⟩
 ·exact hm
 ·unfold zbm at hm;rw[if_pos h]at hm;cases hm
 ·unfold zbm at hm ⊢
  rw[if_neg h2]at hm
  rw[if_neg h1]
  rcases List.mem_append.1 hm with h4|h4
  ·refine List.mem_append.2 (.inl ?_)
   obtain ⟨k,hk,e⟩:=List.mem_iff_getElem.1 h4
   rw[List.getElem_drop]at e
   rw[List.length_drop]at hk
   have:l.gone.toNat≤l'.gone.toNat:=by omega
   refine List.mem_iff_getElem.2 ⟨l'.gone.toNat-l.gone.toNat+k,by rw[List.length_drop];omega, ?_⟩
   rw[List.getElem_drop,←e]
   congr 1
   omega
  ·exact List.mem_append.2 (.inr h4)
theorem On.asks {l l':Lock} (h:On l l') (w:WayR):∀ a∈(zbw w l').filter (zcS l'),a∈(zbw w l).filter (zcS l):=by
 intro a ha
 rcases h with rfl|⟨_,h|⟨h1,h2,h3⟩⟩
 ·exact ha
 ·unfold zbw at ha;rw[if_pos h]at ha;cases ha
 ·unfold zbw at ha ⊢
  rw[if_neg h2]at ha
  rw[if_neg h1]
  obtain ⟨h4,h5⟩:=List.mem_filter.1 ha
  refine List.mem_filter.2 ⟨h4, ?_⟩
  simp only[zcS,Bool.or_eq_true,decide_eq_true_eq]at h5 ⊢
  omega
theorem On.id {l l':Lock} (h:On l l'):l'.id=l.id:=by
 rcases h with rfl|h
 ·rfl
 ·exact h.1
theorem On.trans {a b c:Lock} (h:On a b) (g:On b c):On a c:=by
 rcases h with rfl|⟨h1,h2⟩
 ·exact g
 ·rcases g with rfl|⟨g1,g2⟩
  ·exact .inr ⟨h1,h2⟩
  ·refine .inr ⟨g1.trans h1, ?_⟩
   rcases g2 with g2|⟨g2,g3,g4⟩
   ·exact .inl g2
   ·rcases h2 with h2|⟨h2,h3,h4⟩
    ·exact absurd h2 g2
    ·exact .inr ⟨h2,g3,by omega⟩
structure OnS (p:Pln) (s t:State):Prop where
 trk:t.tracks=s.tracks
 swt:t.switches=s.switches
 len:t.locks.length=s.locks.length
 on:∀ i,i<s.locks.length→On (nth s.locks i) (nth t.locks i)
 ok:∀ i,i<s.locks.length→zcj (nth t.locks i) (nth p.routes i)=true
section
variable {p:Pln} {s t:State} (h:zam p s=0) (g:OnS p s t)
include h g
theorem OnS.parts:zan p t=true:=by
 have h2:=(zaf h).2.1
 have hl:=zaw h2
 unfold zan at h2 ⊢
 simp only[Bool.and_eq_true,zdE]at h2 ⊢
 rw[g.trk,g.swt,g.len]
 exact ⟨h2.1,h2.2.1,h2.2.2.1,g.ok⟩
theorem OnS.code:zam p t=0:=by
 obtain ⟨h1,_,h3,h4⟩:=zek.1 h
 refine zek.2 ⟨h1,g.parts h,fun i j hi hj hne m hm hm'=>?_,fun i hi a ha=>?_⟩
 ·rw[g.len]at hi hj
  exact h3 i j hi hj hne m ((g.on i hi).held _ m hm) ((g.on j hj).held _ m hm')
 ·rw[g.len]at hi
  have:zb6 t a.pnt=zb6 s a.pnt:=by rw[zeQ,zeQ,g.swt]
  rw[this]
  exact h4 i hi a ((g.on i hi).asks _ a ha)
theorem OnS.sm (hs:SmS s):SmS t:=⟨by rw[g.trk];exact hs.1,by rw[g.swt];exact hs.2.1,by rw[g.len];exact hs.2.2⟩
end
theorem OnS.trans {p:Pln} {a b c:State} (h:OnS p a b) (g:OnS p b c):OnS p a c :=
 ⟨g.trk.trans h.trk,g.swt.trans h.swt,g.len.trans h.len,fun i hi=>(h.on i hi).trans (g.on i (by rw[h.len];exact hi)),fun i hi=>g.ok i (by rw[h.len];exact hi)⟩
theorem zkF {l:Lock} {r:Rte} (h:zcj l r=true):On l (zbM l)∧zcj (zbM l) r=true:=by
 simp only[zcj,Bool.and_eq_true,decide_eq_true_eq]at h
 unfold zbM
 by_cases h1:l.left=0
 ·rw[if_pos h1]
  exact ⟨.inl rfl,by simp only[zcj,Bool.and_eq_true,decide_eq_true_eq];exact h⟩
 ·rw[if_neg h1]
  have hph:l.phase=3∨l.phase=4:=by
   have h2:=h.2
   unfold zb9 at h2
   split at h2
   ·simp at h2;omega
   ·split at h2
    ·simp at h2;omega
    ·split at h2
     ·exact .inl (by assumption)
     ·split at h2
      ·exact .inr (by assumption)
      ·cases h2
  split
  ·refine ⟨.inr ⟨rfl,.inl rfl⟩, ?_⟩
   simp only[zcj,zb9,Bool.and_eq_true,decide_eq_true_eq]
   exact ⟨h.1,by simp⟩
  ·refine ⟨.inr ⟨rfl,.inr ⟨by omega,by dsimp only;omega,Int.le_refl _⟩⟩, ?_⟩
   have h2:=h.2
   simp only[zcj,Bool.and_eq_true,decide_eq_true_eq]
   refine ⟨h.1, ?_⟩
   rcases hph with e|e
   ·simp only[zb9,e]at h2 ⊢
    simp at h2 ⊢
    omega
   ·simp only[zb9,e]at h2 ⊢
    simp at h2 ⊢
    omega
theorem tick_on {p:Pln} {s:State} (h:zam p s=0):OnS p s (zhP s):=by
 refine ⟨rfl,rfl,by show (s.locks.map zbM).length=_;simp,fun i hi=>?_,fun i hi=>?_⟩
 ·show On _ (nth (s.locks.map zbM) i)
  rw[zlK zbM hi]
  exact (zkF (zfD (zaf h).2.1 hi)).1
 ·show zcj (nth (s.locks.map zbM) i) _=true
  rw[zlK zbM hi]
  exact (zkF (zfD (zaf h).2.1 hi)).2
end Go.Lev
namespace Go.Lev
open Go.Eng
section
variable {p:Pln} {s:State} {n m:Int} {i j:Nat} (h:MaySet p s n i)
include h
theorem MaySet.two (g:MaySet p (zhe s n (zb7 p i)) m j):(∀ x∈zgb p i,x∉zgb p j)∧∀ a∈zb7 p i,∀ b∈zb7 p j,a.pnt=b.pnt→a.lie=b.lie:=by
 have hn:=zkb h.st h.lt
 rw[h.id]at hn
 refine ⟨fun x hx hx2=>?_,fun a ha b hb e=>?_⟩
 ·have h1:=h.holds hx
  rw[(g.sec x hx2).1]at h1
  omega
 ·rcases g.ask b hb with h1|h1
  ·rw[←e,h.callsIn ha]at h1
   exact h1
  ·have h2:=h.asks ha
   rw[e,h1.1]at h2
   have:=(zbt (zaQ h.st) h.rt ha).2.2
   omega
end
def othF (q r:List AskR):Bool :=
 zfe (fun i (t:Bool) zcN=>zfe (fun k (t:Bool) next2=>next2 (t||decide ((nth q i).pnt=(nth r k).pnt)&&!decide ((nth q i).lie=(nth r k).lie))) (fun t=>zcN t) r.length 0 t) (fun t=>t) q.length 0 false
def shrs (a b:List Int):Bool:=a.any fun x=>b.any fun y=>decide (x=y)
end Go.Lev
namespace Go.Lev
open Go.Eng
def zbh:Nat→State→State
 |0,s=>s
 |k+1,s=>zhP (zbh k s)
@[simp] theorem tickN_0 (s:State):zbh 0 s=s:=rfl
theorem zbo {p:Pln} {s:State} (h:zam p s=0):∀ k,zam p (zbh k s)=0
 |0=>h
 |k+1=>(tick_on (zbo h k)).code (zbo h k)
theorem zdi (s:State):∀ k,(zbh k s).locks.length=s.locks.length
 |0=>rfl
 |k+1=>by show ((zbh k s).locks.map zbM).length=_;rw[List.length_map];exact zdi s k
theorem ziy (s:State):∀ k,(zbh k s).tracks=s.tracks
 |0=>rfl
 |k+1=>ziy s k
theorem ziz (s:State):∀ k,(zbh k s).switches=s.switches
 |0=>rfl
 |k+1=>ziz s k
theorem zfP {s:State} (hs:SmS s) (k:Nat):SmS (zbh k s):=⟨by rw[ziy];exact hs.1,by rw[ziz];exact hs.2.1,by rw[zdi];exact hs.2.2⟩
theorem zeG {p:Pln} {s:State} (h:zam p s=0) {i:Nat} (hi:i<s.locks.length):0≤(nth s.locks i).left∧(nth s.locks i).left≤9:=by
 have hpa:=(zaf h).2.1
 have hl:=znf (zfD hpa hi)
 have ht:=zkE (zaQ h) (zai (show i<p.routes.length by have:=zaw hpa;omega))
 omega
theorem tick_at (s:State) {i:Nat} (hi:i<s.locks.length):nth (zhP s).locks i=zbM (nth s.locks i):=zlK zbM hi
theorem zhp {p:Pln} {s:State} (h:zam p s=0) {i:Nat} (hi:i<s.locks.length):∀ k,(nth (zbh k s).locks i).left+k≤9∨(nth (zbh k s).locks i).left=0
 |0=>.inl (by have:=(zeG h hi).2;simpa [zbh] using this)
 |k+1=>by
  have hk:i<(zbh k s).locks.length:=by rw[zdi];exact hi
  have h1:=zeG (zbo h k) hk
  have ih:=zhp h hi k
  show (nth (zhP (zbh k s)).locks i).left+_≤9∨(nth (zhP (zbh k s)).locks i).left=0
  rw[tick_at _ hk]
  unfold zbM
  split
  ·right;assumption
  ·split
   ·right;rfl
   ·left;dsimp only;omega
theorem zmq {p:Pln} {s:State} (h:zam p s=0) {i:Nat} (hi:i<s.locks.length):(nth (zbh 9 s).locks i).left=0:=by
 have hk:i<(zbh 9 s).locks.length:=by rw[zdi];exact hi
 have h1:=zeG (zbo h 9) hk
 have h2:=zhp h hi 9
 omega
end Go.Lev
namespace Go.Lev
open Go.Eng
set_option maxRecDepth 10000
set_option maxHeartbeats 4000000
variable {P:Program} {inv:Nat→Option Nat} {w0:World} {M:Nat→Prop}
def planA:Pln:=⟨1,0,[⟨1,0,[⟨0,0⟩,⟨2,0⟩]⟩,⟨2,0,[⟨1,1⟩,⟨0,0⟩]⟩],[],[⟨1,1,1⟩],[⟨1,1,0,[2],[],[],3⟩]⟩
def stA:State:=⟨[⟨1,2⟩,⟨2,2⟩],[],[⟨1,0,0,0⟩]⟩
end Go.Lev
namespace Go.Lev
open Go.Eng
theorem of_ar {n:Nat} {e:Sh} {d:D} (h:Sh.ok (.ar n e) d):∃ l,d=.l l∧l.length=n∧∀ x∈l,Sh.ok e x:=by
 cases d with
 |l l=>exact ⟨l,rfl,by simpa only[Sh.ok] using h⟩
 |t _=>exact h.elim
 |n _=>exact h.elim
theorem arg_arr2 {d:D} (h:Sh.ok (.ar 2 (.i .i64)) d):∃ a b:Int,Sh.arg (.ar 2 (.i .i64)) d=.agg [.n a,.n b]:=by
 obtain ⟨l,rfl,hl,h⟩:=of_ar h
 match l,hl,h with
 |[x,y],_,h =>
  obtain ⟨a,rfl,_⟩:=za6 (h x (by simp))
  obtain ⟨b,rfl,_⟩:=za6 (h y (by simp))
  exact ⟨a,b,rfl⟩
theorem arg_bool {d:D} (h:Sh.ok .b d):∃ t,Sh.arg .b d=.b t:=by
 cases d with
 |t t=>exact ⟨t,rfl⟩
 |l _=>exact h.elim
 |n _=>exact h.elim
end Go.Lev
namespace Go.Lev
open Go.Eng
set_option maxRecDepth 10000
set_option maxHeartbeats 4000000
variable {P:Program} {inv:Nat→Option Nat} {w0:World} {M:Nat→Prop}
def planB:Pln:=⟨1,0,[⟨1,0,[⟨0,0⟩,⟨2,0⟩]⟩,⟨2,5,[⟨1,1⟩,⟨3,0⟩,⟨4,0⟩]⟩,⟨3,0,[⟨2,1⟩,⟨0,0⟩]⟩,⟨4,0,[⟨2,2⟩,⟨0,0⟩]⟩],[⟨5,2⟩],[⟨1,1,1⟩],[⟨1,1,0,[2,3],[],[],3⟩]⟩
def stB:State:=⟨[⟨1,2⟩,⟨2,2⟩,⟨3,2⟩,⟨4,2⟩],[⟨5,0,0⟩],[⟨1,0,0,0⟩]⟩
def stB2:State:=⟨[⟨1,2⟩,⟨2,0⟩,⟨3,2⟩,⟨4,2⟩],[⟨5,0,0⟩],[⟨1,0,0,0⟩]⟩
def stB3:State:=⟨[⟨1,2⟩,⟨2,0⟩,⟨3,2⟩,⟨4,2⟩],[⟨5,0,2⟩],[⟨1,0,0,0⟩]⟩
end Go.Lev
namespace Go.Lev
open Go.Eng
set_option maxRecDepth 10000
set_option maxHeartbeats 4000000
variable {P:Program} {inv:Nat→Option Nat} {w0:World} {M:Nat→Prop}
def zhf:Pln:=⟨1,0,[⟨1,0,[⟨0,0⟩,⟨2,0⟩]⟩,⟨2,5,[⟨1,1⟩,⟨3,0⟩,⟨4,0⟩]⟩,⟨3,0,[⟨2,1⟩,⟨0,0⟩]⟩,⟨4,0,[⟨2,2⟩,⟨0,0⟩]⟩],[⟨5,2⟩],[⟨1,1,1⟩],[⟨1,1,0,[2,3],[],[],3⟩,⟨2,1,0,[2,4],[],[],4⟩]⟩
theorem smC:Sm zhf:=⟨by decide,by decide,by decide,by decide,by decide,by decide⟩
def stN:State:=⟨[⟨1,2⟩,⟨2,2⟩,⟨3,2⟩,⟨4,2⟩],[⟨5,0,0⟩],[⟨1,0,0,0⟩,⟨2,0,0,0⟩]⟩
def stQ:State:=⟨[⟨1,0⟩,⟨2,0⟩,⟨3,0⟩,⟨4,0⟩],[⟨5,0,0⟩],[⟨1,0,0,0⟩,⟨2,0,0,0⟩]⟩
def stQ1:State:=⟨[⟨1,0⟩,⟨2,0⟩,⟨3,0⟩,⟨4,0⟩],[⟨5,0,1⟩],[⟨1,1,0,0⟩,⟨2,0,0,0⟩]⟩
theorem smQ:SmS stQ:=⟨by decide,by decide,by decide⟩
theorem okC:zbq zhf=true:=by decide +kernel
theorem atC:atS zhf=stN:=by decide +kernel
def znD (_:Nat) (t:Track):Track:=⟨t.id,0⟩
theorem zlu (b:Nat) (s:State) (t:Bool):zdm 4 (zkK b s) (.tup [zkJ b s,.b t])=.tup [.agg s.c,.b t]:=by
 rw[zdZ,zbD,zbD,zc9,ziD,sn_b]
end Go.Lev
namespace Go.Lev
open Go.Eng
set_option maxRecDepth 10000
set_option maxHeartbeats 4000000
variable {P:Program} {inv:Nat→Option Nat} {w0:World} {M:Nat→Prop}
def setLk (s:State) (n:Int):Bool:=s.locks.any fun x=>decide (n=x.id)&&(decide (1=x.phase)&&(decide (0=x.gone)&&decide (0=x.left)))
def lieT (s:State) (a:AskR):Bool:=s.switches.any fun x=>decide (x.id=a.pnt)&&decide (x.lie=a.lie)
def provedS (s:State) (n:Int) (w:WayR):Bool:=setLk s n&&(!(w.path.any fun m=>!frT s m)&&(!(w.over.any fun m=>!frT s m)&&!(w.asks.any fun a=>!lieT s a)))
section
variable (hH:HasAll P inv) (s:State) (hs:SmS s)
include hH hs
end
end Go.Lev
namespace Go.Lev
open Go.Eng
set_option maxRecDepth 10000
set_option maxHeartbeats 4000000
variable {P:Program} {inv:Nat→Option Nat} {w0:World} {M:Nat→Prop}
def bool1 (b:Bool):List AV:=[.b b]
instance:Cells bool1 1:=⟨fun _=>rfl,fun _=>rfl⟩
theorem chunks_b (l:List Bool):zbz 1 l.length (l.map AV.b)=l.map bool1:=by
 induction l with
 |nil=>rfl
 |cons x l ih =>
  simp only[List.length_cons,List.map_cons,zbz,List.take_succ_cons,List.take_zero,List.drop_succ_cons,List.drop_zero,ih]
  rfl
attribute [go_sem] bool1 chunks_b
def prvOf (p:Pln) (s:State) (r:Rte):Bool:=provedS s r.id (zah p r).1
def provL (p:Pln) (s:State):List Bool:=p.routes.map (prvOf p s)
def provR (p:Pln) (s:State):List Bool:=if zam p s=0 then provL p s else []
def rtIx (p:Pln) (n:Int):Int:=zbN (fun x=>decide (Rte.id x=n)) 0 p.routes
def isSgn (p:Pln) (n:Int):Bool:=p.signals.any fun x=>decide (x.id=n)
def prR (p:Pln) (s:State) (n:Int):Bool:=if rtIx p n<0 then false else prvOf p s (nth p.routes (rtIx p n).toNat)
def prC (p:Pln) (s:State) (n:Int):Int:=if zam p s=0 then (if rtIx p n<0 then 6 else 0) else zam p s
def goB (p:Pln) (s:State) (n:Int):Bool:=p.routes.any fun r=>decide (r.entry=n)&&prvOf p s r
def sgC (p:Pln) (s:State) (n:Int):Int:=if zam p s=0 then (if isSgn p n=true then 0 else 6) else zam p s
end Go.Lev
namespace Go.Lev
open Go.Eng
set_option maxRecDepth 10000
set_option maxHeartbeats 4000000
variable {P:Program} {inv:Nat→Option Nat} {w0:World} {M:Nat→Prop}
def hasT (s:State) (n:Int):Bool:=s.tracks.any fun t=>decide (t.id=n)
def hasW (s:State) (n:Int):Bool:=s.switches.any fun t=>decide (t.id=n)
def ibF (s A B:State) (n v e1 e2:Int):Bool :=
 zfe (fun k t zcN =>
   cond (decide (e1=0)&&(decide ((nth s.tracks k).id=n)&&!decide ((nth A.tracks k).is=v)||!decide ((nth s.tracks k).id=n)&&!(decide ((nth A.tracks k).id=(nth s.tracks k).id)&&decide ((nth A.tracks k).is=(nth s.tracks k).is))))
    false (zcN (t||decide ((nth s.tracks k).id=n))))
  (fun t=>zfe (fun k u zcN =>
    cond (decide (e2=0)&&(decide ((nth s.switches k).id=n)&&(!decide ((nth B.switches k).lie=v)||!decide ((nth B.switches k).call=(nth s.switches k).call))||!decide ((nth s.switches k).id=n)&&!(decide ((nth B.switches k).id=(nth s.switches k).id)&&(decide ((nth B.switches k).lie=(nth s.switches k).lie)&&decide ((nth B.switches k).call=(nth s.switches k).call)))))
     false (zcN (u||decide ((nth s.switches k).id=n))))
   (fun u=>decide (decide (e1=0)=(t&&(decide (v=0)||decide (v=1))))&&decide (decide (e2=0)=(u&&(decide (0≤v)&&decide (v≤2)))))
   s.switches.length 0 false)
  s.tracks.length 0 false
end Go.Lev
namespace Go.Lev
open Go.Eng
set_option maxRecDepth 10000
set_option maxHeartbeats 4000000
variable {P:Program} {inv:Nat→Option Nat} {w0:World} {M:Nat→Prop}
theorem setQ1:lkC zhf stQ 1=0:=by decide +kernel
theorem setQ2:lkS zhf stQ 1=stQ1:=by decide +kernel
def stQ2:State:=⟨[⟨1,0⟩,⟨2,0⟩,⟨3,0⟩,⟨4,0⟩],[⟨5,1,1⟩],[⟨1,1,0,0⟩,⟨2,0,0,0⟩]⟩
theorem smQ1:SmS stQ1:=⟨by decide,by decide,by decide⟩
end Go.Lev
namespace Go.Lev
open Go.Eng
set_option maxRecDepth 10000
set_option maxHeartbeats 4000000
variable {P:Program} {inv:Nat→Option Nat} {w0:World} {M:Nat→Prop}
theorem zi1 (hH:HasAll P inv):PC P inv 161 [] (·=.agg zhf.c):=by
 have h:PC P inv 161 [] (·=.agg [.n 1,.n 0,.sl 3 (zhf.sections.map Section.c),.sl 2 (zhf.points.map Pnt.c),.sl 3 (zhf.signals.map Sgn.c),.sl 7 [[.n 1,.n 1,.n 0,.sl 1 [[.n 2],[.n 3]],.s0 1,.s0 2,.n 3],[.n 2,.n 1,.n 0,.sl 1 [[.n 2],[.n 4]],.s0 1,.s0 2,.n 4]]]):=by
  refine PC.fn hH cd161 fun w0 M Q hM hE hQ hR=>?_;dsimp only[cd161,qm,ql,qf,qi,qb,qc,qp,qv,qN,qT,qF,qt]at hQ ⊢
  (repeat' first|refine zaa [0] fun K hK=>?_|(refine hK.go ?_;clear hK K)|with_reducible exact wT|refine wA ?_|(refine wB (fun h=>?_) (fun h=>?_)<;>first|exact wN h|subst (h:(_:Bool)=_)|skip)|(refine wQ ?_;clear hQ hR hE hM)|fail)
  rfl
 exact h.nzr
theorem zlF (hH:HasAll P inv) (hI:HasIds P inv):PC P inv 160 [] (·=.tup [.agg stQ.c,.b true]):=by
 suffices h:PO P inv 160 [] (.tup [zkJ 3 stQ,.b true]) (zkK 3 stQ) by
  have:=h.pc
  rw[zlu]at this
  exact this
 have c0:=zi1 hH
 have c1:=sAt_po hH hI zhf smC okC
 rw[atC]at c1
 unfold stV stR at c1
 have e1:stN.tracks.length=4:=rfl
 have e2:stN.switches.length=1:=rfl
 have e3:stN.locks.length=2:=rfl
 have q1:stN.tracks.mapIdx znD=stQ.tracks:=rfl
 have q2:stN.switches=stQ.switches:=rfl
 have q3:stN.locks=stQ.locks:=rfl
 have r1:stQ.tracks.length=4:=rfl
 have r2:stQ.switches.length=1:=rfl
 have r3:stQ.locks.length=2:=rfl
 generalize stN=S at *
 generalize stQ=T at *
 rw[e1,e2,e3]at c1
 refine PO.fn hH cd160 fun w0 M Q hM hE hQ hR=>?_;dsimp only[cd160,qm,ql,qf,qi,qb,qc,qp,qv,qN,qT,qF,qt]at hQ ⊢
 (have hX:=zA @e1 (zA @e2 @e3);(repeat' first|refine zaa [0,1,2,3,4,14] fun K hK=>?_|(refine hK.go ?_;clear hK K)|with_reducible exact wT|refine wA ?_|(refine wB (fun h=>?_) (fun h=>?_)<;>first|exact wN h|subst (h:(_:Bool)=_)|skip)|(refine wR ?_;clear hQ hR hE hM)|refine wC c0 ?_|refine wO c1 ?_|fail);all_goals clear hX)
 refine zas (ι:=Nat) [0,1,2,3,4] (fun z=>[(4,.n z)]) (fun z=>[(3,.cells ((zfO znD z S.tracks).map Track.c).flatten true)]) (fun z=>z) (4) (fun _=>True) (0) ?_;rintro k ⟨hk,-⟩;(try dsimp only at hk ⊢);rcases Nat.lt_or_ge k 4 with hlt|hge
 ·have hk:k<S.tracks.length:=by omega
  have d1:=zfN znD hk
  have d2:=zc3 (c:=Track.c) (l:=zfO znD k S.tracks) (k:=k) (i:=1) (by rw[zcq];exact hk) (by omega) (.i .u8 0) (znD k (nth S.tracks k)) (by rw[zdF _ hk];rfl)
  rw[d1]at d2
  (have hX:=@d2;(repeat' first|refine zaa [0,1,2,3,4,14] fun K hK=>?_|(refine hK.go ?_;clear hK K)|with_reducible exact wT|refine wA ?_|(refine wB (fun h=>?_) (fun h=>?_)<;>first|exact wN h|subst (h:(_:Bool)=_)|skip)|(refine wR ?_;clear hQ hR hE hM)|fail);all_goals clear hX)
  exact ⟨k+1,by omega,by omega,by omega,rfl⟩
 ·rw[zhN _ (by omega),q1]
  (repeat' first|refine zaa [0,1,2,3,4,14] fun K hK=>?_|(refine hK.go ?_;clear hK K)|with_reducible exact wT|refine wA ?_|(refine wB (fun h=>?_) (fun h=>?_)<;>first|exact wN h|subst (h:(_:Bool)=_)|skip)|(refine wR ?_;clear hQ hR hE hM)|fail)
  all_goals first|(exfalso;omega)|skip
  left
  unfold zkJ zkK
  rw[r1,r2,r3,←q2,←q3]
  constructor
  ·(try (refine no_implicit_lambda% (st ?_);try with_reducible exact wT))
   first|rfl|(simp;done)|trace_state
  ·(try (refine no_implicit_lambda% (st ?_);try with_reducible exact wT))
   first|rfl|(simp;done)|trace_state
theorem can22:cnC zhf stQ1 1=0∧cnR zhf stQ1 1=⟨[⟨1,0⟩,⟨2,0⟩,⟨3,0⟩,⟨4,0⟩],[⟨5,0,1⟩],[⟨1,0,0,0⟩,⟨2,0,0,0⟩]⟩:=by
 constructor<;>decide +kernel
theorem zma (hH:HasAll P inv) (hI:HasIds P inv):PC P inv 159 [] (·=.b true):=by
 have c0:=zi1 hH
 have c1:=zlF hH hI
 have c2:=zlN hH hI zhf smC stQ smQ 1
 have c3:=znX hH hI zhf smC stQ1 smQ1 1
 rw[setQ1,setQ2]at c2
 rw[can22.1,can22.2]at c3
 unfold stQ at c1 c2
 unfold stQ1 at c2 c3
 refine PC.fn hH cd159 fun w0 M Q hM hE hQ hR=>?_;dsimp only[cd159,qm,ql,qf,qi,qb,qc,qp,qv,qN,qT,qF,qt]at hQ ⊢
 (repeat' first|refine zaa [0,1,2,3,4,5,13] fun K hK=>?_|(refine hK.go ?_;clear hK K)|with_reducible exact wT|refine wA ?_|(refine wB (fun h=>?_) (fun h=>?_)<;>first|exact wN h|subst (h:(_:Bool)=_)|skip)|(refine wQ ?_;clear hQ hR hE hM)|refine wC c1 ?_|refine wU c0 ?_|refine wU c2 ?_|refine wU c3 ?_|refine wC c0 ?_|refine wC c2 ?_|refine wC c3 ?_|fail)
 all_goals first|rfl|(exfalso;contradiction)|trace_state
end Go.Lev
namespace Go.Lev
open Go.Eng
set_option maxRecDepth 10000
set_option maxHeartbeats 4000000
variable {P:Program} {inv:Nat→Option Nat} {w0:World} {M:Nat→Prop}
theorem cancelTicks_pc (hH:HasAll P inv) (hI:HasIds P inv) (p:Pln) (hp:Pln.ok p) (s:State):PC P inv 405 [.agg p.c,.agg s.c] (·=.b true):=by
 have c0:=zma hH hI
 have c1:=zi9 hH p
 have c2:=zmD hH s
 cases g1:zja p with
 |true =>
  rw[g1]at c1
  refine PC.fn hH cd405 fun w0 M Q hM hE hQ hR=>?_;dsimp only[cd405,qm,ql,qf,qi,qb,qc,qp,qv,qN,qT,qF,qt]at hQ ⊢
  (repeat' first|refine zaa [0,1,2,3,4,5,6,7,8,9,10,11,12,13,14,25,29,39,70,75,134,139,152,158,167] fun K hK=>?_|(refine hK.go ?_;clear hK K)|with_reducible exact wT|refine wA ?_|(refine wB (fun h=>?_) (fun h=>?_)<;>first|exact wN h|subst (h:(_:Bool)=_)|skip)|(refine wQ ?_;clear hQ hR hE hM)|refine wC c0 ?_|refine wC c1 ?_|fail)
 |false =>
  rw[g1]at c1
  cases g2:zjb s with
  |true =>
   rw[g2]at c2
   refine PC.fn hH cd405 fun w0 M Q hM hE hQ hR=>?_;dsimp only[cd405,qm,ql,qf,qi,qb,qc,qp,qv,qN,qT,qF,qt]at hQ ⊢
   (repeat' first|refine zaa [0,1,2,3,4,5,6,7,8,9,10,11,12,13,14,25,29,39,70,75,134,139,152,158,167] fun K hK=>?_|(refine hK.go ?_;clear hK K)|with_reducible exact wT|refine wA ?_|(refine wB (fun h=>?_) (fun h=>?_)<;>first|exact wN h|subst (h:(_:Bool)=_)|skip)|(refine wQ ?_;clear hQ hR hE hM)|refine wC c0 ?_|refine wC c1 ?_|refine wC c2 ?_|fail)
  |false =>
   rw[g2]at c2
   have sp:=sm_of hp g1
   have ss:=smS_of g2
   by_cases hst:zam p s=0
   ·have hT:∀ k,PC P inv 163 [.agg p.c,.agg (zbh k s).c] (·=.tup [.agg (zbh (k+1) s).c,.n 0])∧PC P inv 69 [.agg p.c,.agg (zbh (k+1) s).c] (·=.n 0)∧(∃ L,zbh (k+1) s=⟨(zbh k s).tracks,(zbh k s).switches,L⟩∧L.length=(zbh k s).locks.length∧∀ j,j<(zbh k s).locks.length→nth L j=zbM (nth (zbh k s).locks j)∧0≤(nth (zbh k s).locks j).left∧(nth (zbh k s).locks j).left≤9)∧SmS (zbh k s):=fun k=>by
     have h1:=zmp hH hI p sp _ (zfP ss k)
     have h2:=zdG hH hI p sp _ (zfP ss (k+1))
     rw[zbo hst k,show zlr p (zbh k s)=zbh (k+1) s by unfold zlr;rw[if_pos (zbo hst k)];rfl]at h1
     rw[zbo hst (k+1)]at h2
     exact ⟨h1,h2,⟨(zbh k s).locks.map zbM,rfl,by simp,fun j hj=>⟨zlK zbM hj,(zeG (zbo hst k) hj).1,(zeG (zbo hst k) hj).2⟩⟩,zfP ss k⟩
    have hEnd:∀ j,j<(zbh 9 s).locks.length→(nth (zbh 9 s).locks j).left=0:=fun j hj=>zmq hst (by rw[zdi]at hj;exact hj)
    have hs9:=zfP ss 9
    clear hst
    refine PC.fn hH cd405 fun w0 M Q hM hE hQ hR=>?_;dsimp only[cd405,qm,ql,qf,qi,qb,qc,qp,qv,qN,qT,qF,qt]at hQ ⊢
    (repeat' first|refine zaa [0,1,2,3,4,5,6,7,8,9,10,11,12,13,14,25,29,39,70,75,134,139,152,158,167] fun K hK=>?_|(refine hK.go ?_;clear hK K)|with_reducible exact wT|refine wA ?_|(refine wB (fun h=>?_) (fun h=>?_)<;>first|exact wN h|subst (h:(_:Bool)=_)|skip)|(refine wQ ?_;clear hQ hR hE hM)|refine wC c0 ?_|refine wC c1 ?_|refine wC c2 ?_|fail)
    all_goals first|(exfalso;contradiction)|skip
    refine zas (ι:=Nat) [2,4,5,6,7] (fun z=>[(7,.n z)]) (fun z=>[(2,.cells (zbh z s).c true)]) (fun z=>z) (9) (fun _=>True) (0) ?_;rintro k ⟨hk,-⟩;(try dsimp only at hk ⊢);rcases Nat.lt_or_ge k 9 with hlt|hge
    ·obtain ⟨d1,d2,⟨L,hL,hll,hj⟩,hs1,hs2,hs3⟩:=hT k
     rw[hL]at d1 d2
     generalize zbh k s=U at *
     (repeat' first|refine zaa [0,1,2,3,4,5,6,7,8,9,10,11,12,13,14,25,29,39,70,75,134,139,152,158,167] fun K hK=>?_|(refine hK.go ?_;clear hK K)|with_reducible exact wT|refine wA ?_|(refine wB (fun h=>?_) (fun h=>?_)<;>first|exact wN h|subst (h:(_:Bool)=_)|skip)|(refine wQ ?_;clear hQ hR hE hM)|refine wC d1 ?_|refine wC d2 ?_|fail)
     all_goals first|(exfalso;contradiction)|skip
     refine zas (ι:=Nat) [2,4,5,6,7,8,10] (fun z=>[(10,.n z)]) (fun _=>[]) (fun z=>z) (L.length) (fun _=>True) (0) ?_;rintro j ⟨hk,-⟩;(try dsimp only at hk ⊢);rcases Nat.lt_or_ge j L.length with hlt|hge
     ·have hj9:j<L.length:=by assumption
      obtain ⟨hb,h0,h9⟩:=hj j (by omega)
      unfold zbM at hb
      by_cases h1:(nth U.locks j).left=0
      ·rw[if_pos h1]at hb
       have e1:=congrArg Lock.id hb
       have e2:=congrArg Lock.phase hb
       have e3:=congrArg Lock.gone hb
       have e4:=congrArg Lock.left hb
       (have hX:=zA @e1 (zA @e2 (zA @e3 @e4));(repeat' first|refine zaa [0,1,2,3,4,5,6,7,8,9,10,11,12,13,14,25,29,39,70,75,134,139,152,158,167] fun K hK=>?_|(refine hK.go ?_;clear hK K)|with_reducible exact wT|refine wA ?_|(refine wB (fun h=>?_) (fun h=>?_)<;>first|exact wN h|subst (h:(_:Bool)=_)|skip)|(refine wQ ?_;clear hQ hR hE hM)|fail);all_goals clear hX)
       all_goals first|(exfalso;contradiction)|exact ⟨j+1,by omega,by omega,by omega⟩|trace_state
      ·rw[if_neg h1]at hb
       by_cases h2:(nth U.locks j).left=1
       ·rw[if_pos (by omega)]at hb
        have e1:=congrArg Lock.id hb
        have e2:=congrArg Lock.phase hb
        have e3:=congrArg Lock.gone hb
        have e4:=congrArg Lock.left hb
        dsimp only at e1 e2 e3 e4
        (have hX:=zA @e1 (zA @e2 (zA @e3 @e4));(repeat' first|refine zaa [0,1,2,3,4,5,6,7,8,9,10,11,12,13,14,25,29,39,70,75,134,139,152,158,167] fun K hK=>?_|(refine hK.go ?_;clear hK K)|with_reducible exact wT|refine wA ?_|(refine wB (fun h=>?_) (fun h=>?_)<;>first|exact wN h|subst (h:(_:Bool)=_)|skip)|(refine wQ ?_;clear hQ hR hE hM)|fail);all_goals clear hX)
        all_goals first|(exfalso;contradiction)|(exfalso;omega)|exact ⟨j+1,by omega,by omega,by omega⟩|trace_state
       ·rw[if_neg (by omega)]at hb
        have e1:=congrArg Lock.id hb
        have e2:=congrArg Lock.phase hb
        have e3:=congrArg Lock.gone hb
        have e4:=congrArg Lock.left hb
        dsimp only at e1 e2 e3 e4
        (have hX:=zA @e1 (zA @e2 (zA @e3 @e4));(repeat' first|refine zaa [0,1,2,3,4,5,6,7,8,9,10,11,12,13,14,25,29,39,70,75,134,139,152,158,167] fun K hK=>?_|(refine hK.go ?_;clear hK K)|with_reducible exact wT|refine wA ?_|(refine wB (fun h=>?_) (fun h=>?_)<;>first|exact wN h|subst (h:(_:Bool)=_)|skip)|(refine wQ ?_;clear hQ hR hE hM)|fail);all_goals clear hX)
        all_goals first|(exfalso;contradiction)|(exfalso;omega)|exact ⟨j+1,by omega,by omega,by omega⟩|trace_state
     ·(repeat' first|refine zaa [0,1,2,3,4,5,6,7,8,9,10,11,12,13,14,25,29,39,70,75,134,139,152,158,167] fun K hK=>?_|(refine hK.go ?_;clear hK K)|with_reducible exact wT|refine wA ?_|(refine wB (fun h=>?_) (fun h=>?_)<;>first|exact wN h|subst (h:(_:Bool)=_)|skip)|(refine wQ ?_;clear hQ hR hE hM)|fail)
      refine zas (ι:=Nat) [2,4,5,6,7,8,13] (fun z=>[(13,.n z)]) (fun _=>[]) (fun z=>z) (U.tracks.length) (fun _=>True) (0) ?_;rintro j ⟨hk,-⟩;(try dsimp only at hk ⊢);rcases Nat.lt_or_ge j U.tracks.length with hlt|hge
      ·(repeat' first|refine zaa [0,1,2,3,4,5,6,7,8,9,10,11,12,13,14,25,29,39,70,75,134,139,152,158,167] fun K hK=>?_|(refine hK.go ?_;clear hK K)|with_reducible exact wT|refine wA ?_|(refine wB (fun h=>?_) (fun h=>?_)<;>first|exact wN h|subst (h:(_:Bool)=_)|skip)|(refine wQ ?_;clear hQ hR hE hM)|fail)
       all_goals first|(exfalso;contradiction)|exact ⟨j+1,by omega,by omega,by omega⟩|trace_state
      ·(repeat' first|refine zaa [0,1,2,3,4,5,6,7,8,9,10,11,12,13,14,25,29,39,70,75,134,139,152,158,167] fun K hK=>?_|(refine hK.go ?_;clear hK K)|with_reducible exact wT|refine wA ?_|(refine wB (fun h=>?_) (fun h=>?_)<;>first|exact wN h|subst (h:(_:Bool)=_)|skip)|(refine wQ ?_;clear hQ hR hE hM)|fail)
       all_goals first|(exfalso;contradiction)|exact ⟨k+1,by omega,by omega,by omega,by rw[hL];rfl⟩|exact ⟨k+1,by omega,by omega,by omega,by rw[hL]⟩|trace_state
    ·obtain rfl:k=9:=by omega
     obtain ⟨hs1,hs2,hs3⟩:=hs9
     generalize zbh 9 s=U at *
     (repeat' first|refine zaa [0,1,2,3,4,5,6,7,8,9,10,11,12,13,14,25,29,39,70,75,134,139,152,158,167] fun K hK=>?_|(refine hK.go ?_;clear hK K)|with_reducible exact wT|refine wA ?_|(refine wB (fun h=>?_) (fun h=>?_)<;>first|exact wN h|subst (h:(_:Bool)=_)|skip)|(refine wQ ?_;clear hQ hR hE hM)|fail)
     refine zas (ι:=Nat) [4,5,6,14] (fun z=>[(14,.n z)]) (fun _=>[]) (fun z=>z) (U.locks.length) (fun _=>True) (0) ?_;rintro j ⟨hk,-⟩;(try dsimp only at hk ⊢);rcases Nat.lt_or_ge j U.locks.length with hlt|hge
     ·have h1:=hEnd j (by assumption)
      (have hX:=@h1;(repeat' first|refine zaa [0,1,2,3,4,5,6,7,8,9,10,11,12,13,14,25,29,39,70,75,134,139,152,158,167] fun K hK=>?_|(refine hK.go ?_;clear hK K)|with_reducible exact wT|refine wA ?_|(refine wB (fun h=>?_) (fun h=>?_)<;>first|exact wN h|subst (h:(_:Bool)=_)|skip)|(refine wQ ?_;clear hQ hR hE hM)|fail);all_goals clear hX)
      all_goals first|(exfalso;contradiction)|exact ⟨j+1,by omega,by omega,by omega⟩|trace_state
     ·(repeat' first|refine zaa [0,1,2,3,4,5,6,7,8,9,10,11,12,13,14,25,29,39,70,75,134,139,152,158,167] fun K hK=>?_|(refine hK.go ?_;clear hK K)|with_reducible exact wT|refine wA ?_|(refine wB (fun h=>?_) (fun h=>?_)<;>first|exact wN h|subst (h:(_:Bool)=_)|skip)|(refine wQ ?_;clear hQ hR hE hM)|fail)
      all_goals first|rfl|(exfalso;contradiction)|trace_state
   ·have c3:=zmp hH hI p sp s ss
    have c4:=zdG hH hI p sp s ss
    rw[show zlr p s=State.z by unfold zlr;rw[if_neg hst]]at c3
    unfold State.z at c3
    generalize zam p s=e at *
    refine PC.fn hH cd405 fun w0 M Q hM hE hQ hR=>?_;dsimp only[cd405,qm,ql,qf,qi,qb,qc,qp,qv,qN,qT,qF,qt]at hQ ⊢
    (repeat' first|refine zaa [0,1,2,3,4,5,6,7,8,9,10,11,12,13,14,25,29,39,70,75,134,139,152,158,167] fun K hK=>?_|(refine hK.go ?_;clear hK K)|with_reducible exact wT|refine wA ?_|(refine wB (fun h=>?_) (fun h=>?_)<;>first|exact wN h|subst (h:(_:Bool)=_)|skip)|(refine wQ ?_;clear hQ hR hE hM)|refine wC c0 ?_|refine wC c1 ?_|refine wC c2 ?_|fail)
    all_goals first|(exfalso;contradiction)|skip
    refine zas (ι:=Nat) [2,4,5,6,7] (fun z=>[(7,.n z)]) (fun _=>[]) (fun z=>z) (9) (fun z=>(z=0)) (0) ?_;rintro k ⟨hk,h0⟩;(try dsimp only at hk h0 ⊢);rcases Nat.lt_or_ge k 9 with hlt|hge
    ·subst h0
     (repeat' first|refine zaa [0,1,2,3,4,5,6,7,8,9,10,11,12,13,14,25,29,39,70,75,134,139,152,158,167] fun K hK=>?_|(refine hK.go ?_;clear hK K)|with_reducible exact wT|refine wA ?_|(refine wB (fun h=>?_) (fun h=>?_)<;>first|exact wN h|subst (h:(_:Bool)=_)|skip)|(refine wQ ?_;clear hQ hR hE hM)|refine wC c3 ?_|refine wC c4 ?_|fail)
     all_goals first|rfl|(exfalso;contradiction)|trace_state
    ·exfalso;omega
end Go.Lev
