/-
  A part of the engine that walks the functions' codes, and of the functions' contracts. Conditions: those that each theorem names.
-/
import Derived.Test.YtibpmipffibbpaaGreatQ6
import Derived.IntWalk
set_option linter.unusedSimpArgs false
set_option linter.unusedVariables false
set_option linter.unusedSectionVars false
namespace Go.Lev
open Go.Eng
@[simp] theorem isN_0 (l:List Track) (n:Int):isN l n 0=0:=rfl
set_option maxRecDepth 10000
set_option maxHeartbeats 4000000
variable {P:Program} {inv:Nat→Option Nat}
theorem zku (a b:Track):a=b↔a.id=b.id∧a.is=b.is:=by cases a;cases b;simp
theorem zjj (a b:Switch):a=b↔a.id=b.id∧a.lie=b.lie∧a.call=b.call:=by cases a;cases b;simp
theorem zhM (a b:Lock):a=b↔a.id=b.id∧a.phase=b.phase∧a.gone=b.gone∧a.left=b.left:=by cases a;cases b;simp
theorem zkv (a b:State):a=b↔a.tracks=b.tracks∧a.switches=b.switches∧a.locks=b.locks:=by cases a;cases b;simp
theorem zjb (hH:HasAll P inv) (a b:List Track) (hl:a.length≤1000000000):PC P inv 34 [.sl 2 (a.map Track.c),.sl 2 (b.map Track.c)] (·=.b (decide (a=b))):=by
 refine PC.fn hH cd34 fun w0 M Q hM hE hQ hR=>?_;dsimp only[cd34,qm,ql,qf,qi,qb,qc,qp,qv,qN,qT,qF,qt]at hQ ⊢
 (repeat' first|refine zaa [0,1,4,5,10,12,13,14,24] fun K hK=>?_|(refine hK.go ?_;clear hK K)|with_reducible exact wT|refine wA ?_|(refine wB (fun h=>?_) (fun h=>?_)<;>first|exact wN h|subst (h:(_:Bool)=_)|skip)|(refine wQ ?_;clear hQ hR hE hM)|fail)
 ·have:¬a=b:=fun e=>h (by rw[e])
  simp[this]
 have hab:a.length=b.length:=by omega
 refine zcm (fun k=>[(0,.sl 2 (a.map Track.c)),(1,.sl 2 (b.map Track.c)),(12,.n a.length),(13,.n k)]) (fun k=>[]) (a.length) (fun k=>((a.drop k=b.drop k)↔a=b)) ?_;rintro k ⟨hk,hg⟩;rcases Nat.lt_or_ge k a.length with hlt|hge
 ·rw[zah hlt,zah (l:=b) (i:=k) (by omega),List.cons.injEq,zku]at hg
  (repeat' first|refine zaa [0,1,4,5,10,12,13,14,24] fun K hK=>?_|(refine hK.go ?_;clear hK K)|with_reducible exact wT|refine wA ?_|(refine wB (fun h=>?_) (fun h=>?_)<;>first|exact wN h|subst (h:(_:Bool)=_)|skip)|(refine wQ ?_;clear hQ hR hE hM)|fail)
  ·have:¬a=b:=by rw[←hg];grind
   simp[this]
  ·exact ⟨k+1,by omega,⟨by omega,by rw[←hg];grind⟩,(by (try dsimp only);(first|omega|(simp;done)|(simp;omega)))⟩
 ·rw[List.drop_eq_nil_of_le hge,List.drop_eq_nil_of_le (by omega)]at hg
  (repeat' first|refine zaa [0,1,4,5,10,12,13,14,24] fun K hK=>?_|(refine hK.go ?_;clear hK K)|with_reducible exact wT|refine wA ?_|(refine wB (fun h=>?_) (fun h=>?_)<;>first|exact wN h|subst (h:(_:Bool)=_)|skip)|(refine wQ ?_;clear hQ hR hE hM)|fail)
  simp[←hg]
theorem zhU (hH:HasAll P inv) (a b:List Switch) (hl:a.length≤1000000000):PC P inv 35 [.sl 3 (a.map Switch.c),.sl 3 (b.map Switch.c)] (·=.b (decide (a=b))):=by
 refine PC.fn hH cd35 fun w0 M Q hM hE hQ hR=>?_;dsimp only[cd35,qm,ql,qf,qi,qb,qc,qp,qv,qN,qT,qF,qt]at hQ ⊢
 (repeat' first|refine zaa [0,1,4,5,10,12,13,14,24] fun K hK=>?_|(refine hK.go ?_;clear hK K)|with_reducible exact wT|refine wA ?_|(refine wB (fun h=>?_) (fun h=>?_)<;>first|exact wN h|subst (h:(_:Bool)=_)|skip)|(refine wQ ?_;clear hQ hR hE hM)|fail)
 ·have:¬a=b:=fun e=>h (by rw[e])
  simp[this]
 have hab:a.length=b.length:=by omega
 refine zcm (fun k=>[(0,.sl 3 (a.map Switch.c)),(1,.sl 3 (b.map Switch.c)),(12,.n a.length),(13,.n k)]) (fun k=>[]) (a.length) (fun k=>((a.drop k=b.drop k)↔a=b)) ?_;rintro k ⟨hk,hg⟩;rcases Nat.lt_or_ge k a.length with hlt|hge
 ·rw[zah hlt,zah (l:=b) (i:=k) (by omega),List.cons.injEq,zjj]at hg
  (repeat' first|refine zaa [0,1,4,5,10,12,13,14,24] fun K hK=>?_|(refine hK.go ?_;clear hK K)|with_reducible exact wT|refine wA ?_|(refine wB (fun h=>?_) (fun h=>?_)<;>first|exact wN h|subst (h:(_:Bool)=_)|skip)|(refine wQ ?_;clear hQ hR hE hM)|fail)
  ·have:¬a=b:=by rw[←hg];grind
   simp[this]
  ·exact ⟨k+1,by omega,⟨by omega,by rw[←hg];grind⟩,(by (try dsimp only);(first|omega|(simp;done)|(simp;omega)))⟩
 ·rw[List.drop_eq_nil_of_le hge,List.drop_eq_nil_of_le (by omega)]at hg
  (repeat' first|refine zaa [0,1,4,5,10,12,13,14,24] fun K hK=>?_|(refine hK.go ?_;clear hK K)|with_reducible exact wT|refine wA ?_|(refine wB (fun h=>?_) (fun h=>?_)<;>first|exact wN h|subst (h:(_:Bool)=_)|skip)|(refine wQ ?_;clear hQ hR hE hM)|fail)
  simp[←hg]
theorem zj8 (hH:HasAll P inv) (a b:List Lock) (hl:a.length≤1000000000):PC P inv 36 [.sl 4 (a.map Lock.c),.sl 4 (b.map Lock.c)] (·=.b (decide (a=b))):=by
 refine PC.fn hH cd36 fun w0 M Q hM hE hQ hR=>?_;dsimp only[cd36,qm,ql,qf,qi,qb,qc,qp,qv,qN,qT,qF,qt]at hQ ⊢
 (repeat' first|refine zaa [0,1,4,5,10,12,13,14,24] fun K hK=>?_|(refine hK.go ?_;clear hK K)|with_reducible exact wT|refine wA ?_|(refine wB (fun h=>?_) (fun h=>?_)<;>first|exact wN h|subst (h:(_:Bool)=_)|skip)|(refine wQ ?_;clear hQ hR hE hM)|fail)
 ·have:¬a=b:=fun e=>h (by rw[e])
  simp[this]
 have hab:a.length=b.length:=by omega
 refine zcm (fun k=>[(0,.sl 4 (a.map Lock.c)),(1,.sl 4 (b.map Lock.c)),(12,.n a.length),(13,.n k)]) (fun k=>[]) (a.length) (fun k=>((a.drop k=b.drop k)↔a=b)) ?_;rintro k ⟨hk,hg⟩;rcases Nat.lt_or_ge k a.length with hlt|hge
 ·rw[zah hlt,zah (l:=b) (i:=k) (by omega),List.cons.injEq,zhM]at hg
  (repeat' first|refine zaa [0,1,4,5,10,12,13,14,24] fun K hK=>?_|(refine hK.go ?_;clear hK K)|with_reducible exact wT|refine wA ?_|(refine wB (fun h=>?_) (fun h=>?_)<;>first|exact wN h|subst (h:(_:Bool)=_)|skip)|(refine wQ ?_;clear hQ hR hE hM)|fail)
  ·have:¬a=b:=by rw[←hg];grind
   simp[this]
  ·exact ⟨k+1,by omega,⟨by omega,by rw[←hg];grind⟩,(by (try dsimp only);(first|omega|(simp;done)|(simp;omega)))⟩
 ·rw[List.drop_eq_nil_of_le hge,List.drop_eq_nil_of_le (by omega)]at hg
  (repeat' first|refine zaa [0,1,4,5,10,12,13,14,24] fun K hK=>?_|(refine hK.go ?_;clear hK K)|with_reducible exact wT|refine wA ?_|(refine wB (fun h=>?_) (fun h=>?_)<;>first|exact wN h|subst (h:(_:Bool)=_)|skip)|(refine wQ ?_;clear hQ hR hE hM)|fail)
  simp[←hg]
end Go.Lev
namespace Go.Lev
open Go.Eng
set_option maxRecDepth 10000
set_option maxHeartbeats 4000000
variable {P:Program} {inv:Nat→Option Nat}
theorem sSame_pc (hH:HasAll P inv) (a b:State) (h1:a.tracks.length≤1000000) (h2:a.switches.length≤1000000) (h3:a.locks.length≤1000000):PC P inv 11 [.agg a.c,.agg b.c] (·=.b (decide (a=b))):=by
 refine PC.fn hH cd11 fun w0 M Q hM hE hQ hR=>?_;dsimp only[cd11,qm,ql,qf,qi,qb,qc,qp,qv,qN,qT,qF,qt]at hQ ⊢
 (repeat' first|refine zaa [0,1,2,3,4] fun K hK=>?_|(refine hK.go ?_;clear hK K)|with_reducible exact wT|refine wA ?_|(refine wB (fun h=>?_) (fun h=>?_)<;>first|exact wN h|subst (h:(_:Bool)=_)|skip)|(refine wQ ?_;clear hQ hR hE hM)|(refine zas hM (zjb hH _ _ (by omega)) ?_;try (refine no_implicit_lambda% (st ?_);try with_reducible exact wT))|(refine zas hM (zhU hH _ _ (by omega)) ?_;try (refine no_implicit_lambda% (st ?_);try with_reducible exact wT))|(refine zas hM (zj8 hH _ _ (by omega)) ?_;try (refine no_implicit_lambda% (st ?_);try with_reducible exact wT))|fail)
 all_goals (grind[zkv])
end Go.Lev
namespace Go.Lev
open Go.Eng
theorem zmQ {α:Type} [Inhabited α] (f:Nat→α→α) {l:List α} {i:Nat} (h:i<l.length):nth (l.mapIdx f) i=f i (nth l i):=by
 rw[zaN (by simpa using h),zaN h,List.getElem_mapIdx]
theorem ext_nth {α:Type} [Inhabited α] {a b:List α} (hl:a.length=b.length) (h:∀ i,i<a.length→nth a i=nth b i):a=b:=by
 refine List.ext_getElem hl fun i h1 h2=>?_
 rw[←zaN h1,←zaN h2]
 exact h i h1
theorem zit {p:Pln} (h:OkP p) {r:Rte} (hr:r∈p.routes):1≤r.timer∧r.timer≤9:=by
 have h1:=h.rte r hr
 simp only[zft,zeQ,Bool.and_eq_true,Bool.not_eq_true',decide_eq_false_iff_not]at h1
 omega
end Go.Lev
namespace Go.Lev
open Go.Eng
theorem hold_who {p:Pln} {s:State} (h:zae p s=0) {n:Int} (hn:0≤n):(∃ i,i<s.locks.length∧n∈zjm p s i∧nth (zaF p s).1 n.toNat=(nth s.locks i).id)∨((∀ i,i<s.locks.length→n∉zjm p s i)∧nth (zaF p s).1 n.toNat=0):=by
 rcases zic h hn with ⟨z,hz,hm,e2⟩|⟨h1,e2⟩
 ·obtain ⟨j,hj,rfl⟩:=zgt h hz
  exact .inl ⟨j,hj,hm,e2⟩
 ·exact .inr ⟨fun i hi=>h1 _ (zeW h hi),e2⟩
end Go.Lev
namespace Go.Lev
open Go.Eng
set_option maxRecDepth 10000
set_option maxHeartbeats 4000000
variable {P:Program} {inv:Nat→Option Nat} {w0:World} {M:Nat→Prop}
theorem trk_of {p:Pln} {s:State} (h:zal p s=true) {n:Int} (hs:∃ x∈p.sections,x.id=n):zk8 s n:=by
 obtain ⟨x,hx,rfl⟩:=hs
 have:x.id∈s.tracks.map Track.id:=by rw[zgv h];exact List.mem_map_of_mem hx
 obtain ⟨t,ht,e⟩:=List.mem_map.1 this
 exact ⟨t,ht,e⟩
end Go.Lev
namespace Go.Lev
open Go.Eng
set_option maxRecDepth 10000
set_option maxHeartbeats 4000000
variable {P:Program} {inv:Nat→Option Nat} {w0:World} {M:Nat→Prop}
section
variable {L:List Lock} {k:Nat} (h:k<L.length)
include h
theorem lk_set0 (v:Int):(L.map Lock.c).flatten.set (k*4) (.i .i64 v)=((L.set k ⟨v,(nth L k).phase,(nth L k).gone,(nth L k).left⟩).map Lock.c).flatten:=by
 have:=zb7 (c:=Lock.c) (l:=L) (k:=k) (i:=0) h (by omega) (.i .i64 v) ⟨v,(nth L k).phase,(nth L k).gone,(nth L k).left⟩ rfl
 simpa using this
theorem lk_set1 (v:Int):(L.map Lock.c).flatten.set (k*4+1) (.i .u8 v)=((L.set k ⟨(nth L k).id,v,(nth L k).gone,(nth L k).left⟩).map Lock.c).flatten :=
 zb7 (c:=Lock.c) (l:=L) (k:=k) (i:=1) h (by omega) (.i .u8 v) ⟨(nth L k).id,v,(nth L k).gone,(nth L k).left⟩ rfl
theorem lk_set2 (v:Int):(L.map Lock.c).flatten.set (k*4+2) (.i .i64 v)=((L.set k ⟨(nth L k).id,(nth L k).phase,v,(nth L k).left⟩).map Lock.c).flatten :=
 zb7 (c:=Lock.c) (l:=L) (k:=k) (i:=2) h (by omega) (.i .i64 v) ⟨(nth L k).id,(nth L k).phase,v,(nth L k).left⟩ rfl
theorem lk_set3 (v:Int):(L.map Lock.c).flatten.set (k*4+3) (.i .i64 v)=((L.set k ⟨(nth L k).id,(nth L k).phase,(nth L k).gone,v⟩).map Lock.c).flatten :=
 zb7 (c:=Lock.c) (l:=L) (k:=k) (i:=3) h (by omega) (.i .i64 v) ⟨(nth L k).id,(nth L k).phase,(nth L k).gone,v⟩ rfl
theorem zhe (x:Lock):nth (L.set k x) k=x:=by rw[zbr _ _ _ _ h,if_pos rfl]
end
theorem ziE (L:List Lock) (k:Nat) (x y:Lock):(L.set k x).set k y=L.set k y:=by rw[List.set_set]
section
variable {L:List Lock} {k:Nat} (h:k<L.length) (x:Lock)
include h
theorem lk_sets0 (v:Int):((L.set k x).map Lock.c).flatten.set (k*4) (.i .i64 v)=((L.set k ⟨v,x.phase,x.gone,x.left⟩).map Lock.c).flatten:=by rw[lk_set0 (by simpa using h),zhe h,ziE]
theorem lk_sets1 (v:Int):((L.set k x).map Lock.c).flatten.set (k*4+1) (.i .u8 v)=((L.set k ⟨x.id,v,x.gone,x.left⟩).map Lock.c).flatten:=by rw[lk_set1 (by simpa using h),zhe h,ziE]
theorem lk_sets2 (v:Int):((L.set k x).map Lock.c).flatten.set (k*4+2) (.i .i64 v)=((L.set k ⟨x.id,x.phase,v,x.left⟩).map Lock.c).flatten:=by rw[lk_set2 (by simpa using h),zhe h,ziE]
theorem lk_sets3 (v:Int):((L.set k x).map Lock.c).flatten.set (k*4+3) (.i .i64 v)=((L.set k ⟨x.id,x.phase,x.gone,v⟩).map Lock.c).flatten:=by rw[lk_set3 (by simpa using h),zhe h,ziE]
end
end Go.Lev
namespace Go.Lev
open Go.Eng
set_option maxRecDepth 10000
set_option maxHeartbeats 4000000
variable {P:Program} {inv:Nat→Option Nat} {w0:World} {M:Nat→Prop}
theorem is187_pc (hH:HasAll P inv) (n:Int) (x:Track):PC P inv 187 ([.agg x.c]++[.ip 1 [[.n n]] 0 0]) (·=.b (decide (x.id=n))):=by
 refine PC.fn hH cd187 fun w0 M Q hM hE hQ hR=>?_;dsimp only[cd187,qm,ql,qf,qi,qb,qc,qp,qv,qN,qT,qF,qt]at hQ ⊢
 (repeat' first|refine zaa [0,1,2,3] fun K hK=>?_|(refine hK.go ?_;clear hK K)|with_reducible exact wT|refine wA ?_|(refine wB (fun h=>?_) (fun h=>?_)<;>first|exact wN h|subst (h:(_:Bool)=_)|skip)|(refine wQ ?_;clear hQ hR hE hM)|fail)
theorem is_pc (hH:HasAll P inv) (s:State) (hs:s.tracks.length≤1000000000) {m:Nat} (hm:m<s.tracks.length) {n:Int} (he:zbn (fun x=>decide (Track.id x=n)) 0 s.tracks=(m:Int)):PC P inv 186 ([.n n]++[.ip 3 [s.c] 0 0]) (·=.i .u8 (nth s.tracks m).is):=by
 have c1:=zld hH s.tracks (fun x _=>is187_pc hH n x) hs
 rw[he]at c1
 refine PC.fn hH cd186 fun w0 M Q hM hE hQ hR=>?_;dsimp only[cd186,qm,ql,qf,qi,qb,qc,qp,qv,qN,qT,qF,qt]at hQ ⊢
 (repeat' first|refine zaa [0,1,2,3] fun K hK=>?_|(refine hK.go ?_;clear hK K)|with_reducible exact wT|refine wA ?_|(refine wB (fun h=>?_) (fun h=>?_)<;>first|exact wN h|subst (h:(_:Bool)=_)|skip)|(refine wQ ?_;clear hQ hR hE hM)|refine wS c1 ?_|fail)
theorem ziv (hH:HasAll P inv) {jc:Nat} {caps:List AV} {n v:Int} (hc:PC P inv jc ([.n n]++caps) (·=.i .u8 v)):PC P inv 190 ([.n n]++[.ip 1 [[.fn jc caps]] 0 0]) (·=.b (decide (v=1))):=by
 refine PC.fn hH cd190 fun w0 M Q hM hE hQ hR=>?_;dsimp only[cd190,qm,ql,qf,qi,qb,qc,qp,qv,qN,qT,qF,qt]at hQ ⊢
 (repeat' first|refine zaa [0,1,3] fun K hK=>?_|(refine hK.go ?_;clear hK K)|with_reducible exact wT|refine wA ?_|(refine wB (fun h=>?_) (fun h=>?_)<;>first|exact wN h|subst (h:(_:Bool)=_)|skip)|(refine wQ ?_;clear hQ hR hE hM)|refine wC hc ?_|fail)
theorem step_pc (hH:HasAll P inv) (r:Rte) (l:Lock) (is:Int→Int) {jc:Nat} {caps:List AV} (hpl:zaw caps=true) (hc:∀ n∈r.path,PC P inv jc ([.n n]++caps) (·=.i .u8 (is n))) (h0:0<r.path.length) (h1:r.path.length≤1000) (hg:0≤l.gone∧l.gone≤(r.path.length:Int)-1):PC P inv 188 [.agg r.c,.agg l.c,.fn jc caps] (·=.agg (zcx r is l).c):=by
 have c1:=zoG hH r.path (fun x hx=>ziv hH (hc x hx)) (by omega)
 have d1:=hc _ (zaf (show r.path.length-1<r.path.length by omega))
 have d2:=hc _ (zaf (show l.gone.toNat<r.path.length by omega))
 have t1:=ziv hH d1
 have hb:=zbE caps hpl
 have hbd:zab caps=0:=za4 _ hb
 have hsn:∀ (k:Nat) (σ:AS),zbw k σ caps=caps:=fun k σ=>zeI k σ hpl
 unfold zcx
 generalize (r.path.any fun n=>decide (is n=1))=anyT at *
 by_cases hp:l.phase=1∨l.phase=4
 ·rw[if_pos hp]
  rcases hp with hp|hp
  all_goals cases anyT
  all_goals refine PC.fn hH cd188 fun w0 M Q hM hE hQ hR=>?_;dsimp only[cd188,qm,ql,qf,qi,qb,qc,qp,qv,qN,qT,qF,qt]at hQ ⊢
  all_goals (have hX:=zA @hp (zA @hb (zA @hbd @hsn));(repeat' first|refine zaa [0,1,2,3,4,5,6,7,8,15,16,22,26,28,41,53,59,79,91,97,105,106] fun K hK=>?_|(refine hK.go ?_;clear hK K)|with_reducible exact wT|refine wA ?_|(refine wB (fun h=>?_) (fun h=>?_)<;>first|exact wN h|subst (h:(_:Bool)=_)|skip)|(refine wQ ?_;clear hQ hR hE hM)|refine wS c1 ?_|fail);all_goals clear hX)
  all_goals first|rfl|(exfalso;contradiction)|trace_state
 ·rw[if_neg hp]
  have hp1:¬l.phase=1:=fun h=>hp (.inl h)
  have hp4:¬l.phase=4:=fun h=>hp (.inr h)
  have e1:decide (l.phase=1)=false:=decide_eq_false hp1
  have e4:decide (l.phase=4)=false:=decide_eq_false hp4
  by_cases hp2:l.phase=2
  ·rw[if_pos hp2]
   by_cases hgl:l.gone<(r.path.length:Int)-1
   ·have d3:=hc _ (zaf (show l.gone.toNat+1<r.path.length by omega))
    have t3:=ziv hH d3
    have hn1:(l.gone+1).toNat=l.gone.toNat+1:=by omega
    have hge:¬l.gone=(r.path.length:Int)-1:=by omega
    simp only[hgl,hge,true_and,false_and,if_false]
    generalize is (nth r.path l.gone.toNat)=v1 at *
    generalize is (nth r.path (l.gone.toNat+1))=v2 at *
    have egl:decide (l.gone<(r.path.length:Int)-1)=true:=decide_eq_true hgl
    have ege:decide (l.gone=(r.path.length:Int)-1)=false:=decide_eq_false hge
    refine PC.fn hH cd188 fun w0 M Q hM hE hQ hR=>?_;dsimp only[cd188,qm,ql,qf,qi,qb,qc,qp,qv,qN,qT,qF,qt]at hQ ⊢
    (have hX:=zA @hp2 (zA @hb (zA @hbd (zA @hsn (zA @hn1 (zA @egl @ege)))));(repeat' first|refine zaa [0,1,2,3,4,5,6,7,8,15,16,22,26,28,41,53,59,79,91,97,105,106] fun K hK=>?_|(refine hK.go ?_;clear hK K)|with_reducible exact wT|refine wA ?_|(refine wB (fun h=>?_) (fun h=>?_)<;>first|exact wN h|subst (h:(_:Bool)=_)|skip)|(refine wQ ?_;clear hQ hR hE hM)|refine wC d2 ?_|refine wS t3 ?_|fail);all_goals clear hX)
    all_goals first|(exfalso;contradiction)|rfl|(simp[*];done)|trace_state
   ·have hge:l.gone=(r.path.length:Int)-1:=by omega
    have hn2:((r.path.length:Int)-1).toNat=r.path.length-1:=by omega
    simp only[hgl,hge,true_and,false_and,if_false]
    generalize is (nth r.path (r.path.length-1))=v1 at *
    have egl:decide (l.gone<(r.path.length:Int)-1)=false:=decide_eq_false hgl
    have ege:decide (l.gone=(r.path.length:Int)-1)=true:=decide_eq_true hge
    refine PC.fn hH cd188 fun w0 M Q hM hE hQ hR=>?_;dsimp only[cd188,qm,ql,qf,qi,qb,qc,qp,qv,qN,qT,qF,qt]at hQ ⊢
    (have hX:=zA @hp2 (zA @hb (zA @hbd (zA @hsn (zA @hn2 (zA @egl @ege)))));(repeat' first|refine zaa [0,1,2,3,4,5,6,7,8,15,16,22,26,28,41,53,59,79,91,97,105,106] fun K hK=>?_|(refine hK.go ?_;clear hK K)|with_reducible exact wT|refine wA ?_|(refine wB (fun h=>?_) (fun h=>?_)<;>first|exact wN h|subst (h:(_:Bool)=_)|skip)|(refine wQ ?_;clear hQ hR hE hM)|refine wC d1 ?_|refine wS t1 ?_|fail);all_goals clear hX)
    all_goals first|(exfalso;contradiction)|rfl|(simp[*];done)|trace_state
  ·rw[if_neg hp2]
   have e2:decide (l.phase=2)=false:=decide_eq_false hp2
   have hn2:((r.path.length:Int)-1).toNat=r.path.length-1:=by omega
   by_cases hp3:l.phase=3
   ·rw[if_pos hp3]
    generalize is (nth r.path (r.path.length-1))=v1 at *
    refine PC.fn hH cd188 fun w0 M Q hM hE hQ hR=>?_;dsimp only[cd188,qm,ql,qf,qi,qb,qc,qp,qv,qN,qT,qF,qt]at hQ ⊢
    (have hX:=zA @hp3 (zA @hb (zA @hbd (zA @hsn @hn2)));(repeat' first|refine zaa [0,1,2,3,4,5,6,7,8,15,16,22,26,28,41,53,59,79,91,97,105,106] fun K hK=>?_|(refine hK.go ?_;clear hK K)|with_reducible exact wT|refine wA ?_|(refine wB (fun h=>?_) (fun h=>?_)<;>first|exact wN h|subst (h:(_:Bool)=_)|skip)|(refine wQ ?_;clear hQ hR hE hM)|refine wC d1 ?_|fail);all_goals clear hX)
    all_goals first|(exfalso;contradiction)|rfl|(simp[*];done)|trace_state
   ·rw[if_neg hp3]
    have e3:decide (l.phase=3)=false:=decide_eq_false hp3
    refine PC.fn hH cd188 fun w0 M Q hM hE hQ hR=>?_;dsimp only[cd188,qm,ql,qf,qi,qb,qc,qp,qv,qN,qT,qF,qt]at hQ ⊢
    (have hX:=zA @e1 (zA @e2 (zA @e3 (zA @e4 (zA @hb (zA @hbd @hsn)))));(repeat' first|refine zaa [0,1,2,3,4,5,6,7,8,15,16,22,26,28,41,53,59,79,91,97,105,106] fun K hK=>?_|(refine hK.go ?_;clear hK K)|with_reducible exact wT|refine wA ?_|(refine wB (fun h=>?_) (fun h=>?_)<;>first|exact wN h|subst (h:(_:Bool)=_)|skip)|(refine wQ ?_;clear hQ hR hE hM)|fail);all_goals clear hX)
    all_goals first|(exfalso;contradiction)|rfl|(simp[*];done)|trace_state
end Go.Lev
namespace Go.Eng
section
variable {P:Program} {inv:Nat→Option Nat} {w0:World} {M:Nat→Prop} {n N:Nat} {φ φ0:AF} {σ σ0:AS}
theorem znj {x:ACode} {Q:Exit→AF→AS→Prop} (l:Nat) (hf:zhJ (.seq (.label l) x) l=some (.seq .skip x)) (I:Nat→AF→AS→Prop) (m0:Nat) (h0:I m0 φ0 σ0) (h1:zf8 φ0 φ) (h2:zeE σ0 σ)
  (pass:∀ m φ σ,I m φ σ→AWp P inv w0 M N n x (zf3 l (fun φ' σ'=>∃ m' φ2 σ2,m'<m∧I m' φ2 σ2∧zf8 φ2 φ'∧zeE σ2 σ') Q) φ σ):AWp P inv w0 M N n (.scope (.seq (.label l) x)) Q φ σ:=by
 refine AWp.scope l hf I ?_ fun m φ σ h=>AWp.seq fun K hK=>AWp.skip (hK _ _ (pass m φ σ h))
 refine AWp.sub (AWp.seq fun K hK=>AWp.label (hK _ _ (AWp.mono ?_ (pass m0 φ0 σ0 h0)))) h1 h2
 intro e φ' σ' q
 cases e with
 |goto l'=>obtain ⟨rfl,m',φ2,σ2,_,q1,q2,q3⟩:=q;exact ⟨rfl,m',φ2,σ2,q1,q2,q3⟩
 |normal=>exact q
 |exit id=>exact q
 |ret=>exact q
 |panic ch=>exact q
 |outgrown=>exact q
end
end Go.Eng
namespace Go.Lev
open Go.Eng
set_option maxRecDepth 10000
set_option maxHeartbeats 4000000
variable {P:Program} {inv:Nat→Option Nat} {w0:World} {M:Nat→Prop}
theorem stepL_id (r:Rte) (is:Int→Int) (l:Lock):(zcx r is l).id=l.id:=by
 unfold zcx
 repeat' split
 all_goals rfl
theorem zdg {r:Rte} {is:Int→Int} {l:Lock} (h:zaA l r=true) (h0:0<r.path.length) (ht:1≤r.timer):zaA (zcx r is l) r=true∧(zcx r is l≠l→zdx r (zcx r is l)<zdx r l):=by
 unfold zcx
 by_cases h1:l.phase=1∨l.phase=4
 ·rw[if_pos h1]
  split
  ·refine ⟨by simp[zaA];omega,fun _=>?_⟩
   unfold zdx
   rw[if_neg (by simp),if_pos rfl,if_pos h1]
   simp;omega
  ·exact ⟨h,fun e=>absurd rfl e⟩
 ·rw[if_neg h1]
  by_cases h2:l.phase=2
  ·rw[if_pos h2]
   simp only[zaA,h2]at h
   simp at h
   split
   ·rename_i h3
    refine ⟨by simp[zaA,h2];omega,fun _=>?_⟩
    unfold zdx
    rw[if_neg h1,if_pos h2,if_neg h1,if_pos h2]
    dsimp only
    omega
   ·split
    ·refine ⟨by simp[zaA];omega,fun _=>?_⟩
     unfold zdx
     rw[if_neg (by simp),if_neg (by simp),if_pos rfl,if_neg h1,if_pos h2]
     omega
    ·split
     ·refine ⟨by simp[zaA],fun _=>?_⟩
      unfold zdx
      rw[if_neg (by simp),if_neg (by simp),if_neg (by simp),if_neg h1,if_pos h2]
      omega
     ·exact ⟨by simp[zaA,h2];omega,fun e=>absurd rfl e⟩
  ·rw[if_neg h2]
   by_cases h3:l.phase=3
   ·rw[if_pos h3]
    split
    ·refine ⟨by simp[zaA],fun _=>?_⟩
     unfold zdx
     rw[if_neg (by simp),if_neg (by simp),if_neg (by simp),if_neg h1,if_neg h2,if_pos h3]
     omega
    ·exact ⟨h,fun e=>absurd rfl e⟩
   ·rw[if_neg h3]
    exact ⟨h,fun e=>absurd rfl e⟩
theorem zjz {r:Rte} {is:Int→Int} (h0:0<r.path.length) (ht:1≤r.timer):∀ (m:Nat) (l:Lock),zaA l r=true→zdx r l≤m→zbg r is m l=zbg r is (zdx r l) l:=by
 intro m
 induction m using Nat.strongRecOn with
 |ind m ih =>
  intro l hl hm
  obtain ⟨k1,k2⟩:=zdg (is:=is) hl h0 ht
  cases m with
  |zero=>rw[show zdx r l=0 by omega]
  |succ m =>
   cases hr:zdx r l with
   |zero =>
    have:zcx r is l=l:=Classical.byContradiction fun e=>by have:=k2 e;omega
    rw[zbg,zbg,if_pos this]
   |succ q =>
    rw[zbg,zbg]
    split
    ·rfl
    ·rename_i e
     have:=k2 e
     rw[ih m (by omega) _ k1 (by omega),ih q (by omega) _ k1 (by omega)]
theorem zjy {r:Rte} {is:Int→Int} {l:Lock} (hl:zaA l r=true) (h0:0<r.path.length) (ht:1≤r.timer):zbN r is (zcx r is l)=zbN r is l:=by
 obtain ⟨k1,k2⟩:=zdg (is:=is) hl h0 ht
 by_cases e:zcx r is l=l
 ·rw[e]
 ·have:=k2 e
  unfold zbN
  cases hr:zdx r l with
  |zero=>omega
  |succ q=>rw[zbg,if_neg e,zjz h0 ht q _ k1 (by omega)]
theorem zgF {r:Rte} {is:Int→Int} {l:Lock} (e:zcx r is l=l):zbN r is l=l:=by
 unfold zbN
 cases zdx r l with
 |zero=>rfl
 |succ q=>rw[zbg,if_pos e]
theorem zmy {r:Rte} {is:Int→Int} {l:Lock} (hl:zaA l r=true) (h0:0<r.path.length) (ht:1≤r.timer):zaA (zbN r is l) r=true∧zcx r is (zbN r is l)=zbN r is l∧(zbN r is l).id=l.id:=by
 have key:∀ (m:Nat) (l:Lock),zaA l r=true→zdx r l≤m→zaA (zbg r is m l) r=true∧zcx r is (zbg r is m l)=zbg r is m l∧(zbg r is m l).id=l.id:=by
  intro m
  induction m with
  |zero =>
   intro l hl hm
   obtain ⟨k1,k2⟩:=zdg (is:=is) hl h0 ht
   exact ⟨hl,Classical.byContradiction fun e=>by have:=k2 e;omega,rfl⟩
  |succ m ih =>
   intro l hl hm
   obtain ⟨k1,k2⟩:=zdg (is:=is) hl h0 ht
   rw[zbg]
   split
   ·rename_i e;exact ⟨hl,e,rfl⟩
   ·rename_i e
    have:=k2 e
    obtain ⟨q1,q2,q3⟩:=ih _ k1 (by omega)
    exact ⟨q1,q2,q3.trans (stepL_id r is l)⟩
 exact key _ l hl (Nat.le_refl _)
end Go.Lev
namespace Go.Lev
open Go.Eng
set_option maxRecDepth 10000
set_option maxHeartbeats 4000000
variable {P:Program} {inv:Nat→Option Nat} {w0:World} {M:Nat→Prop}
theorem zjR {l:Lock} {r:Rte} (h0:0<r.path.length) (h:zaA l r=true):0≤l.gone∧l.gone≤(r.path.length:Int)-1:=by
 unfold zaA at h
 repeat' split at h
 all_goals (simp at h;try omega)
theorem znI (hH:HasAll P inv) (hI:HasIds P inv) (p:Pln) (hp:Sm p) (s:State) (hs:SmS s) (he:zae p s=0):PO P inv 179 [.agg p.c,.agg s.c] (.tup [zky 5 (za1 p s),.n 0]) (zkz 5 (za1 p s)):=by
 have c0:=zbH hH hI p hp s hs
 rw[he]at c0
 have c1:=zc3 hH s hs
 have hok:=zao he
 have hpa:=(zad he).2.1
 have hpl:=zap hpa
 have hph:∀ k,k<s.locks.length→zaA (nth s.locks k) (nth p.routes k)=true:=fun k hk=>by
  have:=zej hpa hk
  simp only[zcp,Bool.and_eq_true]at this
  exact this.2
 have hrt:∀ k,k<p.routes.length→0<(nth p.routes k).path.length∧(nth p.routes k).path.length≤1000∧1≤(nth p.routes k).timer:=fun k hk=>by
  have hr:=zaf hk
  have h1:=zcj hok hr
  have h2:=zit hok hr
  exact ⟨by omega,by omega,h2.1⟩
 have hcl:∀ (L:List Lock) (k:Nat),k<p.routes.length→∀ n∈(nth p.routes k).path,PC P inv 186 ([.n n]++[.ip 3 [State.c ⟨s.tracks,s.switches,L⟩] 0 0]) (·=.i .u8 (ze1 s n)):=fun L k hk n hn=>by
  obtain ⟨q,hq,e⟩:=(zdi hok (zaf hk)).1 n (List.mem_append_left _ hn)
  obtain ⟨t,ht,et⟩:=trk_of hpa ⟨q,hq,e⟩
  rcases za3 Track.id n s.tracks with ⟨_,q1⟩|⟨m,hm,q1,q2⟩
  ·exact absurd et (q1 t ht)
  ·have:=is_pc hH ⟨s.tracks,s.switches,L⟩ (by have:=hs.1;dsimp only;omega) (m:=m) hm q1
   dsimp only at this
   rw[←zl4 hok hpa hm,q2]at this
   exact this
 obtain ⟨h1,h2,h3⟩:=hs
 have hrl:=hp.rte
 unfold stV stR at c1
 refine PO.fn hH cd179 fun w0 M Q hM hE hQ hR=>?_;dsimp only[cd179,qm,ql,qf,qi,qb,qc,qp,qv,qN,qT,qF,qt]at hQ ⊢
 (repeat' first|refine zaa [0,1,2,3,4,5,6,7,8,9,10,15,22,23,24,25,43] fun K hK=>?_|(refine hK.go ?_;clear hK K)|with_reducible exact wT|refine wA ?_|(refine wB (fun h=>?_) (fun h=>?_)<;>first|exact wN h|subst (h:(_:Bool)=_)|skip)|(refine wR ?_;clear hQ hR hE hM)|refine wC c0 ?_|refine wO c1 ?_|fail)
 all_goals first|(exfalso;contradiction)|skip
 refine zat (ι:=Nat) [3,4,5,7,22,23,24] (fun z=>[(24,.n z)]) (fun z=>[(7,.cells ((zf4 (zf5 p s) z s.locks).map Lock.c).flatten (decide (0<s.locks.length)))]) (fun z=>z) (p.routes.length) (fun _=>True) (0) ?_;rintro k ⟨hk,-⟩;(try dsimp only at hk ⊢);rcases Nat.lt_or_ge k p.routes.length with hlt|hge
 ·have hk2:k<s.locks.length:=by omega
  have e1:=zge (zf5 p s) hk2
  have en:=zdV (zf5 p s) hk2
  have hlen:(zf4 (zf5 p s) k s.locks).length=s.locks.length:=zcL _ _ _
  generalize hU:zf4 (zf5 p s) k s.locks=U at *
  have hkU:k<U.length:=by omega
  have hid:U.set k (nth s.locks k)=U:=by rw[←en,zaN hkU,List.set_getElem_self]
  obtain ⟨hr0,hr1,hrt1⟩:=hrt k hlt
  have hcl2:=fun L=>hcl L k hlt
  have hdec:decide (0<s.locks.length)=decide (0<s.locks.length):=rfl
  (repeat' first|refine zaa [0,1,2,3,4,5,6,7,8,9,10,15,22,23,24,25,43] fun K hK=>?_|(refine hK.go ?_;clear hK K)|with_reducible exact wT|refine wA ?_|(refine wB (fun h=>?_) (fun h=>?_)<;>first|exact wN h|subst (h:(_:Bool)=_)|skip)|(refine wR ?_;clear hQ hR hE hM)|fail)
  refine znj 0 rfl (fun m φ σ=>∃ l':Lock,(zdx (nth p.routes k) l'=m∧zaA l' (nth p.routes k)=true∧zbN (nth p.routes k) (ze1 s) l'=zf5 p s k (nth s.locks k)) ∧
    φ=[(3,.ptr 1 3 0),(4,.ptr 2 3 0),(5,.n 0),(7,.fn 186 [.ptr 1 3 0]),(8,.n k),(9,.ptr 8 7 0),(22,.sl 7 (p.routes.map Rte.c)),(23,.n p.routes.length),(24,.n k)] ∧
    σ=[(0,.cells p.c true),(1,.cells [.sm 5 (s.tracks.length*2) 0 s.tracks.length 2,.sm 6 (s.switches.length*3) 0 s.switches.length 3,.sm 7 (s.locks.length*4) 0 s.locks.length 4] true),(2,.cells [.s0 2,.s0 3,.s0 4] true),
     (5,.cells (s.tracks.map Track.c).flatten (decide (0<s.tracks.length))),(6,.cells (s.switches.map Switch.c).flatten (decide (0<s.switches.length))),(7,.cells ((U.set k l').map Lock.c).flatten (decide (0<s.locks.length))),(8,.cells (nth p.routes k).c true)])
   (zdx (nth p.routes k) (nth s.locks k)) ⟨nth s.locks k,⟨rfl,hph k hk2,rfl⟩,rfl,rfl⟩ (by (refine no_implicit_lambda% (st ?_);try with_reducible exact wT)) (by rw[hid];(refine no_implicit_lambda% (st ?_);try with_reducible exact wT)) ?_
  rintro m φ σ ⟨l',⟨hm,hl',hset⟩,rfl,rfl⟩
  have cs:=step_pc hH (nth p.routes k) l' (ze1 s) (jc:=186) (caps:=[.ip 3 [State.c ⟨s.tracks,s.switches,U.set k l'⟩] 0 0]) rfl (hcl2 _) hr0 hr1 (zjR hr0 hl')
  have fa:zcl ((U.set k l').map Lock.c).flatten (k*4) (some 4)=some (.agg l'.c):=by
   rw[zig (c:=Lock.c) (l:=U.set k l') (k:=k) (by simpa using hkU) (by omega),zhe hkU]
  have fc:zby 4 s.locks.length ((U.set k l').map Lock.c).flatten=(U.set k l').map Lock.c:=by
   have:=zcE (c:=Lock.c) (U.set k l')
   rw[List.length_set,hlen]at this
   exact this
  obtain ⟨k1,k2⟩:=zdg (is:=ze1 s) hl' hr0 hrt1
  have k3:=zjy (is:=ze1 s) hl' hr0 hrt1
  by_cases hx:zcx (nth p.routes k) (ze1 s) l'=l'
  ·rw[hx]at cs
   have hfin:U.set k l'=zf4 (zf5 p s) (k+1) s.locks:=by rw[←e1,←hset,zgF hx]
   (have hX:=zA @fa (zA @fc @hlen);(repeat' first|refine zaa [0,1,2,3,4,5,6,7,8,9,10,15,22,23,24,25,43] fun K hK=>?_|(refine hK.go ?_;clear hK K)|with_reducible exact wT|refine wA ?_|(refine wB (fun h=>?_) (fun h=>?_)<;>first|exact wN h|subst (h:(_:Bool)=_)|skip)|(refine wR ?_;clear hQ hR hE hM)|refine wP cs ?_|fail);all_goals clear hX)
   all_goals first|(exfalso;contradiction)|exact ⟨k+1,by omega,by omega,by omega,by rw[hfin]⟩
  ·have k2:=k2 hx
   rw[hset]at k3
   generalize zcx (nth p.routes k) (ze1 s) l'=nx at *
   have hne:(decide (nx.id=l'.id)&&(decide (nx.phase=l'.phase)&&(decide (nx.gone=l'.gone)&&decide (nx.left=l'.left))))=false:=by
    rw[Bool.eq_false_iff]
    intro h
    simp only[Bool.and_eq_true,decide_eq_true_eq]at h
    exact hx ((zhM _ _).2 h)
   (have hX:=zA @fa (zA @fc (zA @hlen (zA @hne (zA (lk_sets0 hkU) (zA (lk_sets1 hkU) (zA (lk_sets2 hkU) (lk_sets3 hkU)))))));(repeat' first|refine zaa [0,1,2,3,4,5,6,7,8,9,10,15,22,23,24,25,43] fun K hK=>?_|(refine hK.go ?_;clear hK K)|with_reducible exact wT|refine wA ?_|(refine wB (fun h=>?_) (fun h=>?_)<;>first|exact wN h|subst (h:(_:Bool)=_)|skip)|(refine wR ?_;clear hQ hR hE hM)|refine wP cs ?_|fail);all_goals clear hX)
   all_goals first|(exfalso;contradiction)|skip
   refine ⟨_,_,_, ?_,⟨nx,⟨rfl,k1,k3⟩,rfl,rfl⟩, ?_, ?_⟩
   ·rw[←hm];exact k2
   ·(refine no_implicit_lambda% (st ?_);try with_reducible exact wT)
   ·(refine no_implicit_lambda% (st ?_);try with_reducible exact wT)
 ·rw[zgf _ (by omega)]
  (repeat' first|refine zaa [0,1,2,3,4,5,6,7,8,9,10,15,22,23,24,25,43] fun K hK=>?_|(refine hK.go ?_;clear hK K)|with_reducible exact wT|refine wA ?_|(refine wB (fun h=>?_) (fun h=>?_)<;>first|exact wN h|subst (h:(_:Bool)=_)|skip)|(refine wR ?_;clear hQ hR hE hM)|fail)
  all_goals (left;unfold zky zkz za1;dsimp only;rw[List.length_mapIdx];constructor)
  all_goals (refine no_implicit_lambda% (st ?_);try with_reducible exact wT)
theorem zgE (hH:HasAll P inv) (hI:HasIds P inv) (p:Pln) (hp:Sm p) (s:State) (hs:SmS s):PC P inv 179 [.agg p.c,.agg s.c] (·=.tup [.agg (zhN p s).c,.n (zae p s)]):=by
 unfold zhN
 by_cases he:zae p s=0
 ·have:=(znI hH hI p hp s hs he).pc
  rw[zdW]at this
  rw[if_pos he,he]
  exact this
 ·have c0:=zbH hH hI p hp s hs
  rw[if_neg he]
  generalize zae p s=e at c0 he ⊢
  refine PC.fn hH cd179 fun w0 M Q hM hE hQ hR=>?_;dsimp only[cd179,qm,ql,qf,qi,qb,qc,qp,qv,qN,qT,qF,qt]at hQ ⊢
  (repeat' first|refine zaa [0,1,2,3,4,5,6,7,8,9,10,15,22,23,24,25,43] fun K hK=>?_|(refine hK.go ?_;clear hK K)|with_reducible exact wT|refine wA ?_|(refine wB (fun h=>?_) (fun h=>?_)<;>first|exact wN h|subst (h:(_:Bool)=_)|skip)|(refine wQ ?_;clear hQ hR hE hM)|refine wC c0 ?_|fail)
  all_goals first|rfl|(exfalso;contradiction)|skip
end Go.Lev
namespace Go.Lev
open Go.Eng
section
variable {p:Pln} {s:State} {n m:Int} {i j:Nat} (h:MaySet p s n i)
include h
theorem MaySet.again:lkC p (zgi s n (zbk p i)) n=180:=by
 have hi':i<(zgi s n (zbk p i)).locks.length:=by rw[ziF h];exact h.lt
 have hl:=h.lock h.lt
 rw[if_pos rfl]at hl
 rw[zoh h.code hi' (by rw[hl]),hl,if_neg (show ¬(1:Int)=0 by decide)]
end
end Go.Lev
namespace Go.Lev
open Go.Eng
section
variable {p:Pln} {s t:State} (h:zae p s=0) (g:OnS p s t)
include h g
end
theorem stepL_on {r:Rte} {is:Int→Int} {l:Lock} (h:zaA l r=true):On l (zcx r is l):=by
 unfold zcx
 by_cases h1:l.phase=1∨l.phase=4
 ·rw[if_pos h1]
  have hg:l.gone=0:=by
   rcases h1 with e|e
   ·simp only[zaA,e]at h;simp at h;exact h.1
   ·simp only[zaA,e]at h;simp at h;exact h.1
  split
  ·exact .inr ⟨rfl,.inr ⟨by omega,by dsimp only;omega,by dsimp only;omega⟩⟩
  ·exact .inl rfl
 ·rw[if_neg h1]
  by_cases h2:l.phase=2
  ·rw[if_pos h2]
   simp only[zaA,h2]at h
   simp at h
   split
   ·exact .inr ⟨rfl,.inr ⟨by omega,by dsimp only;omega,by dsimp only;omega⟩⟩
   ·split
    ·exact .inr ⟨rfl,.inr ⟨by omega,by dsimp only;omega,by dsimp only;omega⟩⟩
    ·split
     ·exact .inr ⟨rfl,.inl rfl⟩
     ·exact .inl rfl
  ·rw[if_neg h2]
   by_cases h3:l.phase=3
   ·rw[if_pos h3]
    split
    ·exact .inr ⟨rfl,.inl rfl⟩
    ·exact .inl rfl
   ·rw[if_neg h3]
    exact .inl rfl
theorem zh3 {r:Rte} {is:Int→Int} (h0:0<r.path.length) (ht:1≤r.timer):∀ (m:Nat) (l:Lock),zaA l r=true→On l (zbg r is m l)∧zaA (zbg r is m l) r=true
 |0,l,h=>⟨.inl rfl,h⟩
 |m+1,l,h=>by
  rw[zbg]
  split
  ·exact ⟨.inl rfl,h⟩
  ·have h1:=(zdg (is:=is) h h0 ht).1
   have ih:=zh3 (is:=is) h0 ht m (zcx r is l) h1
   exact ⟨(stepL_on h).trans ih.1,ih.2⟩
theorem zkM {p:Pln} {s:State} (h:zae p s=0):OnS p s (za1 p s):=by
 have hpa:=(zad h).2.1
 have ho:=zao h
 have hpl:=zap hpa
 have key:∀ i,i<s.locks.length→nth (za1 p s).locks i=zbN (nth p.routes i) (ze1 s) (nth s.locks i):=fun i hi=>by
  show nth (s.locks.mapIdx (zf5 p s)) i=_
  rw[zaN (by simpa using hi),List.getElem_mapIdx,←zaN hi]
  rfl
 have both:∀ i,i<s.locks.length→On (nth s.locks i) (nth (za1 p s).locks i)∧zcp (nth (za1 p s).locks i) (nth p.routes i)=true:=fun i hi=>by
  have hr:nth p.routes i∈p.routes:=zaf (by omega)
  have h1:=zej hpa hi
  simp only[zcp,Bool.and_eq_true,decide_eq_true_eq]at h1
  have h2:=zh3 (is:=ze1 s) (by have:=(zcj ho hr).1;omega) (zit ho hr).1 (zdx (nth p.routes i) (nth s.locks i)) (nth s.locks i) h1.2
  rw[key i hi]
  unfold zbN
  refine ⟨h2.1, ?_⟩
  simp only[zcp,Bool.and_eq_true,decide_eq_true_eq]
  exact ⟨h2.1.id.trans h1.1,h2.2⟩
 exact ⟨rfl,rfl,by show (s.locks.mapIdx (zf5 p s)).length=_;simp,fun i hi=>(both i hi).1,fun i hi=>(both i hi).2⟩
end Go.Lev
namespace Go.Lev
open Go.Eng
theorem znB {r:Rte} {is:Int→Int} {l:Lock} (h:zaA l r=true) (h0:0<r.path.length):Giv r is l (zcx r is l):=by
 unfold zcx
 by_cases h1:l.phase=1∨l.phase=4
 ·rw[if_pos h1]
  split
  ·have hg:l.gone=0:=by
    rcases h1 with e|e
    ·simp only[zaA,e]at h;simp at h;exact h.1
    ·simp only[zaA,e]at h;simp at h;exact h.1
   refine ⟨fun e=>by dsimp only at e;omega,fun e=>by omega,fun _=>by dsimp only;omega,fun _ m hm hm'=>?_⟩
   dsimp only at hm'
   rw[hg]at hm
   exact absurd hm hm'
  ·exact .refl _ _ _
 ·rw[if_neg h1]
  by_cases h2:l.phase=2
  ·rw[if_pos h2]
   simp only[zaA,h2]at h
   simp at h
   split
   ·rename_i h3
    refine ⟨fun e=>by dsimp only at e;omega,fun e=>by omega,fun _=>by dsimp only;omega,fun _ m hm hm'=>?_⟩
    dsimp only at hm'
    rw[zah (show l.gone.toNat<r.path.length by omega)]at hm
    rw[show (l.gone+1).toNat=l.gone.toNat+1 by omega]at hm'
    rcases List.mem_cons.1 hm with rfl|hm
    ·exact h3.2.1
    ·exact absurd hm hm'
   ·split
    ·rename_i h3
     refine ⟨fun e=>by dsimp only at e;omega,fun e=>by omega,fun _=>by dsimp only;omega,fun _ m hm hm'=>?_⟩
     dsimp only at hm'
     rw[←h3.1]at hm'
     exact absurd hm hm'
    ·split
     ·exact ⟨fun e=>by dsimp only at e;omega,fun e=>by omega,fun e=>absurd rfl e,fun e=>absurd rfl e⟩
     ·exact .refl _ _ _
  ·rw[if_neg h2]
   by_cases h3:l.phase=3
   ·rw[if_pos h3]
    split
    ·exact ⟨fun e=>by dsimp only at e;omega,fun e=>by omega,fun e=>absurd rfl e,fun e=>absurd rfl e⟩
    ·exact .refl _ _ _
   ·rw[if_neg h3]
    exact .refl _ _ _
theorem zgG {r:Rte} {is:Int→Int} (h0:0<r.path.length) (ht:1≤r.timer):∀ (m:Nat) (l:Lock),zaA l r=true→Giv r is l (zbg r is m l)
 |0,l,_=>.refl _ _ _
 |m+1,l,h=>by
  rw[zbg]
  split
  ·exact .refl _ _ _
  ·exact (znB h h0).trans (zgG h0 ht m _ (zdg h h0 ht).1)
section
variable {p:Pln} {s:State} (h:zae p s=0) {i:Nat} (hi:i<s.locks.length)
include h hi
theorem zkN:nth (za1 p s).locks i=zbN (nth p.routes i) (ze1 s) (nth s.locks i):=by
 show nth (s.locks.mapIdx (zf5 p s)) i=_
 rw[zmQ _ hi]
 rfl
theorem ziC:nth p.routes i∈p.routes∧0<(nth p.routes i).path.length∧1≤(nth p.routes i).timer∧zaA (nth s.locks i) (nth p.routes i)=true:=by
 have hpa:=(zad h).2.1
 have hr:nth p.routes i∈p.routes:=zaf (by have:=zap hpa;omega)
 have h1:=zej hpa hi
 simp only[zcp,Bool.and_eq_true,decide_eq_true_eq]at h1
 exact ⟨hr,by have:=(zcj (zao h) hr).1;omega,(zit (zao h) hr).1,h1.2⟩
theorem ziD:Giv (nth p.routes i) (ze1 s) (nth s.locks i) (nth (za1 p s).locks i):=by
 obtain ⟨_,h2,h3,h4⟩:=ziC h hi
 rw[zkN h hi]
 exact zgG h2 h3 _ _ h4
end
theorem zdZ (p:Pln) (s:State):(za1 p s).locks.length=s.locks.length:=by simp[za1]
theorem setl_sm {p:Pln} {s:State} (hs:SmS s):SmS (za1 p s):=⟨hs.1,hs.2.1,by rw[zdZ];exact hs.2.2⟩
theorem zcz {p:Pln} {s:State} (h:zae p s=0):zae p (za1 p s)=0:=(zkM h).code h
theorem znJ {p:Pln} {s:State} (h:zae p s=0):za1 p (za1 p s)=za1 p s:=by
 have e:(za1 p (za1 p s)).locks=(za1 p s).locks:=by
  refine ext_nth (by rw[zdZ]) fun i hi=>?_
  rw[zdZ]at hi
  have hi':i<s.locks.length:=by rw[zdZ]at hi;exact hi
  obtain ⟨_,h2,h3,h4⟩:=ziC h hi'
  rw[zkN (zcz h) hi,zkN h hi']
  exact zgF (zmy h4 h2 h3).2.1
 unfold za1 at e ⊢
 dsimp only at e ⊢
 rw[e]
section
variable {p:Pln} {s:State} (h:zae p s=0) {n:Int}
include h
theorem zoD (hn:0≤n):nth (zaF p (za1 p s)).1 n.toNat=0∨nth (zaF p (za1 p s)).1 n.toNat=nth (zaF p s).1 n.toNat:=by
 rcases hold_who (zcz h) hn with ⟨i,hi,h1,h2⟩|⟨_,h2⟩
 ·right
  rw[zdZ]at hi
  have h3:=((zkM h).on i hi).held _ n h1
  rw[h2,((zkM h).on i hi).id]
  exact ((ze4 h hi hn).2 h3).symm
 ·exact .inl h2
theorem pgv_no (hn:0≤n) {is:Int} (his:zhg p n=true→is=ze1 s n) (hex:zhg p n=true) {i:Nat} (hi:i<s.locks.length):pgvB (nth s.locks i) (nth (za1 p s).locks i) (nth (zaF p s).1 n.toNat) (nth (zaF p (za1 p s)).1 n.toNat) is=false:=by
 have g:=ziD h hi
 have his:=his hex
 have hi2:i<(za1 p s).locks.length:=by rw[zdZ];exact hi
 unfold pgvB
 simp only[Bool.or_eq_false_iff,Bool.and_eq_false_iff,Bool.not_eq_false',decide_eq_true_eq,decide_eq_false_iff_not]
 refine ⟨?_, ?_, ?_, ?_, ?_⟩
 ·by_cases e:(nth (za1 p s).locks i).phase=1
  ·right;rw[←g.same (.inl e)];exact e
  ·exact .inl e
 ·by_cases e:(nth (za1 p s).locks i).phase=4
  ·right;exact (g.same (.inr e)).symm
  ·exact .inl e
 ·by_cases e:(nth s.locks i).phase=0
  ·right;exact (g.rest e).symm
  ·exact .inl e
 ·by_cases e:(nth (za1 p s).locks i).phase=0
  ·exact .inr e
  ·left;have:=g.gone e;omega
 ·by_cases e1:(nth s.locks i).id=nth (zaF p s).1 n.toNat
  ·by_cases e2:nth (zaF p (za1 p s)).1 n.toNat=0
   ·by_cases e3:(nth (za1 p s).locks i).phase=0
    ·simp[e3]
    ·by_cases e4:is=0
     ·simp[e4]
     ·exfalso
      have h1:=(ze4 h hi hn).1 e1.symm
      have h2:n∉zjm p (za1 p s) i:=fun h3=>by
       have:=(ze4 (zcz h) hi2 hn).2 h3
       rw[e2]at this
       have:=zi0 (zcz h) hi2
       omega
      have hw:=zbG ((za0 (zad h).1).2.1 _ (ziC h hi).1)
      have e0:¬(nth s.locks i).phase=0:=fun e=>e3 (by rw[g.rest e];exact e)
      unfold zjm zbm at h1 h2
      rw[if_neg e0]at h1
      rw[if_neg e3]at h2
      rw[List.mem_append]at h1 h2
      rcases h1 with h1|h1
      ·rw[hw.1]at h1
       have:=g.free e3 n h1 (fun h3=>h2 (.inl (by rw[hw.1];exact h3)))
       exact e4 (his.trans this)
      ·exact h2 (.inr h1)
   ·simp[e2]
  ·simp[e1]
theorem pgv_no0 {is:Int} {i:Nat} (hi:i<s.locks.length):pgvB (nth s.locks i) (nth (za1 p s).locks i) 0 0 is=false:=by
 have g:=ziD h hi
 unfold pgvB
 simp only[Bool.or_eq_false_iff,Bool.and_eq_false_iff,Bool.not_eq_false',decide_eq_true_eq,decide_eq_false_iff_not]
 refine ⟨?_, ?_, ?_, ?_,by simp⟩
 ·by_cases e:(nth (za1 p s).locks i).phase=1
  ·right;rw[←g.same (.inl e)];exact e
  ·exact .inl e
 ·by_cases e:(nth (za1 p s).locks i).phase=4
  ·right;exact (g.same (.inr e)).symm
  ·exact .inl e
 ·by_cases e:(nth s.locks i).phase=0
  ·right;exact (g.rest e).symm
  ·exact .inl e
 ·by_cases e:(nth (za1 p s).locks i).phase=0
  ·exact .inr e
  ·left;have:=g.gone e;omega
end
end Go.Lev
namespace Go.Lev
open Go.Eng
theorem isN_eq {p:Pln} {s:State} (h:zae p s=0) {n:Int} (hn:zhg p n=true):isN s.tracks n s.tracks.length=ze1 s n:=by
 have hpa:=(zad h).2.1
 have hnd:(s.tracks.map Track.id).Nodup:=by rw[zgv hpa];exact zeO (zao h)
 obtain ⟨x,hx,e⟩:=List.any_eq_true.1 hn
 obtain ⟨t,ht,et⟩:=trk_of hpa ⟨x,hx,by simpa using e⟩
 obtain ⟨m,hm,rfl⟩:=zfC ht
 have key:∀ k,m<k→k≤s.tracks.length→isN s.tracks n k=(nth s.tracks m).is:=by
  intro k
  induction k with
  |zero=>intro h1 _;omega
  |succ k ih =>
   intro h1 h2
   rw[isN]
   by_cases e1:(nth s.tracks k).id=n
   ·rw[if_pos e1]
    have:k=m:=zk2 Track.id hnd (by omega) hm (e1.trans et.symm)
    rw[this]
   ·rw[if_neg e1]
    refine ih ?_ (by omega)
    rcases Nat.lt_or_ge m k with h3|h3
    ·exact h3
    ·exfalso
     obtain rfl:m=k:=by omega
     exact e1 et
 rw[key _ hm (Nat.le_refl _),←et,zop (zao h) hpa hm]
end Go.Lev
namespace Go.Lev
open Go.Eng
set_option maxRecDepth 10000
set_option maxHeartbeats 4000000
variable {P:Program} {inv:Nat→Option Nat} {w0:World} {M:Nat→Prop}
theorem zmD {p:Pln} {s:State} {n v:Int} (h:zae p s=0):zcB p s n v=0↔zk8 s n∧(v=0∨v=1):=by
 unfold zcB
 rw[if_pos h]
 by_cases h1:zk8 s n
 ·rw[if_pos h1]
  by_cases h2:v=0∨v=1
  ·rw[if_pos h2];simp[h1,h2]
  ·rw[if_neg h2];simp[h2]
 ·rw[if_neg h1];simp[h1]
end Go.Lev
namespace Go.Lev
open Go.Eng
set_option maxRecDepth 10000
set_option maxHeartbeats 4000000
variable {P:Program} {inv:Nat→Option Nat} {w0:World} {M:Nat→Prop}
theorem sSame_sm (hH:HasAll P inv) {a b:State} (h:SmS a):PC P inv 11 [.agg a.c,.agg b.c] (·=.b (decide (a=b))):=sSame_pc hH a b (by have:=h.1;omega) (by have:=h.2.1;omega) (by have:=h.2.2;omega)
theorem sSame_eq (hH:HasAll P inv) {a b:State} (h:SmS a) (e:a=b):PC P inv 11 [.agg a.c,.agg b.c] (·=.b true):=by
 have:=sSame_sm hH (b:=b) h
 rw[decide_eq_true e]at this
 exact this
end Go.Lev
namespace Go.Lev
open Go.Eng
set_option maxRecDepth 10000
set_option maxHeartbeats 4000000
variable {P:Program} {inv:Nat→Option Nat} {w0:World} {M:Nat→Prop}
theorem zg2 (hH:HasAll P inv):PC P inv 166 [] (·=.agg zcf.c):=by
 have h:PC P inv 166 [] (·=.agg [.n 1,.n 0,.sl 3 (zcf.sections.map Section.c),.sl 2 (zcf.points.map Pnt.c),.sl 3 (zcf.signals.map Sgn.c),.sl 7 [[.n 1,.n 1,.n 0,.sl 1 [[.n 2],[.n 3]],.s0 1,.s0 2,.n 3],[.n 2,.n 1,.n 0,.sl 1 [[.n 2],[.n 4]],.s0 1,.s0 2,.n 4]]]):=by
  refine PC.fn hH cd166 fun w0 M Q hM hE hQ hR=>?_;dsimp only[cd166,qm,ql,qf,qi,qb,qc,qp,qv,qN,qT,qF,qt]at hQ ⊢
  (repeat' first|refine zaa [0] fun K hK=>?_|(refine hK.go ?_;clear hK K)|with_reducible exact wT|refine wA ?_|(refine wB (fun h=>?_) (fun h=>?_)<;>first|exact wN h|subst (h:(_:Bool)=_)|skip)|(refine wQ ?_;clear hQ hR hE hM)|fail)
  rfl
 exact h.nzr
theorem zmI (hH:HasAll P inv) (hI:HasIds P inv):PC P inv 165 [] (·=.tup [.agg stQ.c,.b true]):=by
 suffices h:PO P inv 165 [] (.tup [zky 3 stQ,.b true]) (zkz 3 stQ) by
  have:=h.pc
  rw[zh1]at this
  exact this
 have c0:=zg2 hH
 have c1:=sAt_po hH hI zcf smC okC
 rw[atC]at c1
 unfold stV stR at c1
 have e1:stN.tracks.length=4:=rfl
 have e2:stN.switches.length=1:=rfl
 have e3:stN.locks.length=2:=rfl
 have q1:stN.tracks.mapIdx zhS=stQ.tracks:=rfl
 have q2:stN.switches=stQ.switches:=rfl
 have q3:stN.locks=stQ.locks:=rfl
 have r1:stQ.tracks.length=4:=rfl
 have r2:stQ.switches.length=1:=rfl
 have r3:stQ.locks.length=2:=rfl
 generalize stN=S at *
 generalize stQ=T at *
 rw[e1,e2,e3]at c1
 refine PO.fn hH cd165 fun w0 M Q hM hE hQ hR=>?_;dsimp only[cd165,qm,ql,qf,qi,qb,qc,qp,qv,qN,qT,qF,qt]at hQ ⊢
 (have hX:=zA @e1 (zA @e2 @e3);(repeat' first|refine zaa [0,1,2,3,4,14] fun K hK=>?_|(refine hK.go ?_;clear hK K)|with_reducible exact wT|refine wA ?_|(refine wB (fun h=>?_) (fun h=>?_)<;>first|exact wN h|subst (h:(_:Bool)=_)|skip)|(refine wR ?_;clear hQ hR hE hM)|refine wC c0 ?_|refine wO c1 ?_|fail);all_goals clear hX)
 refine zat (ι:=Nat) [0,1,2,3,4] (fun z=>[(4,.n z)]) (fun z=>[(3,.cells ((zf4 zhS z S.tracks).map Track.c).flatten true)]) (fun z=>z) (4) (fun _=>True) (0) ?_;rintro k ⟨hk,-⟩;(try dsimp only at hk ⊢);rcases Nat.lt_or_ge k 4 with hlt|hge
 ·have hk:k<S.tracks.length:=by omega
  have d1:=zge zhS hk
  have d2:=zb7 (c:=Track.c) (l:=zf4 zhS k S.tracks) (k:=k) (i:=1) (by rw[zcL];exact hk) (by omega) (.i .u8 0) (zhS k (nth S.tracks k)) (by rw[zdV _ hk];rfl)
  rw[d1]at d2
  (have hX:=@d2;(repeat' first|refine zaa [0,1,2,3,4,14] fun K hK=>?_|(refine hK.go ?_;clear hK K)|with_reducible exact wT|refine wA ?_|(refine wB (fun h=>?_) (fun h=>?_)<;>first|exact wN h|subst (h:(_:Bool)=_)|skip)|(refine wR ?_;clear hQ hR hE hM)|fail);all_goals clear hX)
  exact ⟨k+1,by omega,by omega,by omega,rfl⟩
 ·rw[zgf _ (by omega),q1]
  (repeat' first|refine zaa [0,1,2,3,4,14] fun K hK=>?_|(refine hK.go ?_;clear hK K)|with_reducible exact wT|refine wA ?_|(refine wB (fun h=>?_) (fun h=>?_)<;>first|exact wN h|subst (h:(_:Bool)=_)|skip)|(refine wR ?_;clear hQ hR hE hM)|fail)
  all_goals first|(exfalso;omega)|skip
  left
  unfold zky zkz
  rw[r1,r2,r3,←q2,←q3]
  constructor
  ·(try (refine no_implicit_lambda% (st ?_);try with_reducible exact wT))
   first|rfl|(simp;done)|trace_state
  ·(try (refine no_implicit_lambda% (st ?_);try with_reducible exact wT))
   first|rfl|(simp;done)|trace_state
theorem smQ3:SmS stQ3:=⟨by decide,by decide,by decide⟩
theorem sec13:zcB zcf zkA 2 1=0∧secR zcf zkA 2 1=stQ3:=by
 have h:zcB zcf zkA 2 1=0:=(zmD (by decide +kernel)).2 ⟨⟨⟨2,0⟩,by decide,rfl⟩,by decide⟩
 exact ⟨h,by unfold secR;rw[if_pos h];rfl⟩
theorem znv (hH:HasAll P inv) (hI:HasIds P inv):PC P inv 167 [.agg zkA.c,.n 2,.n 1] (·=.tup [.agg stQ4.c,.b true]):=by
 have c0:=zg2 hH
 have c1:=sec_pc hH hI zcf smC zkA smQ1 2 1
 have c2:=zgE hH hI zcf smC stQ3 smQ3
 rw[sec13.1,sec13.2]at c1
 rw[show zhN zcf stQ3=stQ4 by decide +kernel,show zae zcf stQ3=0 by decide +kernel]at c2
 unfold zkA at c1 ⊢
 unfold stQ3 at c1 c2
 unfold stQ4 at c2 ⊢
 refine PC.fn hH cd167 fun w0 M Q hM hE hQ hR=>?_;dsimp only[cd167,qm,ql,qf,qi,qb,qc,qp,qv,qN,qT,qF,qt]at hQ ⊢
 (repeat' first|refine zaa [0,1,2,3,6,7,8,9,15,21] fun K hK=>?_|(refine hK.go ?_;clear hK K)|with_reducible exact wT|refine wA ?_|(refine wB (fun h=>?_) (fun h=>?_)<;>first|exact wN h|subst (h:(_:Bool)=_)|skip)|(refine wQ ?_;clear hQ hR hE hM)|refine wU c0 ?_|refine wU c1 ?_|refine wU c2 ?_|refine wC c0 ?_|refine wC c1 ?_|refine wC c2 ?_|fail)
 all_goals first|rfl|(exfalso;contradiction)|trace_state
theorem zne (hH:HasAll P inv) (hI:HasIds P inv):PC P inv 164 [] (·=.b true):=by
 have c0:=zg2 hH
 have c1:=zmI hH hI
 have c2:=zia hH hI zcf smC stQ smQ 1
 have c3:=znv hH hI
 rw[setQ1,setQ2]at c2
 unfold stQ at c1 c2
 unfold zkA at c2 c3
 unfold stQ4 at c3
 refine PC.fn hH cd164 fun w0 M Q hM hE hQ hR=>?_;dsimp only[cd164,qm,ql,qf,qi,qb,qc,qp,qv,qN,qT,qF,qt]at hQ ⊢
 (repeat' first|refine zaa [0,1,2,3,4,12] fun K hK=>?_|(refine hK.go ?_;clear hK K)|with_reducible exact wT|refine wA ?_|(refine wB (fun h=>?_) (fun h=>?_)<;>first|exact wN h|subst (h:(_:Bool)=_)|skip)|(refine wQ ?_;clear hQ hR hE hM)|refine wC c1 ?_|refine wU c0 ?_|refine wU c2 ?_|refine wU c3 ?_|refine wC c0 ?_|refine wC c2 ?_|refine wC c3 ?_|fail)
 all_goals first|rfl|(exfalso;contradiction)|trace_state
end Go.Lev
namespace Go.Lev
open Go.Eng
set_option maxRecDepth 10000
set_option maxHeartbeats 16000000
variable {P:Program} {inv:Nat→Option Nat} {w0:World} {M:Nat→Prop}
theorem zmY {p:Pln} {s:State} (h:zae p s=0) (n:Int):∃ was now e,zey p s n=(was,e)∧zey p (za1 p s) n=(now,e)∧(now=0∨now=was)∧∀ i,i<s.locks.length→pgvB (nth s.locks i) (nth (za1 p s).locks i) was now (isN s.tracks n s.tracks.length)=false:=by
 unfold zey
 rw[if_pos h,if_pos (zcz h)]
 by_cases hs:zhg p n=true
 ·rw[if_pos hs,if_pos hs]
  obtain ⟨x,hx,e⟩:=List.any_eq_true.1 hs
  have e:x.id=n:=by simpa using e
  have hr:=zcA (zao h) hx
  exact ⟨_,_,0,rfl,rfl,zoD h (by omega),fun i hi=>pgv_no h (by omega) (fun _=>isN_eq h hs) hs hi⟩
 ·rw[if_neg hs,if_neg hs]
  exact ⟨0,0,6,rfl,rfl,.inl rfl,fun i hi=>pgv_no0 h hi⟩
theorem passGives_pc (hH:HasAll P inv) (hI:HasIds P inv) (p:Pln) (hp:Pln.ok p) (s:State) (n:Int):PC P inv 361 [.agg p.c,.agg s.c,.n n] (·=.b true):=by
 have c0:=zne hH hI
 have c1:=zfZ hH p
 have c2:=zjw hH s
 cases g1:zie p with
 |true =>
  rw[g1]at c1
  refine PC.fn hH cd361 fun w0 M Q hM hE hQ hR=>?_;dsimp only[cd361,qm,ql,qf,qi,qb,qc,qp,qv,qN,qT,qF,qt]at hQ ⊢
  (repeat' first|refine zaa [0,1,2,3,4,6,7,8,9,10,11,12,13,14,15,16,17,18,19,20,21,32,41,96,101,114,122,133,146,172,177,229,250] fun K hK=>?_|(refine hK.go ?_;clear hK K)|with_reducible exact wT|refine wA ?_|(refine wB (fun h=>?_) (fun h=>?_)<;>first|exact wN h|subst (h:(_:Bool)=_)|skip)|(refine wQ ?_;clear hQ hR hE hM)|refine wC c0 ?_|refine wC c1 ?_|fail)
 |false =>
  rw[g1]at c1
  cases g2:zi3 s with
  |true =>
   rw[g2]at c2
   refine PC.fn hH cd361 fun w0 M Q hM hE hQ hR=>?_;dsimp only[cd361,qm,ql,qf,qi,qb,qc,qp,qv,qN,qT,qF,qt]at hQ ⊢
   (repeat' first|refine zaa [0,1,2,3,4,6,7,8,9,10,11,12,13,14,15,16,17,18,19,20,21,32,41,96,101,114,122,133,146,172,177,229,250] fun K hK=>?_|(refine hK.go ?_;clear hK K)|with_reducible exact wT|refine wA ?_|(refine wB (fun h=>?_) (fun h=>?_)<;>first|exact wN h|subst (h:(_:Bool)=_)|skip)|(refine wQ ?_;clear hQ hR hE hM)|refine wC c0 ?_|refine wC c1 ?_|refine wC c2 ?_|fail)
  |false =>
   rw[g2]at c2
   have sp:=sm_of hp g1
   have ss:=smS_of g2
   have c3:=zgE hH hI p sp s ss
   have c4:=zbH hH hI p sp s ss
   by_cases hst:zae p s=0
   ·rw[hst,show zhN p s=za1 p s by unfold zhN;rw[if_pos hst]]at c3
    have hl1:=ss.1
    have hl2:=ss.2.1
    have hl3:=ss.2.2
    have sT:=setl_sm (p:=p) ss
    have c5:=zgE hH hI p sp _ sT
    rw[zcz hst,show zhN p (za1 p s)=za1 p s by unfold zhN;rw[if_pos (zcz hst),znJ hst]]at c5
    have c6:=sSame_eq hH sT (rfl:za1 p s=za1 p s)
    have c7:=zhj hH hI p sp s ss n
    have c8:=zhj hH hI p sp _ sT n
    obtain ⟨was,now,e,e1,e2,hwn,hB⟩:=zmY hst n
    rw[e1]at c7
    rw[e2]at c8
    dsimp only at c7 c8
    obtain ⟨LT,hLT⟩:∃ LT,s.locks.mapIdx (zf5 p s)=LT:=⟨_,rfl⟩
    have hTe:za1 p s=⟨s.tracks,s.switches,LT⟩:=by unfold za1;rw[hLT]
    have hLl:LT.length=s.locks.length:=by rw[←hLT];simp
    have hgs:∀ i,i<s.locks.length→((nth (za1 p s).locks i).phase=1→nth s.locks i=nth (za1 p s).locks i)∧True:=fun i hi=>⟨fun h=>((ziD hst hi).same (.inl h)).symm,trivial⟩
    rw[hTe]at c3 c5 c6 c8 hB hgs
    dsimp only at hB hgs
    clear hst sT e1 e2 hLT hTe
    refine PC.fn hH cd361 fun w0 M Q hM hE hQ hR=>?_;dsimp only[cd361,qm,ql,qf,qi,qb,qc,qp,qv,qN,qT,qF,qt]at hQ ⊢
    (repeat' first|refine zaa [0,1,2,3,4,6,7,8,9,10,11,12,13,14,15,16,17,18,19,20,21,32,41,96,101,114,122,133,146,172,177,229,250] fun K hK=>?_|(refine hK.go ?_;clear hK K)|with_reducible exact wT|refine wA ?_|(refine wB (fun h=>?_) (fun h=>?_)<;>first|exact wN h|subst (h:(_:Bool)=_)|skip)|(refine wQ ?_;clear hQ hR hE hM)|refine wC c0 ?_|refine wC c1 ?_|refine wC c2 ?_|refine wC c3 ?_|refine wC c5 ?_|refine wC c6 ?_|fail)
    all_goals first|(exfalso;contradiction)|skip
    refine zat (ι:=Nat) [2,3,4,6,7,8,12,13] (fun z=>[(12,.i .u8 (isN s.tracks n z)),(13,.n z)]) (fun _=>[]) (fun z=>z) (s.tracks.length) (fun _=>True) (0) ?_;rintro k ⟨hk,-⟩;(try dsimp only at hk ⊢);rcases Nat.lt_or_ge k s.tracks.length with hlt|hge
    ·by_cases h1:(nth s.tracks k).id=n
     ·have h2:decide ((nth s.tracks k).id=n)=true:=decide_eq_true h1
      have h3:isN s.tracks n (k+1)=(nth s.tracks k).is:=by rw[isN,if_pos h1]
      (have hX:=@h2;(repeat' first|refine zaa [0,1,2,3,4,6,7,8,9,10,11,12,13,14,15,16,17,18,19,20,21,32,41,96,101,114,122,133,146,172,177,229,250] fun K hK=>?_|(refine hK.go ?_;clear hK K)|with_reducible exact wT|refine wA ?_|(refine wB (fun h=>?_) (fun h=>?_)<;>first|exact wN h|subst (h:(_:Bool)=_)|skip)|(refine wQ ?_;clear hQ hR hE hM)|fail);all_goals clear hX)
      all_goals first|(exfalso;contradiction)|exact ⟨k+1,by omega,by omega,h3.symm,by omega⟩|exact ⟨k+1,by omega,by omega,h3,by omega⟩|trace_state
     ·have h2:decide ((nth s.tracks k).id=n)=false:=decide_eq_false h1
      have h3:isN s.tracks n (k+1)=isN s.tracks n k:=by rw[isN,if_neg h1]
      (have hX:=@h2;(repeat' first|refine zaa [0,1,2,3,4,6,7,8,9,10,11,12,13,14,15,16,17,18,19,20,21,32,41,96,101,114,122,133,146,172,177,229,250] fun K hK=>?_|(refine hK.go ?_;clear hK K)|with_reducible exact wT|refine wA ?_|(refine wB (fun h=>?_) (fun h=>?_)<;>first|exact wN h|subst (h:(_:Bool)=_)|skip)|(refine wQ ?_;clear hQ hR hE hM)|fail);all_goals clear hX)
      all_goals first|(exfalso;contradiction)|exact ⟨k+1,by omega,by omega,h3.symm,by omega⟩|exact ⟨k+1,by omega,by omega,h3,by omega⟩|trace_state
    ·rw[Nat.le_antisymm hk hge]at *
     (repeat' first|refine zaa [0,1,2,3,4,6,7,8,9,10,11,12,13,14,15,16,17,18,19,20,21,32,41,96,101,114,122,133,146,172,177,229,250] fun K hK=>?_|(refine hK.go ?_;clear hK K)|with_reducible exact wT|refine wA ?_|(refine wB (fun h=>?_) (fun h=>?_)<;>first|exact wN h|subst (h:(_:Bool)=_)|skip)|(refine wQ ?_;clear hQ hR hE hM)|fail)
     refine zat (ι:=Nat) [2,3,4,6,7,8,12,14] (fun z=>[(14,.n z)]) (fun _=>[]) (fun z=>z) (s.switches.length) (fun _=>True) (0) ?_;rintro k ⟨hk,-⟩;(try dsimp only at hk ⊢);rcases Nat.lt_or_ge k s.switches.length with hlt|hge
     ·(repeat' first|refine zaa [0,1,2,3,4,6,7,8,9,10,11,12,13,14,15,16,17,18,19,20,21,32,41,96,101,114,122,133,146,172,177,229,250] fun K hK=>?_|(refine hK.go ?_;clear hK K)|with_reducible exact wT|refine wA ?_|(refine wB (fun h=>?_) (fun h=>?_)<;>first|exact wN h|subst (h:(_:Bool)=_)|skip)|(refine wQ ?_;clear hQ hR hE hM)|fail)
      all_goals first|(exfalso;contradiction)|exact ⟨k+1,by omega,by omega,by omega⟩|trace_state
     ·(repeat' first|refine zaa [0,1,2,3,4,6,7,8,9,10,11,12,13,14,15,16,17,18,19,20,21,32,41,96,101,114,122,133,146,172,177,229,250] fun K hK=>?_|(refine hK.go ?_;clear hK K)|with_reducible exact wT|refine wA ?_|(refine wB (fun h=>?_) (fun h=>?_)<;>first|exact wN h|subst (h:(_:Bool)=_)|skip)|(refine wQ ?_;clear hQ hR hE hM)|refine wC c7 ?_|refine wC c8 ?_|fail)
      all_goals first|(exfalso;contradiction)|(exfalso;omega)|skip
      all_goals
       refine zat (ι:=Nat) [4,6,7,8,12,15,17,19] (fun z=>[(19,.n z)]) (fun _=>[]) (fun z=>z) (s.locks.length) (fun _=>True) (0) ?_;rintro k ⟨hk,-⟩;(try dsimp only at hk ⊢);rcases Nat.lt_or_ge k s.locks.length with hlt|hge
       ·have hF:=hB k (by assumption)
        have hk9:k<s.locks.length:=by assumption
        have hkl:k<LT.length:=by omega
        unfold pgvB at hF
        simp only[Bool.or_eq_false_iff,Bool.and_eq_false_iff,Bool.not_eq_false',decide_eq_true_eq,decide_eq_false_iff_not]at hF
        obtain ⟨q1,q2,q3,q4,q5⟩:=hF
        refine zaa [0,1,2,3,4,6,7,8,9,10,11,12,13,14,15,16,17,18,19,20,21,32,41,96,101,114,122,133,146,172,177,229,250] fun K1 hK1=>zaa [0,1,2,3,4,6,7,8,9,10,11,12,13,14,15,16,17,18,19,20,21,32,41,96,101,114,122,133,146,172,177,229,250] fun K2 hK2=>AWp.reg hE hM ?_;(try (refine no_implicit_lambda% (st ?_);try with_reducible exact wT));refine hK2.go ?_;clear hK2 K2;refine cnd2 rfl (fun h=>?_) (fun h=>?_)<;>first|(exfalso;omega)|skip;refine AWp.skip ?_;(try (refine no_implicit_lambda% (st ?_);try with_reducible exact wT));refine hK1.go ?_;clear hK1 K1
        refine zaa [0,1,2,3,4,6,7,8,9,10,11,12,13,14,15,16,17,18,19,20,21,32,41,96,101,114,122,133,146,172,177,229,250] fun K hK=>AWp.block ?_
        refine zaa [0,1,2,3,4,6,7,8,9,10,11,12,13,14,15,16,17,18,19,20,21,32,41,96,101,114,122,133,146,172,177,229,250] fun K hK=>?_
        refine AWp.regd hE hM ?_
        (refine no_implicit_lambda% (st ?_);try with_reducible exact wT)
        refine hK.go ?_
        clear hK K
        refine zmo [0,1,2,3,4,6,7,8,9,10,11,12,13,14,15,16,17,18,19,20,21,32,41,96,101,114,122,133,146,172,177,229,250] [(229,.b false)] (True) ?_ fun hmid=>?_
        ·by_cases hab:nth s.locks k=nth LT k
         ·have k1:=congrArg Lock.id hab.symm
          have k2:=congrArg Lock.phase hab.symm
          have k3:=congrArg Lock.gone hab.symm
          have k4:=congrArg Lock.left hab.symm
          clear hab q2 q3 q5
          (have hX:=zA @k1 (zA @k2 (zA @k3 @k4));(repeat' first|refine zaa [0,1,2,3,4,6,7,8,9,10,11,12,13,14,15,16,17,18,19,20,21,32,41,96,101,114,122,133,146,172,177,229,250] fun K hK=>?_|(refine hK.go ?_;clear hK K)|with_reducible exact wT|refine wA ?_|(refine wB (fun h=>?_) (fun h=>?_)<;>first|exact wN h|subst (h:(_:Bool)=_)|skip)|(refine wQ ?_;clear hQ hR hE hM)|fail);all_goals clear hX)
          all_goals first|(exfalso;contradiction)|(exfalso;omega)|trace_state
         ·have n2:=q2.resolve_right hab
          have n3:=q3.resolve_right hab
          have n1:¬(nth LT k).phase=1:=fun h=>by
           rcases q1 with h1|h1
           ·exact h1 h
           ·exact hab ((hgs k (by assumption)).1 h)
          clear hab q1 q2 q3 q5
          (repeat' first|refine zaa [0,1,2,3,4,6,7,8,9,10,11,12,13,14,15,16,17,18,19,20,21,32,41,96,101,114,122,133,146,172,177,229,250] fun K hK=>?_|(refine hK.go ?_;clear hK K)|with_reducible exact wT|refine wA ?_|(refine wB (fun h=>?_) (fun h=>?_)<;>first|exact wN h|subst (h:(_:Bool)=_)|skip)|(refine wQ ?_;clear hQ hR hE hM)|fail)
          all_goals first|(exfalso;contradiction)|(exfalso;omega)|(simp only[Bool.not_eq_false',decide_eq_true_eq];assumption)|trace_state
        ·clear q1 q2 q3 q4
         (repeat' first|refine zaa [0,1,2,3,4,6,7,8,9,10,11,12,13,14,15,16,17,18,19,20,21,32,41,96,101,114,122,133,146,172,177,229,250] fun K hK=>?_|(refine hK.go ?_;clear hK K)|with_reducible exact wT|refine wA ?_|(refine wB (fun h=>?_) (fun h=>?_)<;>first|exact wN h|subst (h:(_:Bool)=_)|skip)|(refine wQ ?_;clear hQ hR hE hM)|fail)
         all_goals first|(exfalso;contradiction)|(exfalso;omega)|exact ⟨k+1,by omega,by omega,by omega⟩|trace_state
       ·(repeat' first|refine zaa [0,1,2,3,4,6,7,8,9,10,11,12,13,14,15,16,17,18,19,20,21,32,41,96,101,114,122,133,146,172,177,229,250] fun K hK=>?_|(refine hK.go ?_;clear hK K)|with_reducible exact wT|refine wA ?_|(refine wB (fun h=>?_) (fun h=>?_)<;>first|exact wN h|subst (h:(_:Bool)=_)|skip)|(refine wQ ?_;clear hQ hR hE hM)|fail)
        all_goals first|rfl|(exfalso;contradiction)|trace_state
   ·rw[show zhN p s=State.z by unfold zhN;rw[if_neg hst]]at c3
    unfold State.z at c3
    generalize zae p s=e at *
    refine PC.fn hH cd361 fun w0 M Q hM hE hQ hR=>?_;dsimp only[cd361,qm,ql,qf,qi,qb,qc,qp,qv,qN,qT,qF,qt]at hQ ⊢
    (repeat' first|refine zaa [0,1,2,3,4,6,7,8,9,10,11,12,13,14,15,16,17,18,19,20,21,32,41,96,101,114,122,133,146,172,177,229,250] fun K hK=>?_|(refine hK.go ?_;clear hK K)|with_reducible exact wT|refine wA ?_|(refine wB (fun h=>?_) (fun h=>?_)<;>first|exact wN h|subst (h:(_:Bool)=_)|skip)|(refine wQ ?_;clear hQ hR hE hM)|refine wC c0 ?_|refine wC c1 ?_|refine wC c2 ?_|refine wC c3 ?_|refine wC c4 ?_|fail)
    all_goals first|rfl|(exfalso;contradiction)|trace_state
end Go.Lev
