/-
  A part of the engine that walks the functions' codes, and of the functions' contracts. Conditions: those that each theorem names.
-/
import Derived.Test.YtnjpcpdmnadadaaGreatL8
import Derived.IntWalk
import Derived.Laws.IdiomCopy
set_option linter.unusedSimpArgs false
set_option linter.unusedVariables false
set_option linter.unusedSectionVars false
namespace Go.Lev
open Go.Eng
theorem zd8 (C:List (Int×Int)) (k v k':Int):zeM (zks C k v) k'=if k'=k then v else zeM C k':=by
 induction C with
 |nil=>simp[zks,zeM]
 |cons q r ih =>
  rw[zks]
  split
  ·rename_i h;subst h;simp only[zeM];split<;>rfl
  ·rename_i h
   simp only[zeM,ih]
   by_cases h1:k'=q.1
   ·rw[if_pos h1,if_pos h1,if_neg (by omega)]
   ·rw[if_neg h1,if_neg h1]
theorem ziz:∀ (l:List Switch) (C:List (Int×Int)) (k:Int),(∀ x∈l,x.id≠k)→zeM (zfU C l) k=zeM C k
 |[],_,_,_=>rfl
 |x::r,C,k,h=>by
  rw[zfU,ziz r _ k fun y hy=>h y (by simp[hy]),zd8,if_neg (fun e=>h x (by simp) e.symm)]
theorem zpC:∀ (l:List Switch) (C:List (Int×Int)),(l.map Switch.id).Nodup→∀ x∈l,zeM (zfU C l) x.id=x.call
 |[],_,_,x,h=>by cases h
 |y::r,C,hn,x,hx=>by
  simp only[List.map_cons,List.nodup_cons]at hn
  rw[zfU]
  rcases List.mem_cons.1 hx with rfl|hx
  ·rw[ziz r _ _ fun z hz e=>hn.1 (by rw[←e];exact List.mem_map_of_mem hz),zd8,if_pos rfl]
  ·exact zpC r _ hn.2 x hx
def zee (s:State) (n:Int):Int:=zeM (zfU [] s.switches) n
def zof (p:Pln) (s:State):List WL:=(za8 p).zip s.locks
theorem zeh {α β:Type} {q:α→β→Bool} {f:α→Int} {g:β→Int} (hq:∀ x y,q x y=true→f x=g y):∀ {a:List α} {b:List β},zaA q a b=true→a.map f=b.map g
 |[],[],_=>rfl
 |[],_::_,h=>by simp[zaA]at h
 |_::_,[],h=>by simp[zaA]at h
 |x::xs,y::ys,h=>by
  simp only[zaA,Bool.and_eq_true]at h
  simp only[List.map_cons,zeh hq h.2,hq x y h.1]
theorem zoB {p:Pln} {s:State} (h:zao p s=true):s.tracks.map Track.id=p.sections.map Section.id:=by
 simp only[zao,Bool.and_eq_true]at h
 exact zeh (fun x y h=>by simp only[ziY,Bool.and_eq_true,decide_eq_true_eq]at h;exact h.1) h.1
theorem zg1 {p:Pln} {s:State} (h:zao p s=true):s.switches.map Switch.id=p.points.map Pnt.id:=by
 simp only[zao,Bool.and_eq_true]at h
 exact zeh (fun x y h=>by simp only[zjX,Bool.and_eq_true,decide_eq_true_eq]at h;exact h.1) h.2.1
theorem lck_ids {p:Pln} {s:State} (h:zao p s=true):s.locks.map Lock.id=p.routes.map Rte.id:=by
 simp only[zao,Bool.and_eq_true]at h
 exact zeh (fun x y h=>by simp only[zeZ,Bool.and_eq_true,decide_eq_true_eq]at h;exact h.1) h.2.2
theorem zkk {p:Pln} (h:OkP p):(p.points.map Pnt.id).Nodup:=by
 have hp:=h.pts
 simp only[points,Bool.and_eq_true]at hp
 exact zja hp.1
theorem zfn {p:Pln} (h:OkP p):(p.routes.map Rte.id).Nodup:=zja h.rise
theorem zj4 {p:Pln} (h:OkP p):(p.sections.map Section.id).Nodup:=zjr (secIds h.sec)
theorem zj9 {p:Pln} (h:OkP p) {r:Rte} (hr:r∈p.routes):1≤r.id∧r.id≤99:=((zfo _ _).1 h.rise).1 r.id (List.mem_map_of_mem hr)
theorem zb6 {p:Pln} (h:zbE p=true):OkP p∧(∀ r∈p.routes,(zaq p r).2.2=0)∧∀ r∈p.routes,zc8 p r=true:=by
 simp only[zbE,Bool.and_eq_true]at h
 refine ⟨zeL h.1,fun r hr=>?_,fun r hr=>?_⟩
 ·simpa using (List.all_eq_true.1 h.2.1) r hr
 ·exact (List.all_eq_true.1 h.2.2) r hr
theorem zfV {p:Pln} {s:State} (h:zao p s=true) {z:WL} (hz:z∈zof p s):∃ i,∃ r∈p.routes,i<p.routes.length∧nth p.routes i=r∧nth s.locks i=z.2∧z.2∈s.locks∧z.1=(zaq p r).1∧zeZ z.2 r=true:=by
 have hl:=zaS h
 simp only[zao,Bool.and_eq_true]at h
 obtain ⟨i,hi,e⟩:=List.mem_iff_getElem.1 hz
 have hi1:i<p.routes.length:=by simp only[zof,List.length_zip,za8,List.length_map]at hi;omega
 have hi2:i<s.locks.length:=by omega
 have e1:z.1=(zaq p (nth p.routes i)).1:=by
  rw[←e];simp[zof,za8,zay hi1]
 have e2:nth s.locks i=z.2:=by
  rw[←e];simp[zof,zay hi2]
 refine ⟨i,nth p.routes i,zae hi1,hi1,rfl,e2,by rw[←e2];exact zae hi2,e1, ?_⟩
 rw[←e2]
 exact zfa h.2.2 hi2
theorem zof_at {p:Pln} {s:State} (h:zao p s=true) {i:Nat} (hi:i<p.routes.length):((zaq p (nth p.routes i)).1,nth s.locks i)∈zof p s:=by
 have hl:=zaS h
 have hi2:i<s.locks.length:=by omega
 rw[List.mem_iff_getElem]
 refine ⟨i,by simp[zof,za8];omega, ?_⟩
 simp[zof,za8,zay hi,zay hi2]
theorem zmq {p:Pln} {s:State} (ho:zbE p=true) (h:zao p s=true):ZOk (zof p s):=by
 obtain ⟨hok,hw,_⟩:=zb6 ho
 refine ⟨fun z hz=>?_,fun z hz n hn=>?_,fun z hz a ha=>?_⟩
 ·obtain ⟨i,r,hr,_,_,_,_,_,hl⟩:=zfV h hz
  simp only[zeZ,Bool.and_eq_true,decide_eq_true_eq]at hl
  have:=zj9 hok hr
  omega
 ·obtain ⟨i,r,hr,_,_,_,_,e,hl⟩:=zfV h hz
  have hp:=zei (hw r hr)
  unfold hdl zbN at hn
  split at hn
  ·simp at hn
  ·have h1:n∈r.path++r.over:=by
    rw[e,hp.1,hp.2.1]at hn
    rcases List.mem_append.1 hn with h2|h2
    ·exact List.mem_append.2 (.inl (List.mem_of_mem_drop h2))
    ·exact List.mem_append.2 (.inr h2)
   obtain ⟨q,hq,rfl⟩:=(zgM hok hr).1 n h1
   have:=zfl hok hq
   omega
 ·obtain ⟨i,r,hr,_,_,_,_,e,hl⟩:=zfV h hz
  unfold zb8 at ha
  split at ha
  ·simp at ha
  ·rw[e]at ha
   have:=zcC hok hr ha
   omega
theorem zp7 {p:Pln} {s:State} (ho:zbE p=true) (h:zao p s=true) {z:WL} (hz:z∈zof p s):(hdl z).Nodup:=by
 obtain ⟨hok,hw,_⟩:=zb6 ho
 obtain ⟨i,r,hr,_,_,_,_,e,_⟩:=zfV h hz
 have hp:=zei (hw r hr)
 unfold hdl zbN
 split
 ·simp
 ·rw[e,hp.1,hp.2.1]
  have:=(zgM hok hr).2
  exact List.Nodup.sublist (List.Sublist.append (List.drop_sublist _ _) (List.Sublist.refl _)) this
theorem zlW {p:Pln} {s:State} (h:zao p s=true):zaW p s=ze1 (zfU [] s.switches) (zof p s) zdd zdd true:=by
 unfold zaW zof
 rw[zp9 _ _ _ _ _ _ _ (by have:=zaS h;simp[za8];omega),List.drop_zero]
theorem ziU (k:Nat):nth zdd k=0:=by
 rcases Nat.lt_or_ge k 100 with h|h
 ·exact zhD _ _ _ h
 ·unfold zdd nth;rw[getElem!_neg _ _ (by simp;omega)];rfl
def zmp (Z:List WL):Prop:=Z.Pairwise fun z z'=>∀ n∈hdl z,n∉hdl z'
def znm (s:State) (Z:List WL):Prop:=∀ z∈Z,∀ a∈asl z,zee s a.pnt=a.lie
theorem zfY (p:Pln) (s:State):zai p s=0↔zbE p=true∧zao p s=true∧zmp (zof p s)∧znm s (zof p s):=by
 constructor
 ·intro h
  obtain ⟨h1,h2,h3⟩:=zar h
  rw[zlW h2]at h3
  have:=((zew _ _ _ _ (zmq h1 h2) zbx zbx).1).1 h3
  exact ⟨h1,h2,this.2,fun z hz a ha=>(this.1 z hz).2.2 a ha⟩
 ·rintro ⟨h1,h2,h3,h4⟩
  unfold zai
  have h5:(zaW p s).2.2=true:=by
   rw[zlW h2]
   exact ((zew _ _ _ _ (zmq h1 h2) zbx zbx).1).2 ⟨fun z hz=>⟨fun n _=>ziU _,zp7 h1 h2 hz,h4 z hz⟩,h3⟩
  rw[if_pos h1,if_pos ⟨h2,h5⟩]
section
variable {p:Pln} {s:State} (h:zai p s=0)
include h
theorem zhI:(∀ z∈zof p s,(∀ n∈hdl z,nth (zaW p s).1 n.toNat=z.2.id)∧∀ a∈asl z,nth (zaW p s).2.1 a.pnt.toNat=a.lie) ∧
  (∀ k:Nat,(∀ z∈zof p s,∀ n∈hdl z,n.toNat≠k)→nth (zaW p s).1 k=0)∧(∀ k:Nat,(∀ z∈zof p s,∀ a∈asl z,a.pnt.toNat≠k)→nth (zaW p s).2.1 k=0):=by
 obtain ⟨h1,h2,h3⟩:=zar h
 rw[zlW h2]at h3 ⊢
 have:=(zew _ _ _ _ (zmq h1 h2) zbx zbx).2 h3
 refine ⟨this.1,fun k hk=>?_,fun k hk=>?_⟩
 ·rw[this.2.1 k hk];exact ziU k
 ·rw[this.2.2 k hk];exact ziU k
theorem zlV {z:WL} (hz:z∈zof p s) {n:Int} (hn:n∈hdl z):nth (zaW p s).1 n.toNat=z.2.id:=((zhI h).1 z hz).1 n hn
theorem hold_no {n:Int} (h0:0≤n) (hn:∀ z∈zof p s,n∉hdl z):nth (zaW p s).1 n.toNat=0:=(zhI h).2.1 _ fun z hz m hm e=>by
 have:=(zmq (zar h).1 (zar h).2.1).sec z hz m hm
 exact hn z hz (by rw[show n=m by omega];exact hm)
theorem zn0 {n:Int} (h0:0≤n):(∃ z∈zof p s,n∈hdl z∧nth (zaW p s).1 n.toNat=z.2.id)∨((∀ z∈zof p s,n∉hdl z)∧nth (zaW p s).1 n.toNat=0):=by
 rcases Classical.em (∃ z∈zof p s,n∈hdl z) with ⟨z,hz,hn⟩|h1
 ·exact .inl ⟨z,hz,hn,zlV h hz hn⟩
 ·exact .inr ⟨fun z hz hn=>h1 ⟨z,hz,hn⟩,hold_no h h0 fun z hz hn=>h1 ⟨z,hz,hn⟩⟩
theorem ask_at {z:WL} (hz:z∈zof p s) {a:AskR} (ha:a∈asl z):nth (zaW p s).2.1 a.pnt.toNat=a.lie:=((zhI h).1 z hz).2 a ha
end
end Go.Lev
namespace Go.Lev
open Go.Eng
set_option maxRecDepth 10000
set_option maxHeartbeats 4000000
variable {P:Program} {inv:Nat→Option Nat} {w0:World} {M:Nat→Prop}
def minK (n:Int):Int:=if 1000<n then 1000 else n
def sumS:Int→List Section→Int
 |t,[]=>t
 |t,s::r=>sumS (t+minK s.ends.length) r
def sumR:Int→List Rte→Int
 |t,[]=>t
 |t,r::l=>sumR (t+minK r.path.length+minK r.over.length+minK r.flanks.length) l
def zqb (p:Pln):Bool:=decide (100<(p.sections.length:Int))||(decide (100<(p.points.length:Int))||(decide (100<(p.signals.length:Int))||decide (100<(p.routes.length:Int))))
def greatP (p:Pln):Bool:=zqb p||decide (1000<sumR (sumS 0 p.sections) p.routes)
theorem zmB {s:State} (h:zgG s=false):SmS s:=by
 unfold zgG at h;unfold SmS;simp at h;omega
end Go.Lev
namespace Go.Lev
open Go.Eng
set_option maxRecDepth 10000
set_option maxHeartbeats 4000000
variable {P:Program} {inv:Nat→Option Nat} {w0:World} {M:Nat→Prop}
def zeR {α:Type} (f:α→Int) (n:Int) (g:α→α) (l:List α):List α:=l.map fun x=>if f x=n then g x else x
theorem zcO {α:Type} (f:α→Int) (n:Int) (g:α→α) (l:List α):(zeR f n g l).length=l.length:=by simp[zeR]
theorem zcY {α:Type} [Inhabited α] (f:α→Int) (n:Int) (l:List α):(zbu (fun x=>decide (f x=n)) 0 l=-1∧∀ x∈l,f x≠n)∨∃ i:Nat,i<l.length∧zbu (fun x=>decide (f x=n)) 0 l=(i:Int)∧f (nth l i)=n:=by
 rcases zbX (fun x:α=>decide (f x=n)) l 0 with ⟨h1,h2⟩|⟨i,h1,h2,h3⟩
 ·exact .inl ⟨h1,zqr h2⟩
 ·exact .inr ⟨i,h1,by omega,(zea (f:=f) h3).2⟩
end Go.Lev
namespace Go.Lev
open Go.Eng
set_option maxRecDepth 10000
set_option maxHeartbeats 4000000
variable {P:Program} {inv:Nat→Option Nat} {w0:World} {M:Nat→Prop}
def zhd (s:State) (n v:Int):State:=⟨zeR Track.id n (fun t=>⟨t.id,v⟩) s.tracks,s.switches,s.locks⟩
def setL (s:State) (n v:Int):State:=⟨s.tracks,zeR Switch.id n (fun t=>⟨t.id,v,t.call⟩) s.switches,s.locks⟩
def isTrk (s:State) (n:Int):Prop:=∃ t∈s.tracks,t.id=n
def isSwt (s:State) (n:Int):Prop:=∃ t∈s.switches,t.id=n
instance (s:State) (n:Int):Decidable (isTrk s n):=by unfold isTrk;infer_instance
instance (s:State) (n:Int):Decidable (isSwt s n):=by unfold isSwt;infer_instance
def zo8 (p:Pln) (s:State) (n v:Int):Int:=if zai p s=0 then (if isTrk s n then (if v=0∨v=1 then 0 else 2) else 6) else zai p s
def zqz (p:Pln) (s:State) (n v:Int):Int:=if zai p s=0 then (if isSwt s n then (if 0≤v∧v≤2 then 0 else 2) else 6) else zai p s
def secR (p:Pln) (s:State) (n v:Int):State:=if zo8 p s n v=0 then zhd s n v else State.z
def detR (p:Pln) (s:State) (n v:Int):State:=if zqz p s n v=0 then setL s n v else State.z
end Go.Lev
namespace Go.Lev
open Go.Eng
theorem zdl {α β:Type} [Inhabited α] [Inhabited β] (q:α→β→Bool):∀ (a:List α) (b:List β),zaA q a b=true↔a.length=b.length∧∀ i,i<a.length→q (nth a i) (nth b i)=true
 |[],[]=>by simp[zaA]
 |[],_::_=>by simp[zaA]
 |_::_,[]=>by simp[zaA]
 |x::xs,y::ys=>by
  simp only[zaA,Bool.and_eq_true,zdl q xs ys,List.length_cons,Nat.add_right_cancel_iff]
  constructor
  ·rintro ⟨h1,h2,h3⟩
   refine ⟨h2,fun i hi=>?_⟩
   cases i with
   |zero=>exact h1
   |succ i=>exact h3 i (by omega)
  ·rintro ⟨h2,h3⟩
   exact ⟨h3 0 (by omega),h2,fun i hi=>h3 (i+1) (by omega)⟩
theorem zmW {p:Pln} {s:State} (h:zao p s=true) {i:Nat} (hi:i<s.locks.length):zeZ (nth s.locks i) (nth p.routes i)=true:=by
 simp only[zao,Bool.and_eq_true]at h
 exact zfa h.2.2 hi
theorem ziW {α:Type} (f:α→Int) (n:Int) (g:α→α) (hg:∀ x,f (g x)=f x) (l:List α):(zeR f n g l).map f=l.map f:=by
 unfold zeR
 rw[List.map_map]
 refine List.map_congr_left fun x _=>?_
 simp only[Function.comp]
 split
 ·exact hg x
 ·rfl
end Go.Lev
namespace Go.Lev
open Go.Eng
theorem ofW_at {p:Pln} {s:State} (h:zai p s=0) {i:Nat} (hi:i<s.locks.length):ofW p (nth s.locks i).id=((zaq p (nth p.routes i)).1,0):=by
 obtain ⟨h1,h2,_⟩:=zar h
 obtain ⟨hok,hw,_⟩:=zb6 h1
 have hl:=zaS h2
 have hr:nth p.routes i∈p.routes:=zae (by omega)
 have hl2:=zmW h2 hi
 simp only[zeZ,Bool.and_eq_true,decide_eq_true_eq]at hl2
 have hp:zbA p=true:=by simp only[zbE,Bool.and_eq_true]at h1;exact h1.1
 unfold ofW
 rw[if_pos hp,hl2.1,zl4 Rte.id (zfn hok) hr]
 dsimp only
 rw[hw _ hr]
theorem zlM {p:Pln} {s:State} (h:zai p s=0) {i j:Nat} (hi:i<s.locks.length) (hj:j<s.locks.length) (e:(nth s.locks i).id=(nth s.locks j).id):i=j:=by
 obtain ⟨h1,h2,_⟩:=zar h
 have hn:(s.locks.map Lock.id).Nodup:=by rw[lck_ids h2];exact zfn (zb6 h1).1
 have:=(List.nodup_iff_pairwise_ne.1 hn)
 rcases Nat.lt_trichotomy i j with hlt|he|hlt
 ·have:=List.pairwise_iff_getElem.1 this i j (by simpa using hi) (by simpa using hj) hlt
  simp only[List.getElem_map]at this
  rw[←zay hi,←zay hj]at this
  exact absurd e this
 ·exact he
 ·have:=List.pairwise_iff_getElem.1 this j i (by simpa using hj) (by simpa using hi) hlt
  simp only[List.getElem_map]at this
  rw[←zay hi,←zay hj]at this
  exact absurd e.symm this
theorem zlL {p:Pln} {s:State} (h:zai p s=0) {i:Nat} (hi:i<s.locks.length):1≤(nth s.locks i).id∧(nth s.locks i).id≤99:=by
 obtain ⟨h1,h2,_⟩:=zar h
 have hl:=zaS h2
 have hl2:=zmW h2 hi
 simp only[zeZ,Bool.and_eq_true,decide_eq_true_eq]at hl2
 rw[hl2.1]
 exact zj9 (zb6 h1).1 (zae (by omega))
def zm3 (p:Pln) (s:State) (i:Nat):List Int:=zbN (zaq p (nth p.routes i)).1 (nth s.locks i)
def zqO (p:Pln) (s:State) (i:Nat):List AskR:=(zb8 (zaq p (nth p.routes i)).1 (nth s.locks i)).filter (zc4 (nth s.locks i))
theorem zjW {p:Pln} {s:State} (h:zai p s=0) {z:WL} (hz:z∈zof p s):∃ i,i<s.locks.length∧z=((zaq p (nth p.routes i)).1,nth s.locks i):=by
 have h2:=(zar h).2.1
 have hl:=zaS h2
 obtain ⟨i,r,hr,hi,e1,e2,_,e3,_⟩:=zfV h2 hz
 refine ⟨i,by omega, ?_⟩
 rw[e1,e2,←e3]
theorem zhy {p:Pln} {s:State} (h:zai p s=0) {i:Nat} (hi:i<s.locks.length):((zaq p (nth p.routes i)).1,nth s.locks i)∈zof p s:=by
 have h2:=(zar h).2.1
 have hl:=zaS h2
 exact zof_at h2 (by omega)
theorem hold_iff {p:Pln} {s:State} (h:zai p s=0) {i:Nat} (hi:i<s.locks.length) {n:Int} (hn:0≤n):nth (zaW p s).1 n.toNat=(nth s.locks i).id↔n∈zm3 p s i:=by
 constructor
 ·intro e
  rcases zn0 h hn with ⟨z,hz,hm,e2⟩|⟨_,e2⟩
  ·obtain ⟨j,hj,rfl⟩:=zjW h hz
   rw[e2]at e
   obtain rfl:=zlM h hj hi e
   exact hm
  ·have:=zlL h hi
   omega
 ·intro hm
  exact zlV h (zhy h hi) hm
theorem ask_is {p:Pln} {s:State} (h:zai p s=0) {i:Nat} (hi:i<s.locks.length) {a:AskR} (ha:a∈zqO p s i):nth (zaW p s).2.1 a.pnt.toNat=a.lie:=ask_at h (zhy h hi) ha
theorem zpE {p:Pln} {s:State} (h:zai p s=0) {i:Nat} (hi:i<s.locks.length) {a:AskR} (ha:a∈zqO p s i):a.lie=1∨a.lie=2:=by
 obtain ⟨h1,h2,_⟩:=zar h
 have hl:=zaS h2
 have h3:=(List.mem_filter.1 ha).1
 unfold zb8 at h3
 split at h3
 ·simp at h3
 ·exact (zcC (zb6 h1).1 (zae (by omega)) h3).2.2
def pathG (g n:Int):Nat→List Int→Bool
 |_,[]=>false
 |k,x::r=>(decide (x=n)&&decide (g≤k))||pathG g n (k+1) r
end Go.Lev
namespace Go.Eng
mutual
def nz:AV→AV
 |.s0 sz=>.sl sz []
 |.agg cs=>.agg (nzL cs)
 |.tup cs=>.tup (nzL cs)
 |.fn j cs=>.fn j (nzL cs)
 |.sl sz es=>.sl sz (nzR es)
 |.ip sz es i k=>.ip sz (nzR es) i k
 |.i k n=>.i k n
 |.b t=>.b t
 |.v x=>.v x
 |.u=>.u
 |.ptr l ver off=>.ptr l ver off
 |.sm l ver off n sz=>.sm l ver off n sz
 |.mp l=>.mp l
 |.top=>.top
def nzL:List AV→List AV
 |[]=>[]
 |x::xs=>nz x::nzL xs
def nzR:List (List AV)→List (List AV)
 |[]=>[]
 |r::rs=>nzL r::nzR rs
end
theorem zpv:∀ xs:List AV,(nzL xs).length=xs.length
 |[]=>by simp only[nzL]
 |x::xs=>by simp only[nzL,List.length_cons,zpv xs]
theorem zlC:∀ xs:List (List AV),(nzR xs).length=xs.length
 |[]=>by simp only[nzR]
 |x::xs=>by simp only[nzR,List.length_cons,zlC xs]
mutual
theorem zlB:∀ x:AV,x.bare=true→(nz x).bare=true
 |.s0 sz,_=>by simp only[nz,AV.bare]
 |.agg cs,h=>by simp only[nz,AV.bare]at h ⊢;exact zgP cs h
 |.tup cs,h=>by simp only[nz,AV.bare]at h ⊢;exact zgP cs h
 |.fn j cs,h=>by simp only[nz,AV.bare]at h ⊢;exact zgP cs h
 |.sl sz es,_=>by simp only[nz,AV.bare]
 |.ip sz es i k,_=>by simp only[nz,AV.bare]
 |.i k n,_=>by simp only[nz,AV.bare]
 |.b t,_=>by simp only[nz,AV.bare]
 |.v x,_=>by simp only[nz,AV.bare]
 |.u,_=>by simp only[nz,AV.bare]
 |.ptr l ver off,h=>by simp only[nz];exact h
 |.sm l ver off n sz,h=>by simp only[nz];exact h
 |.mp l,h=>by simp only[nz];exact h
 |.top,_=>by simp only[nz,AV.bare]
theorem zgP:∀ xs:List AV,zad xs=true→zad (nzL xs)=true
 |[],_=>by simp only[nzL,zad]
 |x::xs,h=>by
  simp only[zad,Bool.and_eq_true]at h
  simp only[nzL,zad,zlB x h.1,zgP xs h.2,Bool.and_self]
end
mutual
theorem zmK:∀ (c:Ctx) (x:AV) (y:Value),rel c x y→rel c (nz x) y
 |c,.s0 sz,y,r=>by
  simp only[nz,rel]at r ⊢
  obtain ⟨ad,e⟩:=r
  exact ⟨ad,0,e,Nat.le_refl _,fun h=>absurd rfl h⟩
 |c,.agg cs,y,r=>by
  simp only[nz,rel]at r ⊢
  obtain ⟨xs,e,r⟩:=r
  exact ⟨xs,e,zmO c cs _ r⟩
 |c,.tup cs,y,r=>by
  simp only[nz,rel]at r ⊢
  obtain ⟨xs,e,r⟩:=r
  exact ⟨xs,e,zlq c cs _ r⟩
 |c,.fn j cs,y,r=>by
  simp only[nz,rel]at r ⊢
  obtain ⟨g,xs,e,hi,r⟩:=r
  exact ⟨g,xs,e,hi,zlq c cs _ r⟩
 |c,.sl sz es,y,r=>by
  simp only[nz,rel]at r ⊢
  obtain ⟨ad,cap,e,h,r⟩:=r
  refine ⟨ad,cap,by rw[zlC];exact e,by rw[zlC];exact h,fun hne=>?_⟩
  have hne':es≠[]:=fun e0=>hne (by rw[e0];simp only[nzR])
  obtain ⟨a,e1,h1,h2,h3⟩:=r hne'
  exact ⟨a,e1,h1,h2,zf5 c sz a 0 es h3⟩
 |c,.ip sz es i k,y,r=>by
  simp only[nz,rel]at r ⊢
  obtain ⟨a,e,h1,h2,h3⟩:=r
  exact ⟨a,e,h1,h2,zf5 c sz a 0 es h3⟩
 |c,.i k n,y,r=>by simp only[nz];exact r
 |c,.b t,y,r=>by simp only[nz];exact r
 |c,.v x,y,r=>by simp only[nz];exact r
 |c,.u,y,r=>by simp only[nz];exact r
 |c,.ptr l ver off,y,r=>by simp only[nz];exact r
 |c,.sm l ver off n sz,y,r=>by simp only[nz];exact r
 |c,.mp l,y,r=>by simp only[nz];exact r
 |c,.top,y,r=>by simp only[nz];exact r
theorem zlq:∀ (c:Ctx) (xs:List AV) (ys:List Value),zbz c xs ys→zbz c (nzL xs) ys
 |c,[],ys,r=>by simp only[nzL];exact r
 |c,x::xs,ys,r=>by
  simp only[nzL,zbz]at r ⊢
  obtain ⟨y,ys',e,r1,r2⟩:=r
  exact ⟨y,ys',e,zmK c x y r1,zlq c xs ys' r2⟩
theorem zmO:∀ (c:Ctx) (xs:List AV) (ys:List Value),relCs c xs ys→relCs c (nzL xs) ys
 |c,[],ys,r=>by simp only[nzL];exact r
 |c,x::xs,ys,r=>by
  simp only[nzL,relCs]at r ⊢
  obtain ⟨y,ys',e,ho,r1,r2⟩:=r
  exact ⟨y,ys',e,ho,zmK c x y r1,zmO c xs ys' r2⟩
theorem zkb:∀ (c:Ctx) (a:Addr) (k:Nat) (xs:List AV),zbt c a k xs→zbt c a k (nzL xs)
 |c,a,k,[],r=>by simp only[nzL];exact r
 |c,a,k,x::xs,r=>by
  simp only[nzL,zbt]at r ⊢
  obtain ⟨⟨y,h1,h2,h3,h4⟩,r⟩:=r
  exact ⟨⟨y,h1,h2,zlB x h3,zmK _ x y h4⟩,zkb c a (k+1) xs r⟩
theorem zf5:∀ (c:Ctx) (sz:Nat) (a:Addr) (k:Nat) (es:List (List AV)),zaE c sz a k es→zaE c sz a k (nzR es)
 |c,sz,a,k,[],r=>by simp only[nzR];exact r
 |c,sz,a,k,x::xs,r=>by
  simp only[nzR,zaE]at r ⊢
  exact ⟨by rw[zpv];exact r.1,zkb c a k x r.2.1,zf5 c sz a (k+sz) xs r.2.2⟩
end
theorem PC.nzr {P:Program} {inv:Nat→Option Nat} {j:Nat} {args:List AV} {r:AV} (h:PC P inv j args (·=r)):PC P inv j args (·=nz r) :=
 fun g hg M w vs hM ha=>(h g hg M w vs hM ha).mono fun _ _ ⟨v,r',e,h1,h2,h3,h4⟩=>⟨v,nz r',e,by rw[h1],h2,zlB r' h3,zmK _ r' v h4⟩
attribute [go_sem] nz nzL nzR
end Go.Eng
namespace Go.Eng
open Go.RowKit
theorem bo9:(∀ (α:Type) (a b:α),(cond true a b)=a)∧(∀ (α:Type) (a b:α),(cond false a b)=b)∧(∀ b:Bool,(true||b)=true)∧(∀ b:Bool,(b||true)=true)∧(∀ b:Bool,(false||b)=b)∧(∀ b:Bool,(b||false)=b)∧(∀ b:Bool,(true&&b)=b)∧(∀ b:Bool,(b&&true)=b)∧(∀ b:Bool,(false&&b)=false)∧(∀ b:Bool,(b&&false)=false)∧((!true)=false)∧((!false)=true)∧(∀ b:Bool,(!!b)=b)∧(∀ [Decidable True],decide True=true)∧(∀ [Decidable False],decide False=false)∧(∀ (α:Type) (a:α),(a=a)=True) :=
 ⟨fun _ _ _=>rfl,fun _ _ _=>rfl,fun _=>Bool.true_or _,fun _=>Bool.or_true _,fun _=>Bool.false_or _,fun _=>Bool.or_false _,fun _=>Bool.true_and _,fun _=>Bool.and_true _,fun _=>Bool.false_and _,fun _=>Bool.and_false _,rfl,rfl,fun _=>Bool.not_not _,@fun i=>decide_true i,@fun i=>decide_false i,fun _ _=>eq_self _⟩
theorem wX {A B:Prop} (a:A) (h:Rw A B:=by first|(simp only[h0,bo9,reduceCtorEq,Int.reduceEq,Nat.reduceEqDiff];exact zci _)|(simp only[bo9,reduceCtorEq,Int.reduceEq,Nat.reduceEqDiff];exact zci _)):B:=Eq.mp h a
def zbs {S R:Type} (body:Nat→S→(S→R)→R) (fin:S→R):Nat→Nat→S→R
 |0,_,s=>fin s
 |m+1,k,s=>body k s fun s'=>zbs body fin m (k+1) s'
section
variable {S R:Type} {body:Nat→S→(S→R)→R} {fin:S→R} {n k:Nat} {s:S}
theorem znV (h:k<n):zbs body fin (n-k) k s=body k s fun s'=>zbs body fin (n-(k+1)) (k+1) s':=by
 obtain ⟨m,hm⟩:∃ m,n-k=m+1:=⟨n-k-1,by omega⟩
 rw[hm,show n-(k+1)=m by omega]
 rfl
theorem zdK {B:Nat→S→(S→R)→R} (hB:B=body) (h:k<n):zbs B fin (n-k) k s=body k s fun s'=>zbs B fin (n-(k+1)) (k+1) s':=by rw[znV h];subst hB;rfl
theorem zfx (h:n≤k):zbs body fin (n-k) k s=fin s:=by
 rw[show n-k=0 by omega]
 rfl
theorem zfy {X:R} (hF:zbs body fin n 0 s=X) {G:Prop} (h:∀ B F,B=body→F=fin→zbs B F (n-0) 0 s=X→G):G:=h _ _ rfl rfl hF
theorem zeu (good:R→Prop) (Inv:Nat→S→Prop) (h0:Inv 0 s) (hs:∀ k s zbf,k<n→Inv k s→(∀ s',Inv (k+1) s'→good (zbf s'))→good (body k s zbf)) (hf:∀ s,Inv n s→good (fin s)):good (zbs body fin n 0 s):=by
 have key:∀ m k s,k+m=n→Inv k s→good (zbs body fin m k s):=by
  intro m
  induction m with
  |zero=>intro k s hk hi;exact hf s (by rw[show n=k by omega];exact hi)
  |succ m ih=>intro k s hk hi;exact hs k s _ (by omega) hi fun s' h'=>ih (k+1) s' (by omega) h'
 exact key n 0 s (by omega) h0
end
mutual
def okS (g:Nat→Bool):AV→Bool
 |.agg cs=>zor g cs
 |.tup cs=>zor g cs
 |.fn _ cs=>zor g cs
 |.ptr l _ _=>g l
 |.sm l _ _ _ _=>g l
 |.i _ _=>true|.b _=>true|.v _=>true|.u=>true|.s0 _=>true|.sl _ _=>true|.ip _ _ _ _=>true|.mp _=>true|.top=>true
def zor (g:Nat→Bool):List AV→Bool
 |[]=>true
 |x::xs=>okS g x&&zor g xs
end
def okF:Nat→AS→Nat→Bool
 |0,_,_=>false
 |k+1,σ,l=>match zax σ l with
  |some (.cells cs _)=>zor (okF k σ) cs
  |_=>false
section
variable {f f':Nat→Option (List AV)} {g:Nat→Bool} (h:∀ l,g l=true→f' l=f l)
include h
mutual
theorem zoM:∀ x:AV,okS g x=true→zaO f' x=zaO f x
 |.agg cs,e=>by simp only[okS]at e;simp only[zaO,zcV cs e]
 |.tup cs,e=>by simp only[okS]at e;simp only[zaO,zcV cs e]
 |.fn j cs,e=>by simp only[okS]at e;simp only[zaO,zcV cs e]
 |.ptr l ver off,e=>by simp only[okS]at e;simp only[zaO,h l e]
 |.sm l ver off n sz,e=>by simp only[okS]at e;simp only[zaO,h l e]
 |.i _ _,_=>by simp only[zaO]
 |.b _,_=>by simp only[zaO]
 |.v _,_=>by simp only[zaO]
 |.u,_=>by simp only[zaO]
 |.s0 _,_=>by simp only[zaO]
 |.sl _ _,_=>by simp only[zaO]
 |.ip _ _ _ _,_=>by simp only[zaO]
 |.mp _,_=>by simp only[zaO]
 |.top,_=>by simp only[zaO]
theorem zcV:∀ xs:List AV,zor g xs=true→zbn f' xs=zbn f xs
 |[],_=>by simp only[zbn]
 |x::xs,e=>by
  simp only[zor,Bool.and_eq_true]at e
  simp only[zbn,zoM x e.1,zcV xs e.2]
end
end
theorem zg7 {σ σ':AS} (hle:SLe σ σ'):∀ (k l:Nat),okF k σ l=true→zfZ k σ' l=zfZ k σ l
 |0,_,e=>by simp[okF]at e
 |k+1,l,e=>by
  simp only[okF]at e
  split at e
  ·rename_i cs r hg
   simp only[zfZ,hg,hle l _ hg (by intro h;cases h),zcV (fun l=>zg7 hle k l) cs e]
  ·cases e
def oks (k:Nat) (σ:List (Nat×AO)) (xs:List AV):Bool:=zor (okF k σ) xs
def ok1 (k:Nat) (σ:List (Nat×AO)) (x:AV):Bool:=okS (okF k σ) x
def okR (o:Option AO) (l:Nat) (K:List AV→Bool) (_:l=l):Bool:=match o with|some (.cells cs _)=>K cs|_=>false
theorem okR_c (cs:List AV) (r:Bool) (l:Nat) (K:List AV→Bool) (h:l=l):okR (some (.cells cs r)) l K h=K cs:=rfl
section
variable (k:Nat) (σ:List (Nat×AO))
theorem ok_i (q:IntKind) (n:Int):ok1 k σ (.i q n)=true:=by simp only[ok1,okS]
theorem ok_b (t:Bool):ok1 k σ (.b t)=true:=by simp only[ok1,okS]
theorem ok_v (x:Value):ok1 k σ (.v x)=true:=by simp only[ok1,okS]
theorem ok_u:ok1 k σ .u=true:=by simp only[ok1,okS]
theorem ok_s0 (sz:Nat):ok1 k σ (.s0 sz)=true:=by simp only[ok1,okS]
theorem ok_sl (sz:Nat) (es:List (List AV)):ok1 k σ (.sl sz es)=true:=by simp only[ok1,okS]
theorem ok_ip (sz:Nat) (es:List (List AV)) (i j:Nat):ok1 k σ (.ip sz es i j)=true:=by simp only[ok1,okS]
theorem ok_agg (cs:List AV):ok1 k σ (.agg cs)=oks k σ cs:=by simp only[ok1,okS,oks]
theorem ok_tup (cs:List AV):ok1 k σ (.tup cs)=oks k σ cs:=by simp only[ok1,okS,oks]
theorem ok_fn (j:Nat) (cs:List AV):ok1 k σ (.fn j cs)=oks k σ cs:=by simp only[ok1,okS,oks]
theorem ok_nil:oks k σ []=true:=by simp only[oks,zor]
theorem ok_cons (x:AV) (xs:List AV):oks k σ (x::xs)=(ok1 k σ x&&oks k σ xs):=by simp only[ok1,zor,oks]
theorem ok_ptr (l ver off:Nat):ok1 (k+1) σ (.ptr l ver off)=okR (zax σ l) l (fun cs=>oks k σ cs) rfl:=by
 simp only[ok1,okS,okF,okR,oks]
theorem ok_sm (l ver off n sz:Nat):ok1 (k+1) σ (.sm l ver off n sz)=okR (zax σ l) l (fun cs=>oks k σ cs) rfl:=by
 simp only[ok1,okS,okF,okR,oks]
end
mutual
theorem plain_ok (g:Nat→Bool):∀ x:AV,x.plain=true→okS g x=true
 |.agg cs,h=>by simp only[AV.plain]at h;simp only[okS];exact zd6 g cs h
 |.i _ _,_=>rfl|.b _,_=>rfl|.v _,_=>rfl|.sl _ _,_=>rfl|.ip _ _ _ _,_=>rfl
 |.tup _,h=>by simp[AV.plain]at h
 |.u,h=>by simp[AV.plain]at h
 |.s0 _,h=>by simp[AV.plain]at h
 |.ptr _ _ _,h=>by simp[AV.plain]at h
 |.sm _ _ _ _ _,h=>by simp[AV.plain]at h
 |.fn _ _,h=>by simp[AV.plain]at h
 |.mp _,h=>by simp[AV.plain]at h
 |.top,h=>by simp[AV.plain]at h
theorem zd6 (g:Nat→Bool):∀ xs:List AV,zaD xs=true→zor g xs=true
 |[],_=>rfl
 |x::xs,h=>by
  simp only[zaD,Bool.and_eq_true]at h
  simp only[zor,plain_ok g x h.1,zd6 g xs h.2,Bool.and_self]
end
theorem ok_flat {α:Type} {c:α→List AV} {sz:Nat} [h:Cells c sz] (k:Nat) (σ:AS) (l:List α):oks k σ (l.map c).flatten=true:=zd6 _ _ (zcv l)
theorem ok_bmap (k:Nat) (σ:AS) (l:List Bool):oks k σ (l.map AV.b)=true:=zd6 _ _ (zeD l)
theorem ok_imap (k:Nat) (σ:AS) (q:IntKind) (l:List Int):oks k σ (l.map (AV.i q))=true:=zd6 _ _ (zcU q l)
attribute [go_sem] okR_c ok_i ok_b ok_v ok_u ok_s0 ok_sl ok_ip ok_agg ok_tup ok_fn ok_nil ok_cons ok_ptr ok_sm ok_flat ok_bmap ok_imap
section
variable {P:Program} {inv:Nat→Option Nat} {w0:World} {M:Nat→Prop} {σ:AS}
theorem zqU (hM:∀ b,M b→b<w0.heap.size) (k:Nat) {j:Nat} {args args':List AV} {r:AV} (h:PC P inv j args' (·=r)) (he:zby k σ args=args') (hok:oks k σ args=true) (hs:r.scalar=true) {K:AV→Prop} (hk:K r):zqS P inv w0 M σ j args K :=
 ⟨r,fun _ _ σ' hle=>zcj hM k h (by rw[←he];exact zcV (fun l=>zg7 hle k l) args hok) hs ⟨rfl,rfl⟩,hk⟩
end
section
variable {P:Program} {inv:Nat→Option Nat} {w0:World} {M:Nat→Prop} {n N:Nat} {φ:AF} {σ:AS}
variable {l:Nat} {J:AF→AS→Prop} {Q:Exit→AF→AS→Prop}
theorem jt_ret:ziT l J Q .ret φ σ=Q .ret φ σ:=rfl
theorem zpJ:ziT l J Q .normal φ σ=Q .normal φ σ:=rfl
theorem jt_exit (i:Nat):ziT l J Q (.exit i) φ σ=Q (.exit i) φ σ:=rfl
theorem jt_goto (l':Nat):ziT l J Q (.goto l') φ σ=(l'=l∧J φ σ):=rfl
attribute [go_sem] jt_ret zpJ jt_exit jt_goto
end
section
variable {P:Program} {inv:Nat→Option Nat} {w0:World} {M:Nat→Prop} {n N:Nat} {φ:AF} {σ:AS}
end
end Go.Eng
namespace Go.Lev
open Go.Eng
set_option maxRecDepth 10000
set_option maxHeartbeats 4000000
variable {P:Program} {inv:Nat→Option Nat} {w0:World} {M:Nat→Prop}
def zdj (s:State) (n:Int):Int:=match s.tracks.find? fun t=>decide (t.id=n) with|some t=>t.is|none=>2
def zkl (p:Pln) (n:Int):Int:=match p.points.find? fun t=>decide (t.id=n) with|some t=>t.sec|none=>0
def mayC (p:Pln) (s:State) (n:Int):Int:=if zai p s=0 then (if isPnt p n=true then (if nth (zaW p s).2.1 n.toNat=0 then (if zdj s (zkl p n)=0 then 0 else 171) else 170) else 6) else zai p s
def setC (s:State) (n v:Int):State:=⟨s.tracks,zeR Switch.id n (fun t=>⟨t.id,t.lie,v⟩) s.switches,s.locks⟩
def callC (p:Pln) (s:State) (n v:Int):Int:=if zai p s=0 then (if isPnt p n=true then (if v=1∨v=2 then mayC p s n else 2) else 6) else zai p s
def callR (p:Pln) (s:State) (n v:Int):State:=if callC p s n v=0 then setC s n v else State.z
theorem zjC {α:Type} [Inhabited α] (f:α→Int) {l:List α} (hn:(l.map f).Nodup) {k:Nat} (hk:k<l.length) {n:Int} (e:f (nth l k)=n):(l.find? fun t=>decide (f t=n))=some (nth l k):=by
 subst e
 exact zl4 f hn (zae hk)
end Go.Lev
namespace Go.Lev
open Go.Eng
theorem zjq (n v m:Int) (hm:m≠n):∀ (l:List Switch) (C D:List (Int×Int)),zeM C m=zeM D m→zeM (zfU C (zeR Switch.id n (fun t=>⟨t.id,t.lie,v⟩) l)) m=zeM (zfU D l) m
 |[],_,_,h=>h
 |x::r,C,D,h=>by
  show zeM (zfU (zks C (if x.id=n then (⟨x.id,x.lie,v⟩:Switch) else x).id (if x.id=n then (⟨x.id,x.lie,v⟩:Switch) else x).call) (zeR Switch.id n (fun t=>⟨t.id,t.lie,v⟩) r)) m=zeM (zfU (zks D x.id x.call) r) m
  refine zjq n v m hm r _ _ ?_
  rw[zd8,zd8]
  by_cases hx:x.id=n
  ·rw[if_pos hx]
   dsimp only
   rw[if_neg (by omega),if_neg (by omega)]
   exact h
  ·rw[if_neg hx,h]
theorem zmb (s:State) {n m:Int} (v:Int) (hm:m≠n):zee (setC s n v) m=zee s m:=zjq n v m hm s.switches [] [] rfl
theorem znC {p:Pln} {s:State} {n v:Int} (h:zao p s=true) (hv:0≤v∧v≤2):zao p (setC s n v)=true:=by
 unfold zao at h ⊢
 simp only[Bool.and_eq_true,zdl]at h ⊢
 unfold setC
 simp only[zcO]
 refine ⟨h.1,⟨h.2.1.1,fun i hi=>?_⟩,h.2.2⟩
 have:=h.2.1.2 i hi
 unfold zeR
 rw[nthm (fun x=>if Switch.id x=n then (⟨x.id,x.lie,v⟩:Switch) else x) hi]
 simp only[zjX,zgc,Bool.and_eq_true,decide_eq_true_eq]at this ⊢
 split
 ·exact ⟨this.1,this.2.1,hv⟩
 ·exact this
theorem asl_lie {p:Pln} {s:State} (h:zai p s=0) {z:WL} (hz:z∈zof p s) {a:AskR} (ha:a∈asl z):a.lie=1∨a.lie=2:=by
 obtain ⟨i,hi,rfl⟩:=zjW h hz
 exact zpE h hi ha
theorem zo3 {p:Pln} {s:State} {n v:Int} (h:zai p s=0) (hn:nth (zaW p s).2.1 n.toNat=0) (hv:0≤v∧v≤2):zai p (setC s n v)=0:=by
 obtain ⟨h1,h2,h3,h4⟩:=(zfY p s).1 h
 refine (zfY p _).2 ⟨h1,znC h2 hv,h3,fun z hz a ha=>?_⟩
 have hne:a.pnt≠n:=fun e=>by
  have h5:=ask_at h hz ha
  have h6:=asl_lie h hz ha
  rw[e,hn]at h5
  omega
 rw[zmb s v hne]
 exact h4 z hz a ha
structure MayCall (p:Pln) (s:State) (n:Int):Prop where
 st:zai p s=0
 pt:isPnt p n=true
 ask:nth (zaW p s).2.1 n.toNat=0
 free:zdj s (zkl p n)=0
theorem MayCall.code {p:Pln} {s:State} {n v:Int} (h:MayCall p s n) (hv:v=1∨v=2):zai p (setC s n v)=0:=zo3 h.st h.ask (by omega)
theorem nth_inj {α:Type} [Inhabited α] (f:α→Int) {l:List α} (hn:(l.map f).Nodup) {i j:Nat} (hi:i<l.length) (hj:j<l.length) (e:f (nth l i)=f (nth l j)):i=j:=by
 have:=List.nodup_iff_pairwise_ne.1 hn
 rcases Nat.lt_trichotomy i j with hlt|he|hlt
 ·have:=List.pairwise_iff_getElem.1 this i j (by simpa using hi) (by simpa using hj) hlt
  simp only[List.getElem_map]at this
  rw[←zay hi,←zay hj]at this
  exact absurd e this
 ·exact he
 ·have:=List.pairwise_iff_getElem.1 this j i (by simpa using hj) (by simpa using hi) hlt
  simp only[List.getElem_map]at this
  rw[←zay hi,←zay hj]at this
  exact absurd e.symm this
theorem mem_nth {α:Type} [Inhabited α] {l:List α} {x:α} (h:x∈l):∃ k,k<l.length∧nth l k=x:=by
 obtain ⟨k,hk,e⟩:=List.mem_iff_getElem.1 h
 exact ⟨k,hk,by rw[zay hk];exact e⟩
end Go.Lev
namespace Go.Lev
open Go.Eng
set_option maxRecDepth 10000
set_option maxHeartbeats 4000000
variable {P:Program} {inv:Nat→Option Nat} {w0:World} {M:Nat→Prop}
theorem zpZ (hH:HasAll P inv) (l:List Track) (v:Track) (hl:l.length≤1000000000):PC P inv 184 [.sl 2 (l.map Track.c),.agg v.c] (·=.n (zbu (fun x=>decide (v.id=x.id)&&decide (v.is=x.is)) 0 l)):=by
 refine PC.fn hH cd184 fun w0 M Q hM hE hQ hR=>?_;dsimp only[cd184,qm,ql,qf,qi,qb,qc,qp,qv,qN,qT,qF,qt]at hQ ⊢
 (repeat' first|refine zaa [0,1,3,4,5,7,8,9,16] fun K hK=>?_|(refine hK.go ?_;clear hK K)|with_reducible exact wT|refine wA ?_|(refine wB (fun h=>?_) (fun h=>?_)<;>first|exact wN h|subst (h:(_:Bool)=_)|skip)|(refine wQ ?_;clear hQ hR hE hM)|fail)
 refine zaz (ι:=Nat) [0,3,4,7,8] (fun z=>[(8,.n z)]) (fun _=>[]) (fun z=>z) (l.length) (fun z=>(zbu (fun x=>decide (v.id=x.id)&&decide (v.is=x.is)) z (l.drop z)=zbu (fun x=>decide (v.id=x.id)&&decide (v.is=x.is)) 0 l)) (0) ?_;rintro k ⟨hk,hg⟩;(try dsimp only at hk hg ⊢);rcases Nat.lt_or_ge k l.length with hlt|hge
 ·rw[zag hlt]at hg
  rw[zbu]at hg
  cases ht:decide (v.id=(nth l k).id)&&decide (v.is=(nth l k).is) with
  |true =>
   rw[if_pos ht]at hg
   (have hX:=@ht;(repeat' first|refine zaa [0,1,3,4,5,7,8,9,16] fun K hK=>?_|(refine hK.go ?_;clear hK K)|with_reducible exact wT|refine wA ?_|(refine wB (fun h=>?_) (fun h=>?_)<;>first|exact wN h|subst (h:(_:Bool)=_)|skip)|(refine wQ ?_;clear hQ hR hE hM)|fail);all_goals clear hX)
   all_goals first|exact hg|(exfalso;contradiction)
  |false =>
   rw[if_neg (by rw[ht];simp)]at hg
   (have hX:=@ht;(repeat' first|refine zaa [0,1,3,4,5,7,8,9,16] fun K hK=>?_|(refine hK.go ?_;clear hK K)|with_reducible exact wT|refine wA ?_|(refine wB (fun h=>?_) (fun h=>?_)<;>first|exact wN h|subst (h:(_:Bool)=_)|skip)|(refine wQ ?_;clear hQ hR hE hM)|fail);all_goals clear hX)
   all_goals first|(exfalso;contradiction)|exact ⟨k+1,by omega,⟨by omega,hg⟩,by omega⟩
 ·rw[List.drop_eq_nil_of_le hge]at hg
  (repeat' first|refine zaa [0,1,3,4,5,7,8,9,16] fun K hK=>?_|(refine hK.go ?_;clear hK K)|with_reducible exact wT|refine wA ?_|(refine wB (fun h=>?_) (fun h=>?_)<;>first|exact wN h|subst (h:(_:Bool)=_)|skip)|(refine wQ ?_;clear hQ hR hE hM)|fail)
  rw[←hg];rfl
theorem zp0 (hH:HasAll P inv) (l:List Lock) (v:Lock) (hl:l.length≤1000000000):PC P inv 265 [.sl 4 (l.map Lock.c),.agg v.c] (·=.n (zbu (fun x=>decide (v.id=x.id)&&(decide (v.phase=x.phase)&&(decide (v.gone=x.gone)&&decide (v.left=x.left)))) 0 l)):=by
 refine PC.fn hH cd265 fun w0 M Q hM hE hQ hR=>?_;dsimp only[cd265,qm,ql,qf,qi,qb,qc,qp,qv,qN,qT,qF,qt]at hQ ⊢
 (repeat' first|refine zaa [0,1,3,4,5,7,8,9,16] fun K hK=>?_|(refine hK.go ?_;clear hK K)|with_reducible exact wT|refine wA ?_|(refine wB (fun h=>?_) (fun h=>?_)<;>first|exact wN h|subst (h:(_:Bool)=_)|skip)|(refine wQ ?_;clear hQ hR hE hM)|fail)
 refine zaz (ι:=Nat) [0,3,4,7,8] (fun z=>[(8,.n z)]) (fun _=>[]) (fun z=>z) (l.length) (fun z=>(zbu (fun x=>decide (v.id=x.id)&&(decide (v.phase=x.phase)&&(decide (v.gone=x.gone)&&decide (v.left=x.left)))) z (l.drop z)=zbu (fun x=>decide (v.id=x.id)&&(decide (v.phase=x.phase)&&(decide (v.gone=x.gone)&&decide (v.left=x.left)))) 0 l)) (0) ?_;rintro k ⟨hk,hg⟩;(try dsimp only at hk hg ⊢);rcases Nat.lt_or_ge k l.length with hlt|hge
 ·rw[zag hlt]at hg
  rw[zbu]at hg
  cases ht:(decide (v.id=(nth l k).id)&&(decide (v.phase=(nth l k).phase)&&(decide (v.gone=(nth l k).gone)&&decide (v.left=(nth l k).left)))) with
  |true =>
   rw[if_pos ht]at hg
   (have hX:=@ht;(repeat' first|refine zaa [0,1,3,4,5,7,8,9,16] fun K hK=>?_|(refine hK.go ?_;clear hK K)|with_reducible exact wT|refine wA ?_|(refine wB (fun h=>?_) (fun h=>?_)<;>first|exact wN h|subst (h:(_:Bool)=_)|skip)|(refine wQ ?_;clear hQ hR hE hM)|fail);all_goals clear hX)
   all_goals first|exact hg|(exfalso;contradiction)
  |false =>
   rw[if_neg (by rw[ht];simp)]at hg
   (have hX:=@ht;(repeat' first|refine zaa [0,1,3,4,5,7,8,9,16] fun K hK=>?_|(refine hK.go ?_;clear hK K)|with_reducible exact wT|refine wA ?_|(refine wB (fun h=>?_) (fun h=>?_)<;>first|exact wN h|subst (h:(_:Bool)=_)|skip)|(refine wQ ?_;clear hQ hR hE hM)|fail);all_goals clear hX)
   all_goals first|(exfalso;contradiction)|exact ⟨k+1,by omega,⟨by omega,hg⟩,by omega⟩
 ·rw[List.drop_eq_nil_of_le hge]at hg
  (repeat' first|refine zaa [0,1,3,4,5,7,8,9,16] fun K hK=>?_|(refine hK.go ?_;clear hK K)|with_reducible exact wT|refine wA ?_|(refine wB (fun h=>?_) (fun h=>?_)<;>first|exact wN h|subst (h:(_:Bool)=_)|skip)|(refine wQ ?_;clear hQ hR hE hM)|fail)
  rw[←hg];rfl
theorem has_trk (hH:HasAll P inv) (l:List Track) (v:Track) (hl:l.length≤1000000000):PC P inv 176 [.sl 2 (l.map Track.c),.agg v.c] (·=.b (l.any fun x=>decide (v.id=x.id)&&decide (v.is=x.is))):=by
 have c1:=zpZ hH l v hl
 have e:=ze0 (fun x:Track=>decide (v.id=x.id)&&decide (v.is=x.is)) l
 revert c1 e
 generalize zbu (fun x:Track=>decide (v.id=x.id)&&decide (v.is=x.is)) 0 l=i
 generalize (l.any fun x=>decide (v.id=x.id)&&decide (v.is=x.is))=t
 intro c1 e
 refine PC.fn hH cd176 fun w0 M Q hM hE hQ hR=>?_;dsimp only[cd176,qm,ql,qf,qi,qb,qc,qp,qv,qN,qT,qF,qt]at hQ ⊢
 (have hX:=@e;(repeat' first|refine zaa [0,1,3,4] fun K hK=>?_|(refine hK.go ?_;clear hK K)|with_reducible exact wT|refine wA ?_|(refine wB (fun h=>?_) (fun h=>?_)<;>first|exact wN h|subst (h:(_:Bool)=_)|skip)|(refine wQ ?_;clear hQ hR hE hM)|refine wC c1 ?_|fail);all_goals clear hX)
theorem has_lck (hH:HasAll P inv) (l:List Lock) (v:Lock) (hl:l.length≤1000000000):PC P inv 241 [.sl 4 (l.map Lock.c),.agg v.c] (·=.b (l.any fun x=>decide (v.id=x.id)&&(decide (v.phase=x.phase)&&(decide (v.gone=x.gone)&&decide (v.left=x.left))))):=by
 have c1:=zp0 hH l v hl
 have e:=ze0 (fun x:Lock=>decide (v.id=x.id)&&(decide (v.phase=x.phase)&&(decide (v.gone=x.gone)&&decide (v.left=x.left)))) l
 revert c1 e
 generalize zbu (fun x:Lock=>decide (v.id=x.id)&&(decide (v.phase=x.phase)&&(decide (v.gone=x.gone)&&decide (v.left=x.left)))) 0 l=i
 generalize (l.any fun x=>decide (v.id=x.id)&&(decide (v.phase=x.phase)&&(decide (v.gone=x.gone)&&decide (v.left=x.left))))=t
 intro c1 e
 refine PC.fn hH cd241 fun w0 M Q hM hE hQ hR=>?_;dsimp only[cd241,qm,ql,qf,qi,qb,qc,qp,qv,qN,qT,qF,qt]at hQ ⊢
 (have hX:=@e;(repeat' first|refine zaa [0,1,3,4] fun K hK=>?_|(refine hK.go ?_;clear hK K)|with_reducible exact wT|refine wA ?_|(refine wB (fun h=>?_) (fun h=>?_)<;>first|exact wN h|subst (h:(_:Bool)=_)|skip)|(refine wQ ?_;clear hQ hR hE hM)|refine wC c1 ?_|fail);all_goals clear hX)
theorem hasInt (hH:HasAll P inv) {jc:Nat} {caps:List AV} {q:Int→Bool} (l:List Int) (hc:∀ x∈l,PC P inv jc ([.n x]++caps) (·=.b (q x))) (hl:l.length≤1000000000):PC P inv 177 [.sl 1 (l.map zck),.fn jc caps] (·=.b (l.any q)):=by
 have c1:=idx_int hH l hc hl
 have e:=ze0 q l
 refine PC.fn hH cd177 fun w0 M Q hM hE hQ hR=>?_;dsimp only[cd177,qm,ql,qf,qi,qb,qc,qp,qv,qN,qT,qF,qt]at hQ ⊢
 (have hX:=@e;(repeat' first|refine zaa [0,1,4] fun K hK=>?_|(refine hK.go ?_;clear hK K)|with_reducible exact wT|refine wA ?_|(refine wB (fun h=>?_) (fun h=>?_)<;>first|exact wN h|subst (h:(_:Bool)=_)|skip)|(refine wQ ?_;clear hQ hR hE hM)|refine wC c1 ?_|fail);all_goals clear hX)
theorem hasSwt (hH:HasAll P inv) {jc:Nat} {caps:List AV} {q:Switch→Bool} (l:List Switch) (hc:∀ x∈l,PC P inv jc ([.agg x.c]++caps) (·=.b (q x))) (hl:l.length≤1000000000):PC P inv 238 [.sl 3 (l.map Switch.c),.fn jc caps] (·=.b (l.any q)):=by
 have c1:=idx_swt hH l hc hl
 have e:=ze0 q l
 refine PC.fn hH cd238 fun w0 M Q hM hE hQ hR=>?_;dsimp only[cd238,qm,ql,qf,qi,qb,qc,qp,qv,qN,qT,qF,qt]at hQ ⊢
 (have hX:=@e;(repeat' first|refine zaa [0,1,4] fun K hK=>?_|(refine hK.go ?_;clear hK K)|with_reducible exact wT|refine wA ?_|(refine wB (fun h=>?_) (fun h=>?_)<;>first|exact wN h|subst (h:(_:Bool)=_)|skip)|(refine wQ ?_;clear hQ hR hE hM)|refine wC c1 ?_|fail);all_goals clear hX)
theorem hasAsk (hH:HasAll P inv) {jc:Nat} {caps:List AV} {q:AskR→Bool} (l:List AskR) (hc:∀ x∈l,PC P inv jc ([.agg x.c]++caps) (·=.b (q x))) (hl:l.length≤1000000000):PC P inv 247 [.sl 3 (l.map AskR.c),.fn jc caps] (·=.b (l.any q)):=by
 have c1:=idx_ask hH l hc hl
 have e:=ze0 q l
 refine PC.fn hH cd247 fun w0 M Q hM hE hQ hR=>?_;dsimp only[cd247,qm,ql,qf,qi,qb,qc,qp,qv,qN,qT,qF,qt]at hQ ⊢
 (have hX:=@e;(repeat' first|refine zaa [0,1,4] fun K hK=>?_|(refine hK.go ?_;clear hK K)|with_reducible exact wT|refine wA ?_|(refine wB (fun h=>?_) (fun h=>?_)<;>first|exact wN h|subst (h:(_:Bool)=_)|skip)|(refine wQ ?_;clear hQ hR hE hM)|refine wC c1 ?_|fail);all_goals clear hX)
def frT (s:State) (n:Int):Bool:=s.tracks.any fun x=>decide (n=x.id)&&decide (0=x.is)
end Go.Lev
namespace Go.Lev
open Go.Eng
set_option maxRecDepth 10000
set_option maxHeartbeats 4000000
variable {P:Program} {inv:Nat→Option Nat} {w0:World} {M:Nat→Prop}
def zk3 (s:State) (n:Int):Int:=zbu (fun x=>decide (Lock.id x=n)) 0 s.locks
def zlK (H:List Int) (fr:Int→Bool):List Int→Int
 |[]=>0
 |x::r=>if nth H x.toNat=0 then (if fr x=true then zlK H fr r else 182) else 181
def askFr (p:Pln) (s:State) (A:List Int) (a:AskR):Bool:=decide (zee s a.pnt=a.lie)||(decide (nth A a.pnt.toNat=0)&&frT s (zkl p a.pnt))
def setE (p:Pln) (s:State) (i:Nat):Int :=
 if zlK (zaW p s).1 (frT s) ((zaq p (nth p.routes i)).1.path++(zaq p (nth p.routes i)).1.over)=0 then (if (zaq p (nth p.routes i)).1.asks.all (askFr p s (zaW p s).2.1)=true then 0 else 183)
 else zlK (zaW p s).1 (frT s) ((zaq p (nth p.routes i)).1.path++(zaq p (nth p.routes i)).1.over)
def lkC (p:Pln) (s:State) (n:Int):Int:=if zai p s=0 then (if zk3 s n<0 then 6 else if (nth s.locks (zk3 s n).toNat).phase=0 then setE p s (zk3 s n).toNat else 180) else zai p s
def lkW (p:Pln) (s:State) (n:Int):WayR:=if zai p s=0 then (if zk3 s n<0 then WayR.z else if (nth s.locks (zk3 s n).toNat).phase=0 then (zaq p (nth p.routes (zk3 s n).toNat)).1 else WayR.z) else WayR.z
def askE (ok:AskR→Bool):Int→List AskR→Int
 |e,[]=>e
 |e,a::r=>askE ok (if e=0 then (if ok a=true then 0 else 183) else e) r
end Go.Lev
namespace Go.Lev
open Go.Eng
set_option maxRecDepth 10000
set_option maxHeartbeats 4000000
variable {P:Program} {inv:Nat→Option Nat} {w0:World} {M:Nat→Prop}
def zcf (q:List AskR) (l:List Switch):List Switch:=q.foldl (fun l a=>zeR Switch.id a.pnt (fun t=>⟨t.id,t.lie,a.lie⟩) l) l
theorem zn9 (q:List AskR):∀ l:List Switch,(zcf q l).map Switch.id=l.map Switch.id:=by
 induction q with
 |nil=>intro l;rfl
 |cons a q ih=>intro l;show (zcf q _).map Switch.id=_;rw[ih,ziW Switch.id a.pnt (fun t=>⟨t.id,t.lie,a.lie⟩) (fun _=>rfl)]
theorem ziN (q:List AskR) (l:List Switch):(zcf q l).length=l.length:=by
 have:=congrArg List.length (zn9 q l)
 simpa using this
theorem zn7 (l:List Switch):zcf [] l=l:=rfl
attribute [go_sem] zn7
def zi7 (s:State) (n:Int) (q:List AskR):State:=⟨s.tracks,zcf q s.switches,zeR Lock.id n (fun l=>⟨l.id,1,l.gone,l.left⟩) s.locks⟩
def k1At (n:Int) (_:Nat) (l:Lock):Lock:=if l.id=n then ⟨l.id,1,l.gone,l.left⟩ else l
end Go.Lev
namespace Go.Lev
open Go.Eng
set_option maxRecDepth 10000
set_option maxHeartbeats 4000000
variable {P:Program} {inv:Nat→Option Nat} {w0:World} {M:Nat→Prop}
section
variable {L:List Lock} {k:Nat} (h:k<L.length)
include h
end
section
variable {L:List Lock} {k:Nat} (h:k<L.length) (x:Lock)
include h
end
def tickL (l:Lock):Lock:=if l.left=0 then l else if l.left-1=0 then ⟨l.id,0,0,0⟩ else ⟨l.id,l.phase,l.gone,l.left-1⟩
def tickS (s:State):State:=⟨s.tracks,s.switches,s.locks.map tickL⟩
def tickR (p:Pln) (s:State):State:=if zai p s=0 then tickS s else State.z
end Go.Lev
namespace Go.Lev
open Go.Eng
set_option maxRecDepth 10000
set_option maxHeartbeats 4000000
variable {P:Program} {inv:Nat→Option Nat} {w0:World} {M:Nat→Prop}
def emptyB (s:State) (w:WayR) (l:Lock):Bool:=!((w.path.drop l.gone.toNat).any fun m=>!frT s m)
def cnC0 (s:State) (w:WayR) (l:Lock):Int:=if l.phase=0 then 220 else if l.phase=1 then 0 else if l.phase=2∧emptyB s w l=true then 0 else 221
def cnL (s:State) (w:WayR) (r:Rte) (l:Lock) (n:Int):Lock:=if l.phase=1∧frT s w.near=false then ⟨n,4,0,r.timer⟩ else ⟨n,0,0,0⟩
def cnC (p:Pln) (s:State) (n:Int):Int:=if zai p s=0 then (if zk3 s n<0 then 6 else cnC0 s (zaq p (nth p.routes (zk3 s n).toNat)).1 (nth s.locks (zk3 s n).toNat)) else zai p s
def cnS (p:Pln) (s:State) (n:Int):State:=⟨s.tracks,s.switches,s.locks.set (zk3 s n).toNat (cnL s (zaq p (nth p.routes (zk3 s n).toNat)).1 (nth p.routes (zk3 s n).toNat) (nth s.locks (zk3 s n).toNat) n)⟩
def cnR (p:Pln) (s:State) (n:Int):State:=if cnC p s n=0 then cnS p s n else State.z
end Go.Lev
namespace Go.Lev
open Go.Eng
set_option maxRecDepth 10000
set_option maxHeartbeats 4000000
variable {P:Program} {inv:Nat→Option Nat} {w0:World} {M:Nat→Prop}
def stepL (r:Rte) (is:Int→Int) (l:Lock):Lock :=
 if l.phase=1∨l.phase=4 then (if (r.path.any fun n=>decide (is n=1))=true then ⟨l.id,2,0,0⟩ else l)
 else if l.phase=2 then
  (if l.gone<(r.path.length:Int)-1∧is (nth r.path l.gone.toNat)=0∧is (nth r.path (l.gone.toNat+1))=1 then ⟨l.id,l.phase,l.gone+1,l.left⟩
   else if l.gone=(r.path.length:Int)-1∧is (nth r.path (r.path.length-1))=1 then ⟨l.id,3,(r.path.length:Int)-1,r.timer⟩
   else if l.gone=(r.path.length:Int)-1∧is (nth r.path (r.path.length-1))=0 then ⟨l.id,0,0,0⟩
   else l)
 else if l.phase=3 then (if is (nth r.path (r.path.length-1))=0 then ⟨l.id,0,0,0⟩ else l)
 else l
end Go.Lev
namespace Go.Eng
section
variable {P:Program} {inv:Nat→Option Nat} {w0:World} {M:Nat→Prop} {n N:Nat} {φ φ0:AF} {σ σ0:AS}
end
end Go.Eng
namespace Go.Lev
open Go.Eng
set_option maxRecDepth 10000
set_option maxHeartbeats 4000000
variable {P:Program} {inv:Nat→Option Nat} {w0:World} {M:Nat→Prop}
def rankL (r:Rte) (l:Lock):Nat:=if l.phase=1∨l.phase=4 then r.path.length+3 else if l.phase=2 then 2+((r.path.length:Int)-1-l.gone).toNat else if l.phase=3 then 1 else 0
def zoY (r:Rte) (is:Int→Int):Nat→Lock→Lock
 |0,l=>l
 |m+1,l=>if stepL r is l=l then l else zoY r is m (stepL r is l)
def settleL (r:Rte) (is:Int→Int) (l:Lock):Lock:=zoY r is (rankL r l) l
end Go.Lev
namespace Go.Lev
open Go.Eng
set_option maxRecDepth 10000
set_option maxHeartbeats 4000000
variable {P:Program} {inv:Nat→Option Nat} {w0:World} {M:Nat→Prop}
def setlF (p:Pln) (s:State) (i:Nat) (l:Lock):Lock:=settleL (nth p.routes i) (zdj s) l
def setlS (p:Pln) (s:State):State:=⟨s.tracks,s.switches,s.locks.mapIdx (setlF p s)⟩
theorem isOf_at2 {p:Pln} {s:State} (ho:OkP p) (h:zao p s=true) {k:Nat} (hk:k<s.tracks.length):zdj s (nth s.tracks k).id=(nth s.tracks k).is:=by
 unfold zdj
 rw[zjC Track.id (by rw[zoB h];exact zj4 ho) hk rfl]
def setlR (p:Pln) (s:State):State:=if zai p s=0 then setlS p s else State.z
end Go.Lev
namespace Go.Lev
open Go.Eng
set_option maxRecDepth 10000
set_option maxHeartbeats 4000000
variable {P:Program} {inv:Nat→Option Nat} {w0:World} {M:Nat→Prop}
def lkS (p:Pln) (s:State) (n:Int):State:=if lkC p s n=0 then zi7 s n (lkW p s n).asks else State.z
end Go.Lev
namespace Go.Eng
structure ActD where
 kind:Int
 id:Int
 value:Int
 data:List Int
 deriving DecidableEq,Inhabited
def byte1 (x:Int):List AV:=[.i .u8 x]
instance:Cells byte1 1:=⟨fun _=>rfl,fun _=>rfl⟩
def ActD.c (x:ActD):List AV:=[.i .u8 x.kind,.n x.id,.n x.value,.sl 1 (x.data.map byte1)]
instance:Cells ActD.c 4:=⟨fun _=>rfl,fun _=>rfl⟩
theorem rep7 {α:Type} (a:α):List.replicate 7 a=[a,a,a,a,a,a,a]:=rfl
attribute [go_sem] byte1 ActD.c rep7
end Go.Eng
namespace Go.Lev
open Go.Eng
set_option maxRecDepth 10000
set_option maxHeartbeats 2000000
variable {P:Program} {inv:Nat→Option Nat} {w0:World} {M:Nat→Prop}
def actC (p:Pln) (s:State) (a:ActD):Int :=
 if a.kind=1 then zo8 p s a.id a.value else if a.kind=2 then zqz p s a.id a.value else if a.kind=3 then zai p s
 else if a.kind=4 then callC p s a.id a.value else if a.kind=5 then lkC p s a.id else if a.kind=6 then cnC p s a.id else 2
def actS (p:Pln) (s:State) (a:ActD):State :=
 if a.kind=1 then secR p s a.id a.value else if a.kind=2 then detR p s a.id a.value else if a.kind=3 then tickR p s
 else if a.kind=4 then callR p s a.id a.value else if a.kind=5 then lkS p s a.id else if a.kind=6 then cnR p s a.id else State.z
def doC (p:Pln) (s:State) (a:ActD):Int:=if zai p s=0 then (if actC p s a=0 then zai p (actS p s a) else actC p s a) else zai p s
def doR (p:Pln) (s:State) (a:ActD):State:=if zai p s=0 then (if actC p s a=0 then setlR p (actS p s a) else State.z) else State.z
end Go.Lev
