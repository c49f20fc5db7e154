/-
  A part of the engine that walks the functions' codes, and of the functions' contracts. Conditions: those that each theorem names.
-/
import Derived.Test.YtjgelcegjmfgnaaGreatL6
import Derived.IntWalk
set_option linter.unusedSimpArgs false
set_option linter.unusedVariables false
set_option linter.unusedSectionVars false
namespace Go.Lev
open Go.Eng
theorem zpn {p:Pln} {s:State} (h:zai p s=true):(zof p s).length=s.locks.length:=by
 have:=zag h
 simp only[zof,List.length_zip,zaD,List.length_map]
 omega
theorem zgg {p:Pln} {s:State} (h:zai p s=true) {i:Nat} (hi:i<(zof p s).length):(zof p s)[i]=((zak p (nth p.routes i)).1,nth s.locks i):=by
 have h1:=zpn h
 have h2:=zag h
 simp[zof,zaD,zaK (show i<p.routes.length by omega),zaK (show i<s.locks.length by omega)]
theorem zl9 {p:Pln} {s:State} (h:zai p s=true):znt (zof p s)↔∀ i j,i<s.locks.length→j<s.locks.length→i≠j→∀ m∈zgd p s i,m∉zgd p s j:=by
 have hl:=zpn h
 unfold znt
 rw[List.pairwise_iff_getElem]
 constructor
 ·intro hp i j hi hj hne m hm hm'
  rcases Nat.lt_trichotomy i j with hlt|e|hlt
  ·have:=hp i j (by omega) (by omega) hlt
   rw[zgg h,zgg h]at this
   exact this m hm hm'
  ·exact hne e
  ·have:=hp j i (by omega) (by omega) hlt
   rw[zgg h,zgg h]at this
   exact this m hm' hm
 ·intro hp i j hi hj hlt
  rw[zgg h,zgg h]
  exact hp i j (by omega) (by omega) (by omega)
theorem zhf {p:Pln} {s:State} (h:zai p s=true):zol s (zof p s)↔∀ i,i<s.locks.length→∀ a∈zrG p s i,zcN s a.pnt=a.lie:=by
 have h2:=zag h
 constructor
 ·intro hp i hi a ha
  exact hp _ (zof_at h (by omega)) a ha
 ·intro hp z hz a ha
  obtain ⟨i,r,_,hi,e1,e2,_,e3,_⟩:=zgf h hz
  refine hp i (by omega) a ?_
  unfold zrG
  rw[e1,e2,←e3]
  exact ha
theorem zfp {p:Pln} {s:State}:zac p s=0↔zbH p=true∧zai p s=true∧(∀ i j,i<s.locks.length→j<s.locks.length→i≠j→∀ m∈zgd p s i,m∉zgd p s j)∧∀ i,i<s.locks.length→∀ a∈zrG p s i,zcN s a.pnt=a.lie:=by
 rw[zgn]
 constructor
 ·rintro ⟨h1,h2,h3,h4⟩;exact ⟨h1,h2,(zl9 h2).1 h3,(zhf h2).1 h4⟩
 ·rintro ⟨h1,h2,h3,h4⟩;exact ⟨h1,h2,(zl9 h2).2 h3,(zhf h2).2 h4⟩
theorem zf1 (s:State) (n:Int):zcN s n=ze6 s.switches n:=rfl
theorem zjJ (q:List AskR):∀ (l:List Switch) (k:Nat),k<l.length→(nth (za4 q l) k).id=(nth l k).id∧(nth (za4 q l) k).lie=(nth l k).lie∧((nth (za4 q l) k).call=(nth l k).call∨∃ a∈q,a.pnt=(nth l k).id∧(nth (za4 q l) k).call=a.lie):=by
 induction q with
 |nil=>intro l k _;exact ⟨rfl,rfl,.inl rfl⟩
 |cons b q ih =>
  intro l k hk
  have h1:=ih (zcP Switch.id b.pnt (fun t=>⟨t.id,t.lie,b.lie⟩) l) k (by rw[za0];exact hk)
  have h2:nth (zcP Switch.id b.pnt (fun t=>(⟨t.id,t.lie,b.lie⟩:Switch)) l) k=if (nth l k).id=b.pnt then ⟨(nth l k).id,(nth l k).lie,b.lie⟩ else nth l k:=by
   unfold zcP
   exact zjw (fun x=>if Switch.id x=b.pnt then (⟨x.id,x.lie,b.lie⟩:Switch) else x) hk
  rw[show za4 (b::q) l=za4 q (zcP Switch.id b.pnt (fun t=>⟨t.id,t.lie,b.lie⟩) l) from rfl]
  rw[h2]at h1
  by_cases e:(nth l k).id=b.pnt
  ·rw[if_pos e]at h1
   dsimp only at h1
   refine ⟨h1.1,h1.2.1,.inr ?_⟩
   rcases h1.2.2 with h3|⟨a,ha,h3,h4⟩
   ·exact ⟨b,by simp,e.symm,h3⟩
   ·exact ⟨a,by simp[ha],h3,h4⟩
  ·rw[if_neg e]at h1
   refine ⟨h1.1,h1.2.1, ?_⟩
   rcases h1.2.2 with h3|⟨a,ha,h3,h4⟩
   ·exact .inl h3
   ·exact .inr ⟨a,by simp[ha],h3,h4⟩
section
variable {p:Pln} {s:State} {i:Nat} (h:zac p s=0) (hi:i<s.locks.length) (hph:(nth s.locks i).phase=0)
include h hi
theorem zfA {n:Int} (hid:(nth s.locks i).id=n) (q:List AskR) {j:Nat} (hj:j<s.locks.length):nth (zga s n q).locks j=if j=i then ⟨n,1,(nth s.locks i).gone,(nth s.locks i).left⟩ else nth s.locks j:=by
 show nth (zcP Lock.id n (fun l=>⟨l.id,1,l.gone,l.left⟩) s.locks) j=_
 have h2:nth (zcP Lock.id n (fun l=>(⟨l.id,1,l.gone,l.left⟩:Lock)) s.locks) j=if (nth s.locks j).id=n then ⟨(nth s.locks j).id,1,(nth s.locks j).gone,(nth s.locks j).left⟩ else nth s.locks j:=by
  unfold zcP
  exact zjw (fun x=>if Lock.id x=n then (⟨x.id,1,x.gone,x.left⟩:Lock) else x) hj
 rw[h2]
 by_cases e:j=i
 ·subst e;rw[if_pos hid,if_pos rfl,hid]
 ·rw[if_neg e,if_neg (fun e2=>e (zkx h hj hi (e2.trans hid.symm)))]
include hph
theorem zfF:(nth s.locks i).gone=0∧(nth s.locks i).left=0:=by
 have:=zbR (zab h).2.1 hi
 simp only[zbs,zaq,hph,Bool.and_eq_true]at this
 simpa using this.2
theorem zoz {n:Int} (hid:(nth s.locks i).id=n):zai p (zga s n (zak p (nth p.routes i)).1.asks)=true:=by
 have hpa:=(zab h).2.1
 have hok:=zae h
 have hl:=zag hpa
 have hp2:=hpa
 unfold zai at hpa ⊢
 simp only[Bool.and_eq_true,zbf]at hpa ⊢
 refine ⟨hpa.1,⟨by show (za4 _ _).length=_;rw[zda];exact hpa.2.1.1,fun k hk=>?_⟩,by show (zcP _ _ _ _).length=_;rw[za0];exact hpa.2.2.1,fun k hk=>?_⟩
 ·have hk':k<s.switches.length:=by have:k<(za4 (zak p (nth p.routes i)).1.asks s.switches).length:=hk;rw[zda]at this;exact this
  have h1:=hpa.2.1.2 k hk'
  have h2:=zjJ (zak p (nth p.routes i)).1.asks s.switches k hk'
  show zgl (nth (za4 _ s.switches) k) _=true
  simp only[zgl,zer,Bool.and_eq_true,decide_eq_true_eq]at h1 ⊢
  refine ⟨h2.1.trans h1.1,by rw[h2.2.1];exact h1.2.1, ?_⟩
  rcases h2.2.2 with e|⟨a,ha,_,e⟩
  ·rw[e];exact h1.2.2
  ·have:=(zbz hok (zad (show i<p.routes.length by omega)) ha).2.2
   rw[e];omega
 ·have hk':k<s.locks.length:=by have:k<(zcP Lock.id n (fun l=>(⟨l.id,1,l.gone,l.left⟩:Lock)) s.locks).length:=hk;rw[za0]at this;exact this
  rw[zfA h hi hid _ hk']
  have h1:=hpa.2.2.2 k hk'
  split
  ·rename_i e
   subst e
   have hr:=zfF h hi hph
   simp only[zbs,zaq,Bool.and_eq_true,decide_eq_true_eq]at h1 ⊢
   refine ⟨hid▸h1.1, ?_⟩
   simp[hr.1,hr.2]
  ·exact h1
theorem zpW {n:Int} (hid:(nth s.locks i).id=n) (hf:∀ m∈(zak p (nth p.routes i)).1.path++(zak p (nth p.routes i)).1.over,nth (zav p s).1 m.toNat=0)
  (hk:∀ a∈(zak p (nth p.routes i)).1.asks,zcN s a.pnt=a.lie∨nth (zav p s).2.1 a.pnt.toNat=0):zac p (zga s n (zak p (nth p.routes i)).1.asks)=0:=by
 have h':=zfp.1 h
 obtain ⟨h1,h2,h3,h4⟩:=h'
 have hok:=zae h
 have hl:=zag h2
 have hr:=zfF h hi hph
 have hsl:(zga s n (zak p (nth p.routes i)).1.asks).locks.length=s.locks.length:=za0 _ _ _ _
 have hwr:nth p.routes i∈p.routes:=zad (by omega)
 have hd:∀ j,j<s.locks.length→zgd p (zga s n (zak p (nth p.routes i)).1.asks) j=if j=i then (zak p (nth p.routes i)).1.path++(zak p (nth p.routes i)).1.over else zgd p s j:=fun j hj=>by
  unfold zgd
  rw[zfA h hi hid _ hj]
  by_cases e:j=i
  ·subst e
   rw[if_pos rfl,if_pos rfl]
   unfold zbk
   rw[if_neg (by dsimp only;omega)]
   dsimp only
   rw[hr.1];rfl
  ·rw[if_neg e,if_neg e]
 have ha:∀ j,j<s.locks.length→zrG p (zga s n (zak p (nth p.routes i)).1.asks) j=if j=i then (zak p (nth p.routes i)).1.asks else zrG p s j:=fun j hj=>by
  unfold zrG
  rw[zfA h hi hid _ hj]
  by_cases e:j=i
  ·subst e
   rw[if_pos rfl,if_pos rfl]
   unfold zbQ
   rw[if_neg (by dsimp only;omega)]
   refine List.filter_eq_self.2 fun a _=>?_
   simp only[zcU,hr.1,Bool.or_eq_true,decide_eq_true_eq]
   omega
  ·rw[if_neg e,if_neg e]
 have hnd:(s.switches.map Switch.id).Nodup:=by rw[zcR h2];exact zbF hok
 refine zfp.2 ⟨h1,zoz h hi hph hid,fun a b ha' hb' hne m hm hm'=>?_,fun j hj a haj=>?_⟩
 ·rw[hsl]at ha' hb'
  rw[hd a ha']at hm
  rw[hd b hb']at hm'
  have free:∀ j,j<s.locks.length→∀ m∈(zak p (nth p.routes i)).1.path++(zak p (nth p.routes i)).1.over,m∉zgd p s j:=fun j hj m hm hm'=>by
   have e1:=hf m hm
   have e2:=zm2 h (zik h hj) hm'
   have:=zmT h hj
   rw[e1]at e2
   dsimp only at e2
   omega
  by_cases e:a=i
  ·rw[if_pos e]at hm
   rw[if_neg (fun e2=>hne (e.trans e2.symm))]at hm'
   exact free b hb' m hm hm'
  ·rw[if_neg e]at hm
   by_cases e2:b=i
   ·rw[if_pos e2]at hm'
    exact free a ha' m hm' hm
   ·rw[if_neg e2]at hm'
    exact h3 a b ha' hb' hne m hm hm'
 ·rw[hsl]at hj
  rw[ha j hj]at haj
  rw[zf1]
  show ze6 (za4 _ s.switches) a.pnt=_
  by_cases e:j=i
  ·rw[if_pos e]at haj
   refine zf0 _ _ hnd (zgR h1 hwr) a haj ?_
   obtain ⟨x,hx,ex⟩:=(zbz hok hwr haj).1
   rw[zcR h2,←ex]
   exact List.mem_map_of_mem hx
  ·rw[if_neg e]at haj
   have h5:=h4 j hj a haj
   rcases Classical.em (∃ b∈(zak p (nth p.routes i)).1.asks,b.pnt=a.pnt) with ⟨b,hb,eb⟩|hno
   ·have h6:=zf0 _ s.switches hnd (zgR h1 hwr) b hb (by
     obtain ⟨x,hx,ex⟩:=(zbz hok hwr hb).1
     rw[zcR h2,←ex]
     exact List.mem_map_of_mem hx)
    rw[←eb,h6]
    rcases hk b hb with h7|h7
    ·rw[←h7,eb];exact h5
    ·rw[eb,ask_is h hj haj]at h7
     have:=zqy h hj haj
     omega
   ·rw[zgM _ _ fun b hb e=>hno ⟨b,hb,e⟩]
    exact h5
end
end Go.Lev
namespace Go.Lev
open Go.Eng
theorem ziF {p:Pln} {s:State} (ho:OkP p) (h:zai p s=true) (n:Int):frT s n=decide (zbB s n=0):=by
 rw[Bool.eq_iff_iff,decide_eq_true_eq]
 constructor
 ·intro h1
  obtain ⟨x,hx,e⟩:=List.any_eq_true.1 h1
  simp only[Bool.and_eq_true,decide_eq_true_eq]at e
  obtain ⟨k,hk,rfl⟩:=zdv hx
  rw[e.1,zmX ho h hk];exact e.2.symm
 ·intro h1
  unfold zbB at h1
  cases e:s.tracks.find? fun t=>decide (t.id=n) with
  |none=>rw[e]at h1;exact absurd h1 (by decide)
  |some t =>
   rw[e]at h1
   have h2:=List.find?_some e
   exact List.any_eq_true.2 ⟨t,List.mem_of_find?_eq_some e,by
    simp only[Bool.and_eq_true,decide_eq_true_eq]
    exact ⟨(show t.id=n by simpa using h2).symm,h1.symm⟩⟩
theorem zkt {p:Pln} {s:State} (h:zac p s=0) {i:Nat} (hi:i<s.locks.length) {n:Int} (hid:(nth s.locks i).id=n):ze0 s n=(i:Int):=by
 unfold ze0
 rcases zaQ Lock.id n s.locks with ⟨_,h4⟩|⟨k,hk,h4,h5⟩
 ·exact absurd hid (h4 _ (zad hi))
 ·rw[h4,zkx h hk hi (h5.trans hid.symm)]
theorem zqx {p:Pln} {s:State} (h:zac p s=0) {i:Nat} (hi:i<s.locks.length) {n:Int} (hid:(nth s.locks i).id=n):lkC p s n=if (nth s.locks i).phase=0 then setE p s i else 180:=by
 unfold lkC
 rw[if_pos h,zkt h hi hid,if_neg (by omega),Int.toNat_natCast]
theorem lkC_no {p:Pln} {s:State} (h:zac p s=0) {n:Int} (hid:∀ x∈s.locks,x.id≠n):lkC p s n=6:=by
 unfold lkC
 rw[if_pos h,if_pos]
 unfold ze0
 rcases zaQ Lock.id n s.locks with ⟨h3,_⟩|⟨k,hk,h4,h5⟩
 ·rw[h3];decide
 ·exact absurd h5 (hid _ (zad hk))
def leF (p:Pln) (s:State) (n e:Int) (w:WayR) (H A:Int→Int):Bool :=
 zeq (fun i _ zdk=>cond (!decide ((nth s.locks i).id=n)) (zdk ())
   (cond (!decide ((nth s.locks i).phase=0)) (decide (e=180))
    (zeq (fun k _ next2=>cond (!decide (H (nth (w.path++w.over) k)=0)) (decide (e=181)) (cond (!decide (zbB s (nth (w.path++w.over) k)=0)) (decide (e=182)) (next2 ())))
     (fun _=>zeq (fun k _ next3 =>
       zeq (fun m _ next4=>cond (decide ((nth s.switches m).id=(nth w.asks k).pnt)&&!decide ((nth s.switches m).call=(nth w.asks k).lie)&&(!decide (A (nth s.switches m).id=0)||!decide (zbB s (nth p.points m).sec=0))) (decide (e=183)) (next4 ()))
        (fun _=>next3 ()) s.switches.length 0 ())
      (fun _=>decide (e=0)) w.asks.length 0 ()) (w.path++w.over).length 0 ())))
  (fun _=>decide (e=6)) s.locks.length 0 ()
theorem zjX {p:Pln} {s:State} (h:zai p s=true) {k:Nat} (hk:k<s.switches.length):(nth s.switches k).id=(nth p.points k).id:=by
 have:=(zbf _ _ _).1 (by simp only[zai,Bool.and_eq_true]at h;exact h.2.1)
 have:=this.2 k hk
 simp only[zgl,Bool.and_eq_true,decide_eq_true_eq]at this
 exact this.1
end Go.Lev
namespace Go.Lev
open Go.Eng
set_option maxRecDepth 10000
set_option maxHeartbeats 4000000
variable {P:Program} {inv:Nat→Option Nat} {w0:World} {M:Nat→Prop}
section
variable {L:List Lock} {k:Nat} (h:k<L.length)
include h
theorem zfd (v:Int):(L.map Lock.c).flatten.set (k*4) (.i .i64 v)=((L.set k ⟨v,(nth L k).phase,(nth L k).gone,(nth L k).left⟩).map Lock.c).flatten:=by
 have:=zbo (c:=Lock.c) (l:=L) (k:=k) (i:=0) h (by omega) (.i .i64 v) ⟨v,(nth L k).phase,(nth L k).gone,(nth L k).left⟩ rfl
 simpa using this
theorem lk_set1 (v:Int):(L.map Lock.c).flatten.set (k*4+1) (.i .u8 v)=((L.set k ⟨(nth L k).id,v,(nth L k).gone,(nth L k).left⟩).map Lock.c).flatten :=
 zbo (c:=Lock.c) (l:=L) (k:=k) (i:=1) h (by omega) (.i .u8 v) ⟨(nth L k).id,v,(nth L k).gone,(nth L k).left⟩ rfl
theorem lk_set2 (v:Int):(L.map Lock.c).flatten.set (k*4+2) (.i .i64 v)=((L.set k ⟨(nth L k).id,(nth L k).phase,v,(nth L k).left⟩).map Lock.c).flatten :=
 zbo (c:=Lock.c) (l:=L) (k:=k) (i:=2) h (by omega) (.i .i64 v) ⟨(nth L k).id,(nth L k).phase,v,(nth L k).left⟩ rfl
theorem zmQ (v:Int):(L.map Lock.c).flatten.set (k*4+3) (.i .i64 v)=((L.set k ⟨(nth L k).id,(nth L k).phase,(nth L k).gone,v⟩).map Lock.c).flatten :=
 zbo (c:=Lock.c) (l:=L) (k:=k) (i:=3) h (by omega) (.i .i64 v) ⟨(nth L k).id,(nth L k).phase,(nth L k).gone,v⟩ rfl
theorem zmR:(L.map Lock.c).flatten[k*4]?=some (.i .i64 (nth L k).id):=fget0 (c:=Lock.c) (l:=L) h (by omega)
theorem zgE:(L.map Lock.c).flatten[k*4+1]?=some (.i .u8 (nth L k).phase):=zeL (c:=Lock.c) (l:=L) (i:=1) h (by omega)
theorem zgD:(L.map Lock.c).flatten[k*4+2]?=some (.i .i64 (nth L k).gone):=zeL (c:=Lock.c) (l:=L) (i:=2) h (by omega)
theorem zks:(L.map Lock.c).flatten[k*4+3]?=some (.i .i64 (nth L k).left):=zeL (c:=Lock.c) (l:=L) (i:=3) h (by omega)
theorem zfc (x:Lock):nth (L.set k x) k=x:=by rw[za7 _ _ _ _ h,if_pos rfl]
end
theorem zj6 (L:List Lock) (k:Nat) (x y:Lock):(L.set k x).set k y=L.set k y:=by rw[List.set_set]
section
variable {L:List Lock} {k:Nat} (h:k<L.length) (x:Lock)
include h
theorem zkr (v:Int):((L.set k x).map Lock.c).flatten.set (k*4) (.i .i64 v)=((L.set k ⟨v,x.phase,x.gone,x.left⟩).map Lock.c).flatten:=by rw[zfd (by simpa using h),zfc h,zj6]
theorem zc3 (v:Int):((L.set k x).map Lock.c).flatten.set (k*4+1) (.i .u8 v)=((L.set k ⟨x.id,v,x.gone,x.left⟩).map Lock.c).flatten:=by rw[lk_set1 (by simpa using h),zfc h,zj6]
theorem zc2 (v:Int):((L.set k x).map Lock.c).flatten.set (k*4+2) (.i .i64 v)=((L.set k ⟨x.id,x.phase,v,x.left⟩).map Lock.c).flatten:=by rw[lk_set2 (by simpa using h),zfc h,zj6]
theorem zc1 (v:Int):((L.set k x).map Lock.c).flatten.set (k*4+3) (.i .i64 v)=((L.set k ⟨x.id,x.phase,x.gone,v⟩).map Lock.c).flatten:=by rw[zmQ (by simpa using h),zfc h,zj6]
theorem znX:((L.set k x).map Lock.c).flatten[k*4]?=some (.i .i64 x.id):=by rw[zmR (by simpa using h),zfc h]
theorem znW:((L.set k x).map Lock.c).flatten[k*4+3]?=some (.i .i64 x.left):=by rw[zks (by simpa using h),zfc h]
end
def zcQ (l:Lock):Lock:=if l.left=0 then l else if l.left-1=0 then ⟨l.id,0,0,0⟩ else ⟨l.id,l.phase,l.gone,l.left-1⟩
def zjT (s:State):State:=⟨s.tracks,s.switches,s.locks.map zcQ⟩
theorem zlA {α:Type} (f:α→α) (l:List α):l.mapIdx (fun _ x=>f x)=l.map f:=by
 refine List.ext_getElem (by simp) fun i h1 h2=>by simp
theorem updI_id {α:Type} [Inhabited α] (f:Nat→α→α) {k:Nat} {l:List α} (h:k<l.length) (e:f k (nth l k)=nth l k):zdz f k l=zdz f (k+1) l:=by
 have e1:=zcv f h
 rw[e,←zby f h,zaK (by rw[zbm];exact h),List.set_getElem_self]at e1
 exact e1
theorem tick_po (hH:HasAll P inv) (hI:HasIds P inv) (p:Pln) (hp:Sm p) (s:State) (hs:SmS s) (he:zac p s=0):PO P inv 163 [.agg p.c,.agg s.c] (.tup [zf8 5 (zjT s),.n 0]) (zf9 5 (zjT s)):=by
 have c0:=zaT hH hI p hp s hs
 rw[he]at c0
 have c1:=zbD hH s hs
 have hlf:∀ k,k<s.locks.length→0≤(nth s.locks k).left∧(nth s.locks k).left≤9:=fun k hk=>by
  have hpa:=(zab he).2.1
  have hpl:=zag hpa
  have h1:=zkw (zbR hpa hk)
  have h2:=zdm (zae he) (zad (show k<p.routes.length by omega))
  omega
 obtain ⟨h1,h2,h3⟩:=hs
 unfold stV stR at c1
 refine PO.fn hH cd163 fun w0 M Q hM hE hQ hR=>?_;dsimp only[cd163,qm,ql,qf,qi,qb,qc,qp,qv,qN,qT,qF,qt]at hQ ⊢
 (repeat' first|refine zaa [0,1,2,3,4,5,6,7,8,13,20,21,22,32,44] fun K hK=>?_|(refine hK.go ?_;clear hK K)|with_reducible exact wT|refine wA ?_|(refine wB (fun h=>?_) (fun h=>?_)<;>first|exact wN h|subst (h:(_:Bool)=_)|skip)|(refine wR ?_;clear hQ hR hE hM)|refine wC c0 ?_|refine wO c1 ?_|fail)
 all_goals first|(exfalso;contradiction)|skip
 refine zap (ι:=Nat) [3,4,5,20,21] (fun z=>[(21,.n z)]) (fun z=>[(7,.cells ((zdz (fun _ l=>zcQ l) z s.locks).map Lock.c).flatten (decide (0<s.locks.length)))]) (fun z=>z) (s.locks.length) (fun _=>True) (0) ?_;rintro k ⟨hk,-⟩;(try dsimp only at hk ⊢);rcases Nat.lt_or_ge k s.locks.length with hlt|hge
 ·have e1:=zcv (fun _ l=>zcQ l) hlt
  have en:=zby (fun _ l=>zcQ l) hlt
  have hlen:(zdz (fun _ l=>zcQ l) k s.locks).length=s.locks.length:=zbm _ _ _
  have hl9:=hlf k hlt
  have eid:=updI_id (fun _ l=>zcQ l) hlt
  (try dsimp only at e1);(try dsimp only at eid)
  generalize hU:zdz (fun _ l=>zcQ l) k s.locks=U at *
  have hk:k<U.length:=by omega
  by_cases h0:(nth s.locks k).left=0
  ·have eid:=eid (by unfold zcQ;rw[if_pos h0])
   have hd:decide ((nth s.locks k).left=0)=true:=decide_eq_true h0
   (have hX:=zA (zks hk) (zA @en (zA @hlen @hd));(repeat' first|refine zaa [0,1,2,3,4,5,6,7,8,13,20,21,22,32,44] fun K hK=>?_|(refine hK.go ?_;clear hK K)|with_reducible exact wT|refine wA ?_|(refine wB (fun h=>?_) (fun h=>?_)<;>first|exact wN h|subst (h:(_:Bool)=_)|skip)|(refine wR ?_;clear hQ hR hE hM)|fail);all_goals clear hX)
   all_goals first|(exfalso;contradiction)|exact ⟨k+1,by omega,by omega,by omega,by rw[eid]⟩|trace_state
  ·have hd:decide ((nth s.locks k).left=0)=false:=decide_eq_false h0
   by_cases hl1:(nth s.locks k).left-1=0
   ·rw[show zcQ (nth s.locks k)=⟨(nth s.locks k).id,0,0,0⟩ by unfold zcQ;rw[if_neg h0,if_pos hl1]]at e1
    have hd1:decide ((nth s.locks k).left-1=0)=true:=decide_eq_true hl1
    (have hX:=zA (zmR hk) (zA (zks hk) (zA (znX hk) (zA (znW hk) (zA (zmQ hk) (zA (zkr hk) (zA (zc3 hk) (zA (zc2 hk) (zA (zc1 hk) (zA @en (zA @hlen (zA @hd @hd1)))))))))));(repeat' first|refine zaa [0,1,2,3,4,5,6,7,8,13,20,21,22,32,44] fun K hK=>?_|(refine hK.go ?_;clear hK K)|with_reducible exact wT|refine wA ?_|(refine wB (fun h=>?_) (fun h=>?_)<;>first|exact wN h|subst (h:(_:Bool)=_)|skip)|(refine wR ?_;clear hQ hR hE hM)|fail);all_goals clear hX)
    all_goals first|(exfalso;contradiction)|exact ⟨k+1,by omega,by omega,by omega,by rw[←e1]⟩|trace_state
   ·rw[show zcQ (nth s.locks k)=⟨(nth s.locks k).id,(nth s.locks k).phase,(nth s.locks k).gone,(nth s.locks k).left-1⟩ by unfold zcQ;rw[if_neg h0,if_neg hl1]]at e1
    have hd1:decide ((nth s.locks k).left-1=0)=false:=decide_eq_false hl1
    (have hX:=zA (zmR hk) (zA (zks hk) (zA (znX hk) (zA (znW hk) (zA (zmQ hk) (zA (zkr hk) (zA (zc3 hk) (zA (zc2 hk) (zA (zc1 hk) (zA @en (zA @hlen (zA @hd @hd1)))))))))));(repeat' first|refine zaa [0,1,2,3,4,5,6,7,8,13,20,21,22,32,44] fun K hK=>?_|(refine hK.go ?_;clear hK K)|with_reducible exact wT|refine wA ?_|(refine wB (fun h=>?_) (fun h=>?_)<;>first|exact wN h|subst (h:(_:Bool)=_)|skip)|(refine wR ?_;clear hQ hR hE hM)|fail);all_goals clear hX)
    all_goals first|(exfalso;contradiction)|exact ⟨k+1,by omega,by omega,by omega,by rw[←e1]⟩|trace_state
 ·rw[zcZ _ hge,zlA]
  (repeat' first|refine zaa [0,1,2,3,4,5,6,7,8,13,20,21,22,32,44] fun K hK=>?_|(refine hK.go ?_;clear hK K)|with_reducible exact wT|refine wA ?_|(refine wB (fun h=>?_) (fun h=>?_)<;>first|exact wN h|subst (h:(_:Bool)=_)|skip)|(refine wR ?_;clear hQ hR hE hM)|fail)
  all_goals (left;unfold zf8 zf9 zjT;dsimp only;rw[List.length_map];constructor)
  all_goals (refine no_implicit_lambda% (st ?_);try with_reducible exact wT)
def zmk (p:Pln) (s:State):State:=if zac p s=0 then zjT s else State.z
theorem tick_pc (hH:HasAll P inv) (hI:HasIds P inv) (p:Pln) (hp:Sm p) (s:State) (hs:SmS s):PC P inv 163 [.agg p.c,.agg s.c] (·=.tup [.agg (zmk p s).c,.n (zac p s)]):=by
 unfold zmk
 by_cases he:zac p s=0
 ·have:=(tick_po hH hI p hp s hs he).pc
  rw[zb2]at this
  rw[if_pos he,he]
  exact this
 ·have c0:=zaT hH hI p hp s hs
  rw[if_neg he]
  generalize zac p s=e at c0 he ⊢
  refine PC.fn hH cd163 fun w0 M Q hM hE hQ hR=>?_;dsimp only[cd163,qm,ql,qf,qi,qb,qc,qp,qv,qN,qT,qF,qt]at hQ ⊢
  (repeat' first|refine zaa [0,1,2,3,4,5,6,7,8,13,20,21,22,32,44] fun K hK=>?_|(refine hK.go ?_;clear hK K)|with_reducible exact wT|refine wA ?_|(refine wB (fun h=>?_) (fun h=>?_)<;>first|exact wN h|subst (h:(_:Bool)=_)|skip)|(refine wQ ?_;clear hQ hR hE hM)|refine wC c0 ?_|fail)
  all_goals first|rfl|(exfalso;contradiction)|skip
end Go.Lev
namespace Go.Lev
open Go.Eng
set_option maxRecDepth 10000
set_option maxHeartbeats 4000000
variable {P:Program} {inv:Nat→Option Nat} {w0:World} {M:Nat→Prop}
theorem zn0 (hH:HasAll P inv) (n:Int) (x:Lock):PC P inv 174 ([.agg x.c]++[.ip 1 [[.n n]] 0 0]) (·=.b (decide (x.id=n))):=by
 refine PC.fn hH cd174 fun w0 M Q hM hE hQ hR=>?_;dsimp only[cd174,qm,ql,qf,qi,qb,qc,qp,qv,qN,qT,qF,qt]at hQ ⊢
 (repeat' first|refine zaa [0,1,2,3] fun K hK=>?_|(refine hK.go ?_;clear hK K)|with_reducible exact wT|refine wA ?_|(refine wB (fun h=>?_) (fun h=>?_)<;>first|exact wN h|subst (h:(_:Bool)=_)|skip)|(refine wQ ?_;clear hQ hR hE hM)|fail)
theorem cn175 (hH:HasAll P inv) (s:State) (hs:s.tracks.length≤1000000000) (m:Int):PC P inv 175 ([.n m]++[.ip 3 [s.c] 0 0]) (·=.b (frT s m)):=by
 have c1:=zm3 hH s.tracks ⟨m,0⟩ hs
 rw[show (s.tracks.any fun x=>decide ((⟨m,0⟩:Track).id=x.id)&&decide ((⟨m,0⟩:Track).is=x.is))=frT s m from rfl]at c1
 refine PC.fn hH cd175 fun w0 M Q hM hE hQ hR=>?_;dsimp only[cd175,qm,ql,qf,qi,qb,qc,qp,qv,qN,qT,qF,qt]at hQ ⊢
 (repeat' first|refine zaa [0,1,3] fun K hK=>?_|(refine hK.go ?_;clear hK K)|with_reducible exact wT|refine wA ?_|(refine wB (fun h=>?_) (fun h=>?_)<;>first|exact wN h|subst (h:(_:Bool)=_)|skip)|(refine wQ ?_;clear hQ hR hE hM)|refine wC c1 ?_|fail)
theorem cn178 (hH:HasAll P inv) (s:State) (hs:s.tracks.length≤1000000000) (m:Int):PC P inv 178 ([.n m]++[.ip 1 [[.fn 175 [.ip 3 [s.c] 0 0]]] 0 0]) (·=.b (!frT s m)):=by
 have c1:=cn175 hH s hs m
 refine PC.fn hH cd178 fun w0 M Q hM hE hQ hR=>?_;dsimp only[cd178,qm,ql,qf,qi,qb,qc,qp,qv,qN,qT,qF,qt]at hQ ⊢
 (repeat' first|refine zaa [0,1,3] fun K hK=>?_|(refine hK.go ?_;clear hK K)|with_reducible exact wT|refine wA ?_|(refine wB (fun h=>?_) (fun h=>?_)<;>first|exact wN h|subst (h:(_:Bool)=_)|skip)|(refine wQ ?_;clear hQ hR hE hM)|refine wC c1 ?_|fail)
def ze2 (s:State) (w:WayR) (l:Lock):Bool:=!((w.path.drop l.gone.toNat).any fun m=>!frT s m)
def cnC0 (s:State) (w:WayR) (l:Lock):Int:=if l.phase=0 then 220 else if l.phase=1 then 0 else if l.phase=2∧ze2 s w l=true then 0 else 221
def cnL (s:State) (w:WayR) (r:Rte) (l:Lock) (n:Int):Lock:=if l.phase=1∧frT s w.near=false then ⟨n,4,0,r.timer⟩ else ⟨n,0,0,0⟩
def cnC (p:Pln) (s:State) (n:Int):Int:=if zac p s=0 then (if ze0 s n<0 then 6 else cnC0 s (zak p (nth p.routes (ze0 s n).toNat)).1 (nth s.locks (ze0 s n).toNat)) else zac p s
def cnS (p:Pln) (s:State) (n:Int):State:=⟨s.tracks,s.switches,s.locks.set (ze0 s n).toNat (cnL s (zak p (nth p.routes (ze0 s n).toNat)).1 (nth p.routes (ze0 s n).toNat) (nth s.locks (ze0 s n).toNat) n)⟩
def cnR (p:Pln) (s:State) (n:Int):State:=if cnC p s n=0 then cnS p s n else State.z
theorem zrw (hH:HasAll P inv) (hI:HasIds P inv) (p:Pln) (hp:Sm p) (s:State) (hs:SmS s) (n:Int) (he:cnC p s n=0):PO P inv 162 [.agg p.c,.agg s.c,.n n] (.tup [zf8 7 (cnS p s n),.n 0]) (zf9 7 (cnS p s n)):=by
 have c0:=zmJ hH hI p hp s hs
 have hRl:=zeo p s
 have c1:=zbD hH s hs
 have c2:=zm1 hH s.locks (fun x _=>zn0 hH n x) (by have:=hs.2.2;omega)
 have hst:zac p s=0:=by
  unfold cnC at he
  split at he
  ·assumption
  ·rename_i h;exact absurd he h
 have hok:=zae hst
 have hpa:=(zab hst).2.1
 have hpl:=zag hpa
 have hR:ofR p s=⟨(zav p s).1,(zav p s).2.1,zaD p,0⟩:=by unfold ofR;rw[if_pos hst]
 rw[hR]at c0 hRl
 dsimp only at c0 hRl
 unfold cnC at he
 rw[if_pos hst]at he
 unfold cnS
 rcases zaQ Lock.id n s.locks with ⟨h4,_⟩|⟨i,hi,h4,h5⟩
 ·rw[show ze0 s n=-1 from h4,if_pos (by decide)]at he
  cases he
 ·rw[show ze0 s n=(i:Int) from h4,if_neg (by omega),Int.toNat_natCast]at he
  rw[show ze0 s n=(i:Int) from h4,Int.toNat_natCast]
  rw[h4]at c2
  have hri:i<p.routes.length:=by omega
  have hwat:nth (zaD p) i=(zak p (nth p.routes i)).1:=zjw _ hri
  have hwlen:(zaD p).length=p.routes.length:=by simp[zaD]
  have hwl:=zcB hok (zad hri)
  have hwp:=zbg ((zaU (zab hst).1).2.1 _ (zad hri))
  have hgn:=zdI hok (zad hri) (zbR hpa hi)
  rw[←hwp.1]at hgn
  have h3:=hs.2.2
  have c4:=fun m=>cn175 hH s (by have:=hs.1;omega) m
  have c5:=zlH hH ((zak p (nth p.routes i)).1.path.drop (nth s.locks i).gone.toNat) (fun x _=>cn178 hH s (by have:=hs.1;omega) x) (by simp;omega)
  rw[show (((zak p (nth p.routes i)).1.path.drop (nth s.locks i).gone.toNat).any fun m=>!frT s m)=!ze2 s (zak p (nth p.routes i)).1 (nth s.locks i) by simp[ze2]]at c5
  unfold cnC0 at he
  generalize (zak p (nth p.routes i)).1=w at *
  generalize zaD p=ws at *
  generalize zav p s=GR at *
  obtain ⟨H,A,B⟩:=GR
  dsimp only at *
  obtain ⟨G,Z,hg⟩:=zf7
  rw[←hg.eq]at c0
  have hfold:=hg.fold
  have hlen0:=hg.len (.s0 4) hg.zl hg.zl
  have hlen:=hg.len (.sl 4 (ws.map Way.c)) hRl.1 hRl.2
  have hov:=hg.ov (.s0 4) (.sl 4 (ws.map Way.c)) hg.zl hg.zl hRl.1 hRl.2
  have hbd0:=hg.bd0 Z Z
  have hbd:=hg.bd H A (ws.map Way.c)
  have hba:=hg.ba H A (ws.map Way.c)
  have hgw:=hg.get (.sl 4 (ws.map Way.c)) hRl.1 hRl.2
  clear hg hR hok hpa hst hwp
  unfold stV stR at c1
  have c6:=c4 w.near
  unfold cnL
  by_cases hp1:(nth s.locks i).phase=1
  ·cases hf:frT s w.near with
   |true =>
    rw[if_neg (fun h=>by cases h.2)]
    rw[hf]at c6
    refine PO.fn hH cd162 fun w0 M Q hM hE hQ hR=>?_;dsimp only[cd162,qm,ql,qf,qi,qb,qc,qp,qv,qN,qT,qF,qt]at hQ ⊢
    (have hX:=zA @hfold (zA @hlen0 (zA @hlen (zA @hov (zA @hbd0 (zA @hbd (zA @hba (zA @hgw (zA @hwat (zA @hp1 (zA (zgE hi) (zA (zgD hi) (zA (zfd hi) (zA (zc3 hi) (zA (zc2 hi) (zc1 hi)))))))))))))));(repeat' first|refine zaa [0,1,2,3,4,5,6,7,8,9,10,11,12,13,14,15,23,33,54,71,80,84,86,88,97] fun K hK=>?_|(refine hK.go ?_;clear hK K)|with_reducible exact wT|refine wA ?_|(refine wB (fun h=>?_) (fun h=>?_)<;>first|exact wN h|subst (h:(_:Bool)=_)|skip)|(refine wR ?_;clear hQ hR hE hM)|refine wC c0 ?_|refine wO c1 ?_|refine wS c2 ?_|refine wS c6 ?_|fail);all_goals clear hX)
    all_goals first|(exfalso;contradiction)|(exfalso;omega)|skip
    all_goals (left;unfold zf8 zf9;dsimp only;rw[List.length_set];constructor)
    all_goals (refine no_implicit_lambda% (st ?_);try with_reducible exact wT)
   |false =>
    rw[if_pos ⟨hp1,rfl⟩]
    rw[hf]at c6
    refine PO.fn hH cd162 fun w0 M Q hM hE hQ hR=>?_;dsimp only[cd162,qm,ql,qf,qi,qb,qc,qp,qv,qN,qT,qF,qt]at hQ ⊢
    (have hX:=zA @hfold (zA @hlen0 (zA @hlen (zA @hov (zA @hbd0 (zA @hbd (zA @hba (zA @hgw (zA @hwat (zA @hp1 (zA (zgE hi) (zA (zgD hi) (zA (zfd hi) (zA (zc3 hi) (zA (zc2 hi) (zc1 hi)))))))))))))));(repeat' first|refine zaa [0,1,2,3,4,5,6,7,8,9,10,11,12,13,14,15,23,33,54,71,80,84,86,88,97] fun K hK=>?_|(refine hK.go ?_;clear hK K)|with_reducible exact wT|refine wA ?_|(refine wB (fun h=>?_) (fun h=>?_)<;>first|exact wN h|subst (h:(_:Bool)=_)|skip)|(refine wR ?_;clear hQ hR hE hM)|refine wC c0 ?_|refine wO c1 ?_|refine wS c2 ?_|refine wS c6 ?_|fail);all_goals clear hX)
    all_goals first|(exfalso;contradiction)|(exfalso;omega)|skip
    all_goals (left;unfold zf8 zf9;dsimp only;rw[List.length_set];constructor)
    all_goals (refine no_implicit_lambda% (st ?_);try with_reducible exact wT)
  ·rw[if_neg (fun h=>hp1 h.1)]
   rw[if_neg hp1]at he
   by_cases hp0:(nth s.locks i).phase=0
   ·rw[if_pos hp0]at he;cases he
   ·rw[if_neg hp0]at he
    by_cases hp2:(nth s.locks i).phase=2∧ze2 s w (nth s.locks i)=true
    ·obtain ⟨hp1,hem⟩:=hp2
     rw[hem,List.map_drop]at c5
     refine PO.fn hH cd162 fun w0 M Q hM hE hQ hR=>?_;dsimp only[cd162,qm,ql,qf,qi,qb,qc,qp,qv,qN,qT,qF,qt]at hQ ⊢
     (have hX:=zA @hfold (zA @hlen0 (zA @hlen (zA @hov (zA @hbd0 (zA @hbd (zA @hba (zA @hgw (zA @hwat (zA @hp1 (zA (zgE hi) (zA (zgD hi) (zA (zfd hi) (zA (zc3 hi) (zA (zc2 hi) (zc1 hi)))))))))))))));(repeat' first|refine zaa [0,1,2,3,4,5,6,7,8,9,10,11,12,13,14,15,23,33,54,71,80,84,86,88,97] fun K hK=>?_|(refine hK.go ?_;clear hK K)|with_reducible exact wT|refine wA ?_|(refine wB (fun h=>?_) (fun h=>?_)<;>first|exact wN h|subst (h:(_:Bool)=_)|skip)|(refine wR ?_;clear hQ hR hE hM)|refine wC c0 ?_|refine wO c1 ?_|refine wS c2 ?_|refine wS c5 ?_|fail);all_goals clear hX)
     all_goals first|(exfalso;contradiction)|(exfalso;omega)|skip
     all_goals (left;unfold zf8 zf9;dsimp only;rw[List.length_set];constructor)
     all_goals (refine no_implicit_lambda% (st ?_);try with_reducible exact wT)
    ·rw[if_neg hp2]at he;cases he
end Go.Lev
namespace Go.Lev
open Go.Eng
set_option maxRecDepth 10000
set_option maxHeartbeats 4000000
variable {P:Program} {inv:Nat→Option Nat} {w0:World} {M:Nat→Prop}
def zbv (r:Rte) (is:Int→Int) (l:Lock):Lock :=
 if l.phase=1∨l.phase=4 then (if (r.path.any fun n=>decide (is n=1))=true then ⟨l.id,2,0,0⟩ else l)
 else if l.phase=2 then
  (if l.gone<(r.path.length:Int)-1∧is (nth r.path l.gone.toNat)=0∧is (nth r.path (l.gone.toNat+1))=1 then ⟨l.id,l.phase,l.gone+1,l.left⟩
   else if l.gone=(r.path.length:Int)-1∧is (nth r.path (r.path.length-1))=1 then ⟨l.id,3,(r.path.length:Int)-1,r.timer⟩
   else if l.gone=(r.path.length:Int)-1∧is (nth r.path (r.path.length-1))=0 then ⟨l.id,0,0,0⟩
   else l)
 else if l.phase=3 then (if is (nth r.path (r.path.length-1))=0 then ⟨l.id,0,0,0⟩ else l)
 else l
theorem is187_pc (hH:HasAll P inv) (n:Int) (x:Track):PC P inv 187 ([.agg x.c]++[.ip 1 [[.n n]] 0 0]) (·=.b (decide (x.id=n))):=by
 refine PC.fn hH cd187 fun w0 M Q hM hE hQ hR=>?_;dsimp only[cd187,qm,ql,qf,qi,qb,qc,qp,qv,qN,qT,qF,qt]at hQ ⊢
 (repeat' first|refine zaa [0,1,2,3] fun K hK=>?_|(refine hK.go ?_;clear hK K)|with_reducible exact wT|refine wA ?_|(refine wB (fun h=>?_) (fun h=>?_)<;>first|exact wN h|subst (h:(_:Bool)=_)|skip)|(refine wQ ?_;clear hQ hR hE hM)|fail)
theorem is_pc (hH:HasAll P inv) (s:State) (hs:s.tracks.length≤1000000000) {m:Nat} (hm:m<s.tracks.length) {n:Int} (he:zbA (fun x=>decide (Track.id x=n)) 0 s.tracks=(m:Int)):PC P inv 186 ([.n n]++[.ip 3 [s.c] 0 0]) (·=.i .u8 (nth s.tracks m).is):=by
 have c1:=zkB hH s.tracks (fun x _=>is187_pc hH n x) hs
 rw[he]at c1
 refine PC.fn hH cd186 fun w0 M Q hM hE hQ hR=>?_;dsimp only[cd186,qm,ql,qf,qi,qb,qc,qp,qv,qN,qT,qF,qt]at hQ ⊢
 (repeat' first|refine zaa [0,1,2,3] fun K hK=>?_|(refine hK.go ?_;clear hK K)|with_reducible exact wT|refine wA ?_|(refine wB (fun h=>?_) (fun h=>?_)<;>first|exact wN h|subst (h:(_:Bool)=_)|skip)|(refine wQ ?_;clear hQ hR hE hM)|refine wS c1 ?_|fail)
theorem zjV (hH:HasAll P inv) {jc:Nat} {caps:List AV} {n v:Int} (hc:PC P inv jc ([.n n]++caps) (·=.i .u8 v)):PC P inv 190 ([.n n]++[.ip 1 [[.fn jc caps]] 0 0]) (·=.b (decide (v=1))):=by
 refine PC.fn hH cd190 fun w0 M Q hM hE hQ hR=>?_;dsimp only[cd190,qm,ql,qf,qi,qb,qc,qp,qv,qN,qT,qF,qt]at hQ ⊢
 (repeat' first|refine zaa [0,1,3] fun K hK=>?_|(refine hK.go ?_;clear hK K)|with_reducible exact wT|refine wA ?_|(refine wB (fun h=>?_) (fun h=>?_)<;>first|exact wN h|subst (h:(_:Bool)=_)|skip)|(refine wQ ?_;clear hQ hR hE hM)|refine wC hc ?_|fail)
theorem step_pc (hH:HasAll P inv) (r:Rte) (l:Lock) (is:Int→Int) {jc:Nat} {caps:List AV} (hpl:zaA caps=true) (hc:∀ n∈r.path,PC P inv jc ([.n n]++caps) (·=.i .u8 (is n))) (h0:0<r.path.length) (h1:r.path.length≤1000) (hg:0≤l.gone∧l.gone≤(r.path.length:Int)-1):PC P inv 188 [.agg r.c,.agg l.c,.fn jc caps] (·=.agg (zbv r is l).c):=by
 have c1:=zlH hH r.path (fun x hx=>zjV hH (hc x hx)) (by omega)
 have d1:=hc _ (zad (show r.path.length-1<r.path.length by omega))
 have d2:=hc _ (zad (show l.gone.toNat<r.path.length by omega))
 have t1:=zjV hH d1
 have hb:=zb0 caps hpl
 have hbd:zaf caps=0:=za8 _ hb
 have hsn:∀ (k:Nat) (σ:AS),zbN k σ caps=caps:=fun k σ=>zfu k σ hpl
 unfold zbv
 generalize (r.path.any fun n=>decide (is n=1))=anyT at *
 by_cases hp:l.phase=1∨l.phase=4
 ·rw[if_pos hp]
  rcases hp with hp|hp
  all_goals cases anyT
  all_goals refine PC.fn hH cd188 fun w0 M Q hM hE hQ hR=>?_;dsimp only[cd188,qm,ql,qf,qi,qb,qc,qp,qv,qN,qT,qF,qt]at hQ ⊢
  all_goals (have hX:=zA @hp (zA @hb (zA @hbd @hsn));(repeat' first|refine zaa [0,1,2,3,4,5,6,7,8,15,16,22,26,28,41,53,59,79,91,97,105,106] fun K hK=>?_|(refine hK.go ?_;clear hK K)|with_reducible exact wT|refine wA ?_|(refine wB (fun h=>?_) (fun h=>?_)<;>first|exact wN h|subst (h:(_:Bool)=_)|skip)|(refine wQ ?_;clear hQ hR hE hM)|refine wS c1 ?_|fail);all_goals clear hX)
  all_goals first|rfl|(exfalso;contradiction)|trace_state
 ·rw[if_neg hp]
  have hp1:¬l.phase=1:=fun h=>hp (.inl h)
  have hp4:¬l.phase=4:=fun h=>hp (.inr h)
  have e1:decide (l.phase=1)=false:=decide_eq_false hp1
  have e4:decide (l.phase=4)=false:=decide_eq_false hp4
  by_cases hp2:l.phase=2
  ·rw[if_pos hp2]
   by_cases hgl:l.gone<(r.path.length:Int)-1
   ·have d3:=hc _ (zad (show l.gone.toNat+1<r.path.length by omega))
    have t3:=zjV hH d3
    have hn1:(l.gone+1).toNat=l.gone.toNat+1:=by omega
    have hge:¬l.gone=(r.path.length:Int)-1:=by omega
    simp only[hgl,hge,true_and,false_and,if_false]
    generalize is (nth r.path l.gone.toNat)=v1 at *
    generalize is (nth r.path (l.gone.toNat+1))=v2 at *
    have egl:decide (l.gone<(r.path.length:Int)-1)=true:=decide_eq_true hgl
    have ege:decide (l.gone=(r.path.length:Int)-1)=false:=decide_eq_false hge
    refine PC.fn hH cd188 fun w0 M Q hM hE hQ hR=>?_;dsimp only[cd188,qm,ql,qf,qi,qb,qc,qp,qv,qN,qT,qF,qt]at hQ ⊢
    (have hX:=zA @hp2 (zA @hb (zA @hbd (zA @hsn (zA @hn1 (zA @egl @ege)))));(repeat' first|refine zaa [0,1,2,3,4,5,6,7,8,15,16,22,26,28,41,53,59,79,91,97,105,106] fun K hK=>?_|(refine hK.go ?_;clear hK K)|with_reducible exact wT|refine wA ?_|(refine wB (fun h=>?_) (fun h=>?_)<;>first|exact wN h|subst (h:(_:Bool)=_)|skip)|(refine wQ ?_;clear hQ hR hE hM)|refine wC d2 ?_|refine wS t3 ?_|fail);all_goals clear hX)
    all_goals first|(exfalso;contradiction)|rfl|(simp[*];done)|trace_state
   ·have hge:l.gone=(r.path.length:Int)-1:=by omega
    have hn2:((r.path.length:Int)-1).toNat=r.path.length-1:=by omega
    simp only[hgl,hge,true_and,false_and,if_false]
    generalize is (nth r.path (r.path.length-1))=v1 at *
    have egl:decide (l.gone<(r.path.length:Int)-1)=false:=decide_eq_false hgl
    have ege:decide (l.gone=(r.path.length:Int)-1)=true:=decide_eq_true hge
    refine PC.fn hH cd188 fun w0 M Q hM hE hQ hR=>?_;dsimp only[cd188,qm,ql,qf,qi,qb,qc,qp,qv,qN,qT,qF,qt]at hQ ⊢
    (have hX:=zA @hp2 (zA @hb (zA @hbd (zA @hsn (zA @hn2 (zA @egl @ege)))));(repeat' first|refine zaa [0,1,2,3,4,5,6,7,8,15,16,22,26,28,41,53,59,79,91,97,105,106] fun K hK=>?_|(refine hK.go ?_;clear hK K)|with_reducible exact wT|refine wA ?_|(refine wB (fun h=>?_) (fun h=>?_)<;>first|exact wN h|subst (h:(_:Bool)=_)|skip)|(refine wQ ?_;clear hQ hR hE hM)|refine wC d1 ?_|refine wS t1 ?_|fail);all_goals clear hX)
    all_goals first|(exfalso;contradiction)|rfl|(simp[*];done)|trace_state
  ·rw[if_neg hp2]
   have e2:decide (l.phase=2)=false:=decide_eq_false hp2
   have hn2:((r.path.length:Int)-1).toNat=r.path.length-1:=by omega
   by_cases hp3:l.phase=3
   ·rw[if_pos hp3]
    generalize is (nth r.path (r.path.length-1))=v1 at *
    refine PC.fn hH cd188 fun w0 M Q hM hE hQ hR=>?_;dsimp only[cd188,qm,ql,qf,qi,qb,qc,qp,qv,qN,qT,qF,qt]at hQ ⊢
    (have hX:=zA @hp3 (zA @hb (zA @hbd (zA @hsn @hn2)));(repeat' first|refine zaa [0,1,2,3,4,5,6,7,8,15,16,22,26,28,41,53,59,79,91,97,105,106] fun K hK=>?_|(refine hK.go ?_;clear hK K)|with_reducible exact wT|refine wA ?_|(refine wB (fun h=>?_) (fun h=>?_)<;>first|exact wN h|subst (h:(_:Bool)=_)|skip)|(refine wQ ?_;clear hQ hR hE hM)|refine wC d1 ?_|fail);all_goals clear hX)
    all_goals first|(exfalso;contradiction)|rfl|(simp[*];done)|trace_state
   ·rw[if_neg hp3]
    have e3:decide (l.phase=3)=false:=decide_eq_false hp3
    refine PC.fn hH cd188 fun w0 M Q hM hE hQ hR=>?_;dsimp only[cd188,qm,ql,qf,qi,qb,qc,qp,qv,qN,qT,qF,qt]at hQ ⊢
    (have hX:=zA @e1 (zA @e2 (zA @e3 (zA @e4 (zA @hb (zA @hbd @hsn)))));(repeat' first|refine zaa [0,1,2,3,4,5,6,7,8,15,16,22,26,28,41,53,59,79,91,97,105,106] fun K hK=>?_|(refine hK.go ?_;clear hK K)|with_reducible exact wT|refine wA ?_|(refine wB (fun h=>?_) (fun h=>?_)<;>first|exact wN h|subst (h:(_:Bool)=_)|skip)|(refine wQ ?_;clear hQ hR hE hM)|fail);all_goals clear hX)
    all_goals first|(exfalso;contradiction)|rfl|(simp[*];done)|trace_state
end Go.Lev
namespace Go.Eng
section
variable {P:Program} {inv:Nat→Option Nat} {w0:World} {M:Nat→Prop} {n N:Nat} {φ φ0:AF} {σ σ0:AS}
theorem zpg {x:ACode} {Q:Exit→AF→AS→Prop} (l:Nat) (hf:zi4 (.seq (.label l) x) l=some (.seq .skip x)) (I:Nat→AF→AS→Prop) (m0:Nat) (h0:I m0 φ0 σ0) (h1:zhk φ0 φ) (h2:zfq σ0 σ)
  (pass:∀ m φ σ,I m φ σ→AWp P inv w0 M N n x (zhg l (fun φ' σ'=>∃ m' φ2 σ2,m'<m∧I m' φ2 σ2∧zhk φ2 φ'∧zfq σ2 σ') Q) φ σ):AWp P inv w0 M N n (.scope (.seq (.label l) x)) Q φ σ:=by
 refine AWp.scope l hf I ?_ fun m φ σ h=>AWp.seq fun K hK=>AWp.skip (hK _ _ (pass m φ σ h))
 refine AWp.sub (AWp.seq fun K hK=>AWp.label (hK _ _ (AWp.mono ?_ (pass m0 φ0 σ0 h0)))) h1 h2
 intro e φ' σ' q
 cases e with
 |goto l'=>obtain ⟨rfl,m',φ2,σ2,_,q1,q2,q3⟩:=q;exact ⟨rfl,m',φ2,σ2,q1,q2,q3⟩
 |normal=>exact q
 |exit id=>exact q
 |ret=>exact q
 |panic ch=>exact q
 |outgrown=>exact q
end
end Go.Eng
namespace Go.Lev
open Go.Eng
set_option maxRecDepth 10000
set_option maxHeartbeats 4000000
variable {P:Program} {inv:Nat→Option Nat} {w0:World} {M:Nat→Prop}
theorem stepL_id (r:Rte) (is:Int→Int) (l:Lock):(zbv r is l).id=l.id:=by
 unfold zbv
 repeat' split
 all_goals rfl
def zeb (r:Rte) (l:Lock):Nat:=if l.phase=1∨l.phase=4 then r.path.length+3 else if l.phase=2 then 2+((r.path.length:Int)-1-l.gone).toNat else if l.phase=3 then 1 else 0
theorem zdR {r:Rte} {is:Int→Int} {l:Lock} (h:zaq l r=true) (h0:0<r.path.length) (ht:1≤r.timer):zaq (zbv r is l) r=true∧(zbv r is l≠l→zeb r (zbv r is l)<zeb r l):=by
 unfold zbv
 by_cases h1:l.phase=1∨l.phase=4
 ·rw[if_pos h1]
  split
  ·refine ⟨by simp[zaq];omega,fun _=>?_⟩
   unfold zeb
   rw[if_neg (by simp),if_pos rfl,if_pos h1]
   simp;omega
  ·exact ⟨h,fun e=>absurd rfl e⟩
 ·rw[if_neg h1]
  by_cases h2:l.phase=2
  ·rw[if_pos h2]
   simp only[zaq,h2]at h
   simp at h
   split
   ·rename_i h3
    refine ⟨by simp[zaq,h2];omega,fun _=>?_⟩
    unfold zeb
    rw[if_neg h1,if_pos h2,if_neg h1,if_pos h2]
    dsimp only
    omega
   ·split
    ·refine ⟨by simp[zaq];omega,fun _=>?_⟩
     unfold zeb
     rw[if_neg (by simp),if_neg (by simp),if_pos rfl,if_neg h1,if_pos h2]
     omega
    ·split
     ·refine ⟨by simp[zaq],fun _=>?_⟩
      unfold zeb
      rw[if_neg (by simp),if_neg (by simp),if_neg (by simp),if_neg h1,if_pos h2]
      omega
     ·exact ⟨by simp[zaq,h2];omega,fun e=>absurd rfl e⟩
  ·rw[if_neg h2]
   by_cases h3:l.phase=3
   ·rw[if_pos h3]
    split
    ·refine ⟨by simp[zaq],fun _=>?_⟩
     unfold zeb
     rw[if_neg (by simp),if_neg (by simp),if_neg (by simp),if_neg h1,if_neg h2,if_pos h3]
     omega
    ·exact ⟨h,fun e=>absurd rfl e⟩
   ·rw[if_neg h3]
    exact ⟨h,fun e=>absurd rfl e⟩
def zbp (r:Rte) (is:Int→Int):Nat→Lock→Lock
 |0,l=>l
 |m+1,l=>if zbv r is l=l then l else zbp r is m (zbv r is l)
def za5 (r:Rte) (is:Int→Int) (l:Lock):Lock:=zbp r is (zeb r l) l
theorem zla {r:Rte} {is:Int→Int} (h0:0<r.path.length) (ht:1≤r.timer):∀ (m:Nat) (l:Lock),zaq l r=true→zeb r l≤m→zbp r is m l=zbp r is (zeb r l) l:=by
 intro m
 induction m using Nat.strongRecOn with
 |ind m ih =>
  intro l hl hm
  obtain ⟨k1,k2⟩:=zdR (is:=is) hl h0 ht
  cases m with
  |zero=>rw[show zeb r l=0 by omega]
  |succ m =>
   cases hr:zeb r l with
   |zero =>
    have:zbv r is l=l:=Classical.byContradiction fun e=>by have:=k2 e;omega
    rw[zbp,zbp,if_pos this]
   |succ q =>
    rw[zbp,zbp]
    split
    ·rfl
    ·rename_i e
     have:=k2 e
     rw[ih m (by omega) _ k1 (by omega),ih q (by omega) _ k1 (by omega)]
theorem zcE {r:Rte} {is:Int→Int} {l:Lock} (hl:zaq l r=true) (h0:0<r.path.length) (ht:1≤r.timer):za5 r is (zbv r is l)=za5 r is l:=by
 obtain ⟨k1,k2⟩:=zdR (is:=is) hl h0 ht
 by_cases e:zbv r is l=l
 ·rw[e]
 ·have:=k2 e
  unfold za5
  cases hr:zeb r l with
  |zero=>omega
  |succ q=>rw[zbp,if_neg e,zla h0 ht q _ k1 (by omega)]
theorem zbZ {r:Rte} {is:Int→Int} {l:Lock} (e:zbv r is l=l):za5 r is l=l:=by
 unfold za5
 cases zeb r l with
 |zero=>rfl
 |succ q=>rw[zbp,if_pos e]
theorem zjo {r:Rte} {is:Int→Int} {l:Lock} (hl:zaq l r=true) (h0:0<r.path.length) (ht:1≤r.timer):zaq (za5 r is l) r=true∧zbv r is (za5 r is l)=za5 r is l∧(za5 r is l).id=l.id:=by
 have key:∀ (m:Nat) (l:Lock),zaq l r=true→zeb r l≤m→zaq (zbp r is m l) r=true∧zbv r is (zbp r is m l)=zbp r is m l∧(zbp r is m l).id=l.id:=by
  intro m
  induction m with
  |zero =>
   intro l hl hm
   obtain ⟨k1,k2⟩:=zdR (is:=is) hl h0 ht
   exact ⟨hl,Classical.byContradiction fun e=>by have:=k2 e;omega,rfl⟩
  |succ m ih =>
   intro l hl hm
   obtain ⟨k1,k2⟩:=zdR (is:=is) hl h0 ht
   rw[zbp]
   split
   ·rename_i e;exact ⟨hl,e,rfl⟩
   ·rename_i e
    have:=k2 e
    obtain ⟨q1,q2,q3⟩:=ih _ k1 (by omega)
    exact ⟨q1,q2,q3.trans (stepL_id r is l)⟩
 exact key _ l hl (Nat.le_refl _)
end Go.Lev
namespace Go.Lev
open Go.Eng
set_option maxRecDepth 10000
set_option maxHeartbeats 4000000
variable {P:Program} {inv:Nat→Option Nat} {w0:World} {M:Nat→Prop}
def zhU (p:Pln) (s:State) (i:Nat) (l:Lock):Lock:=za5 (nth p.routes i) (zbB s) l
def zax (p:Pln) (s:State):State:=⟨s.tracks,s.switches,s.locks.mapIdx (zhU p s)⟩
theorem isOf_at2 {p:Pln} {s:State} (ho:OkP p) (h:zai p s=true) {k:Nat} (hk:k<s.tracks.length):zbB s (nth s.tracks k).id=(nth s.tracks k).is:=by
 unfold zbB
 rw[zeM Track.id (by rw[zgj h];exact zel ho) hk rfl]
theorem zg5 {l:Lock} {r:Rte} (h0:0<r.path.length) (h:zaq l r=true):0≤l.gone∧l.gone≤(r.path.length:Int)-1:=by
 unfold zaq at h
 repeat' split at h
 all_goals (simp at h;try omega)
theorem zpL (hH:HasAll P inv) (hI:HasIds P inv) (p:Pln) (hp:Sm p) (s:State) (hs:SmS s) (he:zac p s=0):PO P inv 179 [.agg p.c,.agg s.c] (.tup [zf8 5 (zax p s),.n 0]) (zf9 5 (zax p s)):=by
 have c0:=zaT hH hI p hp s hs
 rw[he]at c0
 have c1:=zbD hH s hs
 have hok:=zae he
 have hpa:=(zab he).2.1
 have hpl:=zag hpa
 have hph:∀ k,k<s.locks.length→zaq (nth s.locks k) (nth p.routes k)=true:=fun k hk=>by
  have:=zbR hpa hk
  simp only[zbs,Bool.and_eq_true]at this
  exact this.2
 have hrt:∀ k,k<p.routes.length→0<(nth p.routes k).path.length∧(nth p.routes k).path.length≤1000∧1≤(nth p.routes k).timer:=fun k hk=>by
  have hr:=zad hk
  have h1:=zbI hok hr
  have h2:=zdm hok hr
  exact ⟨by omega,by omega,h2.1⟩
 have hcl:∀ (L:List Lock) (k:Nat),k<p.routes.length→∀ n∈(nth p.routes k).path,PC P inv 186 ([.n n]++[.ip 3 [State.c ⟨s.tracks,s.switches,L⟩] 0 0]) (·=.i .u8 (zbB s n)):=fun L k hk n hn=>by
  obtain ⟨q,hq,e⟩:=(zbU hok (zad hk)).1 n (List.mem_append_left _ hn)
  obtain ⟨t,ht,et⟩:=zhG hpa ⟨q,hq,e⟩
  rcases zaQ Track.id n s.tracks with ⟨_,q1⟩|⟨m,hm,q1,q2⟩
  ·exact absurd et (q1 t ht)
  ·have:=is_pc hH ⟨s.tracks,s.switches,L⟩ (by have:=hs.1;dsimp only;omega) (m:=m) hm q1
   dsimp only at this
   rw[←isOf_at2 hok hpa hm,q2]at this
   exact this
 obtain ⟨h1,h2,h3⟩:=hs
 have hrl:=hp.rte
 unfold stV stR at c1
 refine PO.fn hH cd179 fun w0 M Q hM hE hQ hR=>?_;dsimp only[cd179,qm,ql,qf,qi,qb,qc,qp,qv,qN,qT,qF,qt]at hQ ⊢
 (repeat' first|refine zaa [0,1,2,3,4,5,6,7,8,9,10,15,22,23,24,25,43] fun K hK=>?_|(refine hK.go ?_;clear hK K)|with_reducible exact wT|refine wA ?_|(refine wB (fun h=>?_) (fun h=>?_)<;>first|exact wN h|subst (h:(_:Bool)=_)|skip)|(refine wR ?_;clear hQ hR hE hM)|refine wC c0 ?_|refine wO c1 ?_|fail)
 all_goals first|(exfalso;contradiction)|skip
 refine zap (ι:=Nat) [3,4,5,7,22,23,24] (fun z=>[(24,.n z)]) (fun z=>[(7,.cells ((zdz (zhU p s) z s.locks).map Lock.c).flatten (decide (0<s.locks.length)))]) (fun z=>z) (p.routes.length) (fun _=>True) (0) ?_;rintro k ⟨hk,-⟩;(try dsimp only at hk ⊢);rcases Nat.lt_or_ge k p.routes.length with hlt|hge
 ·have hk2:k<s.locks.length:=by omega
  have e1:=zcv (zhU p s) hk2
  have en:=zby (zhU p s) hk2
  have hlen:(zdz (zhU p s) k s.locks).length=s.locks.length:=zbm _ _ _
  generalize hU:zdz (zhU p s) k s.locks=U at *
  have hkU:k<U.length:=by omega
  have hid:U.set k (nth s.locks k)=U:=by rw[←en,zaK hkU,List.set_getElem_self]
  obtain ⟨hr0,hr1,hrt1⟩:=hrt k hlt
  have hcl2:=fun L=>hcl L k hlt
  have hdec:decide (0<s.locks.length)=decide (0<s.locks.length):=rfl
  (repeat' first|refine zaa [0,1,2,3,4,5,6,7,8,9,10,15,22,23,24,25,43] fun K hK=>?_|(refine hK.go ?_;clear hK K)|with_reducible exact wT|refine wA ?_|(refine wB (fun h=>?_) (fun h=>?_)<;>first|exact wN h|subst (h:(_:Bool)=_)|skip)|(refine wR ?_;clear hQ hR hE hM)|fail)
  refine zpg 0 rfl (fun m φ σ=>∃ l':Lock,(zeb (nth p.routes k) l'=m∧zaq l' (nth p.routes k)=true∧za5 (nth p.routes k) (zbB s) l'=zhU p s k (nth s.locks k)) ∧
    φ=[(3,.ptr 1 3 0),(4,.ptr 2 3 0),(5,.n 0),(7,.fn 186 [.ptr 1 3 0]),(8,.n k),(9,.ptr 8 7 0),(22,.sl 7 (p.routes.map Rte.c)),(23,.n p.routes.length),(24,.n k)] ∧
    σ=[(0,.cells p.c true),(1,.cells [.sm 5 (s.tracks.length*2) 0 s.tracks.length 2,.sm 6 (s.switches.length*3) 0 s.switches.length 3,.sm 7 (s.locks.length*4) 0 s.locks.length 4] true),(2,.cells [.s0 2,.s0 3,.s0 4] true),
     (5,.cells (s.tracks.map Track.c).flatten (decide (0<s.tracks.length))),(6,.cells (s.switches.map Switch.c).flatten (decide (0<s.switches.length))),(7,.cells ((U.set k l').map Lock.c).flatten (decide (0<s.locks.length))),(8,.cells (nth p.routes k).c true)])
   (zeb (nth p.routes k) (nth s.locks k)) ⟨nth s.locks k,⟨rfl,hph k hk2,rfl⟩,rfl,rfl⟩ (by (refine no_implicit_lambda% (st ?_);try with_reducible exact wT)) (by rw[hid];(refine no_implicit_lambda% (st ?_);try with_reducible exact wT)) ?_
  rintro m φ σ ⟨l',⟨hm,hl',hset⟩,rfl,rfl⟩
  have cs:=step_pc hH (nth p.routes k) l' (zbB s) (jc:=186) (caps:=[.ip 3 [State.c ⟨s.tracks,s.switches,U.set k l'⟩] 0 0]) rfl (hcl2 _) hr0 hr1 (zg5 hr0 hl')
  have fa:zcW ((U.set k l').map Lock.c).flatten (k*4) (some 4)=some (.agg l'.c):=by
   rw[zjE (c:=Lock.c) (l:=U.set k l') (k:=k) (by simpa using hkU) (by omega),zfc hkU]
  have fc:zbS 4 s.locks.length ((U.set k l').map Lock.c).flatten=(U.set k l').map Lock.c:=by
   have:=zcr (c:=Lock.c) (U.set k l')
   rw[List.length_set,hlen]at this
   exact this
  obtain ⟨k1,k2⟩:=zdR (is:=zbB s) hl' hr0 hrt1
  have k3:=zcE (is:=zbB s) hl' hr0 hrt1
  by_cases hx:zbv (nth p.routes k) (zbB s) l'=l'
  ·rw[hx]at cs
   have hfin:U.set k l'=zdz (zhU p s) (k+1) s.locks:=by rw[←e1,←hset,zbZ hx]
   (have hX:=zA @fa (zA @fc @hlen);(repeat' first|refine zaa [0,1,2,3,4,5,6,7,8,9,10,15,22,23,24,25,43] fun K hK=>?_|(refine hK.go ?_;clear hK K)|with_reducible exact wT|refine wA ?_|(refine wB (fun h=>?_) (fun h=>?_)<;>first|exact wN h|subst (h:(_:Bool)=_)|skip)|(refine wR ?_;clear hQ hR hE hM)|refine wP cs ?_|fail);all_goals clear hX)
   all_goals first|(exfalso;contradiction)|exact ⟨k+1,by omega,by omega,by omega,by rw[hfin]⟩
  ·have k2:=k2 hx
   rw[hset]at k3
   generalize zbv (nth p.routes k) (zbB s) l'=nx at *
   have hne:(decide (nx.id=l'.id)&&(decide (nx.phase=l'.phase)&&(decide (nx.gone=l'.gone)&&decide (nx.left=l'.left))))=false:=by
    rw[Bool.eq_false_iff]
    intro h
    simp only[Bool.and_eq_true,decide_eq_true_eq]at h
    exact hx ((zi7 _ _).2 h)
   (have hX:=zA @fa (zA @fc (zA @hlen (zA @hne (zA (zkr hkU) (zA (zc3 hkU) (zA (zc2 hkU) (zc1 hkU)))))));(repeat' first|refine zaa [0,1,2,3,4,5,6,7,8,9,10,15,22,23,24,25,43] fun K hK=>?_|(refine hK.go ?_;clear hK K)|with_reducible exact wT|refine wA ?_|(refine wB (fun h=>?_) (fun h=>?_)<;>first|exact wN h|subst (h:(_:Bool)=_)|skip)|(refine wR ?_;clear hQ hR hE hM)|refine wP cs ?_|fail);all_goals clear hX)
   all_goals first|(exfalso;contradiction)|skip
   refine ⟨_,_,_, ?_,⟨nx,⟨rfl,k1,k3⟩,rfl,rfl⟩, ?_, ?_⟩
   ·rw[←hm];exact k2
   ·(refine no_implicit_lambda% (st ?_);try with_reducible exact wT)
   ·(refine no_implicit_lambda% (st ?_);try with_reducible exact wT)
 ·rw[zcZ _ (by omega)]
  (repeat' first|refine zaa [0,1,2,3,4,5,6,7,8,9,10,15,22,23,24,25,43] fun K hK=>?_|(refine hK.go ?_;clear hK K)|with_reducible exact wT|refine wA ?_|(refine wB (fun h=>?_) (fun h=>?_)<;>first|exact wN h|subst (h:(_:Bool)=_)|skip)|(refine wR ?_;clear hQ hR hE hM)|fail)
  all_goals (left;unfold zf8 zf9 zax;dsimp only;rw[List.length_mapIdx];constructor)
  all_goals (refine no_implicit_lambda% (st ?_);try with_reducible exact wT)
def zcS (p:Pln) (s:State):State:=if zac p s=0 then zax p s else State.z
theorem zdc (hH:HasAll P inv) (hI:HasIds P inv) (p:Pln) (hp:Sm p) (s:State) (hs:SmS s):PC P inv 179 [.agg p.c,.agg s.c] (·=.tup [.agg (zcS p s).c,.n (zac p s)]):=by
 unfold zcS
 by_cases he:zac p s=0
 ·have:=(zpL hH hI p hp s hs he).pc
  rw[zb2]at this
  rw[if_pos he,he]
  exact this
 ·have c0:=zaT hH hI p hp s hs
  rw[if_neg he]
  generalize zac p s=e at c0 he ⊢
  refine PC.fn hH cd179 fun w0 M Q hM hE hQ hR=>?_;dsimp only[cd179,qm,ql,qf,qi,qb,qc,qp,qv,qN,qT,qF,qt]at hQ ⊢
  (repeat' first|refine zaa [0,1,2,3,4,5,6,7,8,9,10,15,22,23,24,25,43] fun K hK=>?_|(refine hK.go ?_;clear hK K)|with_reducible exact wT|refine wA ?_|(refine wB (fun h=>?_) (fun h=>?_)<;>first|exact wN h|subst (h:(_:Bool)=_)|skip)|(refine wQ ?_;clear hQ hR hE hM)|refine wC c0 ?_|fail)
  all_goals first|rfl|(exfalso;contradiction)|skip
end Go.Lev
namespace Go.Lev
open Go.Eng
set_option maxRecDepth 10000
set_option maxHeartbeats 4000000
variable {P:Program} {inv:Nat→Option Nat} {w0:World} {M:Nat→Prop}
def lkS (p:Pln) (s:State) (n:Int):State:=if lkC p s n=0 then zga s n (lkW p s n).asks else State.z
theorem zgC (hH:HasAll P inv) (hI:HasIds P inv) (p:Pln) (hp:Sm p) (s:State) (hs:SmS s) (n:Int):PC P inv 156 [.agg p.c,.agg s.c,.n n] (·=.tup [.agg (lkS p s n).c,.n (lkC p s n)]):=by
 unfold lkS
 by_cases he:lkC p s n=0
 ·have:=(zoR hH hI p hp s hs n he).pc
  rw[zb2]at this
  rw[if_pos he,he]
  exact this
 ·have c0:=zjy hH hI p hp s hs n
  rw[if_neg he]
  generalize lkC p s n=e at c0 he ⊢
  generalize lkW p s n=w at c0
  refine PC.fn hH cd156 fun w0 M Q hM hE hQ hR=>?_;dsimp only[cd156,qm,ql,qf,qi,qb,qc,qp,qv,qN,qT,qF,qt]at hQ ⊢
  (repeat' first|refine zaa [0,1,2,3,4,6,7,8,9,11,12,21,27,28,29,30,43,44,45,54] fun K hK=>?_|(refine hK.go ?_;clear hK K)|with_reducible exact wT|refine wA ?_|(refine wB (fun h=>?_) (fun h=>?_)<;>first|exact wN h|subst (h:(_:Bool)=_)|skip)|(refine wQ ?_;clear hQ hR hE hM)|refine wC c0 ?_|fail)
  all_goals first|rfl|(exfalso;contradiction)|skip
theorem ziV (hH:HasAll P inv) (hI:HasIds P inv) (p:Pln) (hp:Sm p) (s:State) (hs:SmS s) (n:Int):PC P inv 162 [.agg p.c,.agg s.c,.n n] (·=.tup [.agg (cnR p s n).c,.n (cnC p s n)]):=by
 unfold cnR
 by_cases he:cnC p s n=0
 ·have:=(zrw hH hI p hp s hs n he).pc
  rw[zb2]at this
  rw[if_pos he,he]
  exact this
 ·rw[if_neg he]
  have c0:=zmJ hH hI p hp s hs
  have hRl:=zeo p s
  have hRe:=zgA p s
  have c1:=zbD hH s hs
  have c2:=zm1 hH s.locks (fun x _=>zn0 hH n x) (by have:=hs.2.2;omega)
  unfold stV stR at c1
  by_cases hst:zac p s=0
  ·have hok:=zae hst
   have hpa:=(zab hst).2.1
   have hpl:=zag hpa
   have hR:ofR p s=⟨(zav p s).1,(zav p s).2.1,zaD p,0⟩:=by unfold ofR;rw[if_pos hst]
   rw[hR]at c0 hRl
   dsimp only at c0 hRl
   unfold cnC at he ⊢
   rw[if_pos hst]at he ⊢
   have h3:=hs.2.2
   rcases zaQ Lock.id n s.locks with ⟨h4,_⟩|⟨i,hi,h4,h5⟩
   ·rw[show ze0 s n=-1 from h4,if_pos (by decide)]
    rw[h4]at c2
    generalize zaD p=ws at *
    generalize zav p s=GR at *
    obtain ⟨H,A,B⟩:=GR
    dsimp only at *
    obtain ⟨G,Z,hg⟩:=zf7
    rw[←hg.eq]at c0
    have hfold:=hg.fold
    have hlen0:=hg.len (.s0 4) hg.zl hg.zl
    have hlen:=hg.len (.sl 4 (ws.map Way.c)) hRl.1 hRl.2
    have hov:=hg.ov (.s0 4) (.sl 4 (ws.map Way.c)) hg.zl hg.zl hRl.1 hRl.2
    have hbd0:=hg.bd0 Z Z
    have hbd:=hg.bd H A (ws.map Way.c)
    have hba:=hg.ba H A (ws.map Way.c)
    clear hg hR
    refine PC.fn hH cd162 fun w0 M Q hM hE hQ hR=>?_;dsimp only[cd162,qm,ql,qf,qi,qb,qc,qp,qv,qN,qT,qF,qt]at hQ ⊢
    (have hX:=zA @hfold (zA @hlen0 (zA @hlen (zA @hov (zA @hbd0 (zA @hbd @hba)))));(repeat' first|refine zaa [0,1,2,3,4,5,6,7,8,9,10,11,12,13,14,15,23,33,54,71,80,84,86,88,97] fun K hK=>?_|(refine hK.go ?_;clear hK K)|with_reducible exact wT|refine wA ?_|(refine wB (fun h=>?_) (fun h=>?_)<;>first|exact wN h|subst (h:(_:Bool)=_)|skip)|(refine wQ ?_;clear hQ hR hE hM)|refine wC c0 ?_|refine wO c1 ?_|refine wS c2 ?_|fail);all_goals clear hX)
    all_goals first|rfl|(exfalso;contradiction)|skip
   ·rw[show ze0 s n=(i:Int) from h4,if_neg (show ¬((i:Nat):Int)<0 by omega),Int.toNat_natCast]at he ⊢
    rw[h4]at c2
    have hri:i<p.routes.length:=by omega
    have hwat:nth (zaD p) i=(zak p (nth p.routes i)).1:=zjw _ hri
    have hwlen:(zaD p).length=p.routes.length:=by simp[zaD]
    have hwl:=zcB hok (zad hri)
    have hwp:=zbg ((zaU (zab hst).1).2.1 _ (zad hri))
    have hgn:=zdI hok (zad hri) (zbR hpa hi)
    rw[←hwp.1]at hgn
    have c5:=zlH hH ((zak p (nth p.routes i)).1.path.drop (nth s.locks i).gone.toNat) (fun x _=>cn178 hH s (by have:=hs.1;omega) x) (by simp;omega)
    rw[show (((zak p (nth p.routes i)).1.path.drop (nth s.locks i).gone.toNat).any fun m=>!frT s m)=!ze2 s (zak p (nth p.routes i)).1 (nth s.locks i) by simp[ze2]]at c5
    unfold cnC0 at he ⊢
    generalize (zak p (nth p.routes i)).1=w at *
    generalize zaD p=ws at *
    generalize zav p s=GR at *
    obtain ⟨H,A,B⟩:=GR
    dsimp only at *
    obtain ⟨G,Z,hg⟩:=zf7
    rw[←hg.eq]at c0
    have hfold:=hg.fold
    have hlen0:=hg.len (.s0 4) hg.zl hg.zl
    have hlen:=hg.len (.sl 4 (ws.map Way.c)) hRl.1 hRl.2
    have hov:=hg.ov (.s0 4) (.sl 4 (ws.map Way.c)) hg.zl hg.zl hRl.1 hRl.2
    have hbd0:=hg.bd0 Z Z
    have hbd:=hg.bd H A (ws.map Way.c)
    have hba:=hg.ba H A (ws.map Way.c)
    have hgw:=hg.get (.sl 4 (ws.map Way.c)) hRl.1 hRl.2
    clear hg hR hwp hRe
    by_cases hp0:(nth s.locks i).phase=0
    ·rw[if_pos hp0]
     refine PC.fn hH cd162 fun w0 M Q hM hE hQ hR=>?_;dsimp only[cd162,qm,ql,qf,qi,qb,qc,qp,qv,qN,qT,qF,qt]at hQ ⊢
     (have hX:=zA @hfold (zA @hlen0 (zA @hlen (zA @hov (zA @hbd0 (zA @hbd (zA @hba (zA @hgw (zA @hwat (zA (zgE hi) (zA (zgD hi) (zA (zfd hi) (zA (zc3 hi) (zA (zc2 hi) (zA (zc1 hi) @hp0))))))))))))));(repeat' first|refine zaa [0,1,2,3,4,5,6,7,8,9,10,11,12,13,14,15,23,33,54,71,80,84,86,88,97] fun K hK=>?_|(refine hK.go ?_;clear hK K)|with_reducible exact wT|refine wA ?_|(refine wB (fun h=>?_) (fun h=>?_)<;>first|exact wN h|subst (h:(_:Bool)=_)|skip)|(refine wQ ?_;clear hQ hR hE hM)|refine wC c0 ?_|refine wO c1 ?_|refine wS c2 ?_|fail);all_goals clear hX)
     all_goals first|rfl|(exfalso;contradiction)|(exfalso;omega)|skip
    ·rw[if_neg hp0]at he ⊢
     by_cases hp1:(nth s.locks i).phase=1
     ·rw[if_pos hp1]at he;exact absurd rfl he
     ·rw[if_neg hp1]at he ⊢
      have e0:decide ((nth s.locks i).phase=0)=false:=decide_eq_false hp0
      have e1:decide ((nth s.locks i).phase=1)=false:=decide_eq_false hp1
      by_cases hp2:(nth s.locks i).phase=2
      ·have hem:ze2 s w (nth s.locks i)=false:=by
        cases h:ze2 s w (nth s.locks i) with
        |false=>rfl
        |true=>rw[if_pos ⟨hp2,h⟩]at he;exact absurd rfl he
       rw[if_neg (fun h=>by rw[hem]at h;cases h.2)]
       rw[hem,List.map_drop]at c5
       refine PC.fn hH cd162 fun w0 M Q hM hE hQ hR=>?_;dsimp only[cd162,qm,ql,qf,qi,qb,qc,qp,qv,qN,qT,qF,qt]at hQ ⊢
       (have hX:=zA @hfold (zA @hlen0 (zA @hlen (zA @hov (zA @hbd0 (zA @hbd (zA @hba (zA @hgw (zA @hwat (zA (zgE hi) (zA (zgD hi) (zA (zfd hi) (zA (zc3 hi) (zA (zc2 hi) (zA (zc1 hi) @hp2))))))))))))));(repeat' first|refine zaa [0,1,2,3,4,5,6,7,8,9,10,11,12,13,14,15,23,33,54,71,80,84,86,88,97] fun K hK=>?_|(refine hK.go ?_;clear hK K)|with_reducible exact wT|refine wA ?_|(refine wB (fun h=>?_) (fun h=>?_)<;>first|exact wN h|subst (h:(_:Bool)=_)|skip)|(refine wQ ?_;clear hQ hR hE hM)|refine wC c0 ?_|refine wO c1 ?_|refine wS c2 ?_|refine wS c5 ?_|fail);all_goals clear hX)
       all_goals first|rfl|(exfalso;contradiction)|(exfalso;omega)|skip
      ·rw[if_neg (fun h=>hp2 h.1)]
       have e2:decide ((nth s.locks i).phase=2)=false:=decide_eq_false hp2
       refine PC.fn hH cd162 fun w0 M Q hM hE hQ hR=>?_;dsimp only[cd162,qm,ql,qf,qi,qb,qc,qp,qv,qN,qT,qF,qt]at hQ ⊢
       (have hX:=zA @hfold (zA @hlen0 (zA @hlen (zA @hov (zA @hbd0 (zA @hbd (zA @hba (zA @hgw (zA @hwat (zA (zgE hi) (zA (zgD hi) (zA (zfd hi) (zA (zc3 hi) (zA (zc2 hi) (zA (zc1 hi) (zA @e0 (zA @e1 @e2))))))))))))))));(repeat' first|refine zaa [0,1,2,3,4,5,6,7,8,9,10,11,12,13,14,15,23,33,54,71,80,84,86,88,97] fun K hK=>?_|(refine hK.go ?_;clear hK K)|with_reducible exact wT|refine wA ?_|(refine wB (fun h=>?_) (fun h=>?_)<;>first|exact wN h|subst (h:(_:Bool)=_)|skip)|(refine wQ ?_;clear hQ hR hE hM)|refine wC c0 ?_|refine wO c1 ?_|refine wS c2 ?_|fail);all_goals clear hX)
       all_goals first|rfl|(exfalso;contradiction)|(exfalso;omega)|skip
  ·rw[show cnC p s n=zac p s by unfold cnC;rw[if_neg hst]]
   rw[←hRe]at hst ⊢
   revert c0 hRl hst
   generalize ofR p s=R
   obtain ⟨G,Z,hg⟩:=zf7
   rw[←hg.eq]
   intro c0 hRl hst
   have hfold:=hg.fold
   have hlen0:=hg.len (.s0 4) hg.zl hg.zl
   have hlen:=hg.len (.sl 4 (R.ways.map Way.c)) hRl.1 hRl.2
   have hov:=hg.ov (.s0 4) (.sl 4 (R.ways.map Way.c)) hg.zl hg.zl hRl.1 hRl.2
   have hbd0:=hg.bd0 Z Z
   have hbd:=hg.bd R.hold R.ask (R.ways.map Way.c)
   have hba:=hg.ba R.hold R.ask (R.ways.map Way.c)
   refine PC.fn hH cd162 fun w0 M Q hM hE hQ hR=>?_;dsimp only[cd162,qm,ql,qf,qi,qb,qc,qp,qv,qN,qT,qF,qt]at hQ ⊢
   (have hX:=zA @hfold (zA @hlen0 (zA @hlen (zA @hov (zA @hbd0 (zA @hbd @hba)))));(repeat' first|refine zaa [0,1,2,3,4,5,6,7,8,9,10,11,12,13,14,15,23,33,54,71,80,84,86,88,97] fun K hK=>?_|(refine hK.go ?_;clear hK K)|with_reducible exact wT|refine wA ?_|(refine wB (fun h=>?_) (fun h=>?_)<;>first|exact wN h|subst (h:(_:Bool)=_)|skip)|(refine wQ ?_;clear hQ hR hE hM)|refine wC c0 ?_|fail);all_goals clear hX)
   all_goals first|rfl|(exfalso;contradiction)|skip
end Go.Lev
namespace Go.Lev
open Go.Eng
theorem zkq {H:List Int} {fr:Int→Bool}:∀ {l:List Int},zdw H fr l=0↔∀ x∈l,nth H x.toNat=0∧fr x=true
 |[]=>by simp[zdw]
 |x::r=>by
  rw[zdw]
  constructor
  ·intro h
   split at h
   ·rename_i h1
    split at h
    ·rename_i h2
     intro y hy
     rcases List.mem_cons.1 hy with rfl|hy
     ·exact ⟨h1,h2⟩
     ·exact zkq.1 h y hy
    ·cases h
   ·cases h
  ·intro h
   obtain ⟨h1,h2⟩:=h x (by simp)
   rw[if_pos h1,if_pos h2]
   exact zkq.2 fun y hy=>h y (by simp[hy])
def zdd (p:Pln) (i:Nat):List Int:=(zak p (nth p.routes i)).1.path++(zak p (nth p.routes i)).1.over
def zbM (p:Pln) (i:Nat):List AskR:=(zak p (nth p.routes i)).1.asks
structure MaySet (p:Pln) (s:State) (n:Int) (i:Nat):Prop where
 st:zac p s=0
 lt:i<s.locks.length
 id:(nth s.locks i).id=n
 ph:(nth s.locks i).phase=0
 sec:∀ x∈zdd p i,nth (zav p s).1 x.toNat=0∧zbB s x=0
 ask:∀ a∈zbM p i,zcN s a.pnt=a.lie∨(nth (zav p s).2.1 a.pnt.toNat=0∧zbB s (zcK p a.pnt)=0)
theorem zl8 {p:Pln} {s:State} (ho:OkP p) (h:zai p s=true) {A:List Int} {a:AskR}:znj p s A a=true↔zcN s a.pnt=a.lie∨(nth A a.pnt.toNat=0∧zbB s (zcK p a.pnt)=0):=by
 unfold znj
 rw[ziF ho h]
 simp
theorem zmS {p:Pln} {s:State} {n:Int}:lkC p s n=0↔∃ i,MaySet p s n i:=by
 constructor
 ·intro h
  have hst:zac p s=0:=by
   unfold lkC at h
   split at h
   ·assumption
   ·exact h
  rcases zaQ Lock.id n s.locks with ⟨_,hno⟩|⟨i,hi,_,hid⟩
  ·rw[lkC_no hst hno]at h;cases h
  ·rw[zqx hst hi hid]at h
   split at h
   ·rename_i hph
    unfold setE at h
    have ho:=zae hst
    have hpa:=(zab hst).2.1
    split at h
    ·rename_i h1
     split at h
     ·rename_i h2
      refine ⟨i,hst,hi,hid,hph,fun x hx=>?_,fun a ha=>(zl8 ho hpa).1 (List.all_eq_true.1 h2 a ha)⟩
      have:=zkq.1 h1 x hx
      rw[ziF ho hpa,decide_eq_true_eq]at this
      exact this
     ·cases h
    ·rename_i h1;exact absurd h h1
   ·cases h
 ·rintro ⟨i,hst,hi,hid,hph,h1,h2⟩
  have ho:=zae hst
  have hpa:=(zab hst).2.1
  rw[zqx hst hi hid,if_pos hph]
  unfold setE
  have h3:zdw (zav p s).1 (frT s) ((zak p (nth p.routes i)).1.path++(zak p (nth p.routes i)).1.over)=0:=zkq.2 fun x hx=>by
   rw[ziF ho hpa,decide_eq_true_eq];exact h1 x hx
  have h4:(zak p (nth p.routes i)).1.asks.all (znj p s (zav p s).2.1)=true:=List.all_eq_true.2 fun a ha=>(zl8 ho hpa).2 (h2 a ha)
  rw[if_pos h3,if_pos h4]
theorem zlE {p:Pln} {n:Int} (h:∃ x∈p.points,x.id=n):zdY p n=true:=by
 obtain ⟨x,hx,e⟩:=h
 exact List.any_eq_true.2 ⟨x,hx,by simpa using e⟩
section
variable {p:Pln} {s:State} {n:Int} {i:Nat} (h:MaySet p s n i)
include h
theorem MaySet.lkW:lkW p s n=(zak p (nth p.routes i)).1:=by
 unfold Go.Lev.lkW
 rw[if_pos h.st,zkt h.st h.lt h.id,if_neg (by omega),Int.toNat_natCast,if_pos h.ph]
theorem MaySet.lkS:lkS p s n=zga s n (zbM p i):=by
 unfold Go.Lev.lkS
 rw[if_pos (zmS.2 ⟨i,h⟩),h.lkW]
 rfl
theorem MaySet.code:zac p (zga s n (zbM p i))=0:=zpW h.st h.lt h.ph h.id (fun m hm=>(h.sec m hm).1) fun a ha=>by
 rcases h.ask a ha with h1|h1
 ·exact .inl h1
 ·exact .inr h1.1
theorem MaySet.lock {j:Nat} (hj:j<s.locks.length):nth (zga s n (zbM p i)).locks j=if j=i then ⟨n,1,0,0⟩ else nth s.locks j:=by
 rw[zfA h.st h.lt h.id _ hj,(zfF h.st h.lt h.ph).1,(zfF h.st h.lt h.ph).2]
theorem zj7 (q:List AskR):(zga s n q).locks.length=s.locks.length:=za0 _ _ _ _
theorem MaySet.hd {j:Nat} (hj:j<s.locks.length):zgd p (zga s n (zbM p i)) j=if j=i then zdd p i else zgd p s j:=by
 unfold zgd
 rw[h.lock hj]
 by_cases e:j=i
 ·subst e
  rw[if_pos rfl,if_pos rfl]
  unfold zbk
  rw[if_neg (by dsimp only;omega)]
  rfl
 ·rw[if_neg e,if_neg e]
theorem MaySet.as {j:Nat} (hj:j<s.locks.length):zrG p (zga s n (zbM p i)) j=if j=i then zbM p i else zrG p s j:=by
 unfold zrG
 rw[h.lock hj]
 by_cases e:j=i
 ·subst e
  rw[if_pos rfl,if_pos rfl]
  unfold zbQ
  rw[if_neg (by dsimp only;omega)]
  refine List.filter_eq_self.2 fun a _=>?_
  simp only[zcU,Bool.or_eq_true,decide_eq_true_eq]
  omega
 ·rw[if_neg e,if_neg e]
theorem MaySet.rt:nth p.routes i∈p.routes:=by
 have:=zag (zab h.st).2.1
 have:=h.lt
 exact zad (by omega)
theorem MaySet.secR {x:Int} (hx:x∈zdd p i):zlD p x=true∧0≤x:=by
 have ho:=zae h.st
 have hwp:=zbg ((zaU (zab h.st).1).2.1 _ h.rt)
 unfold zdd at hx
 rw[hwp.1,hwp.2.1]at hx
 obtain ⟨q,hq,e⟩:=(zbU ho h.rt).1 x hx
 have:=zcH ho hq
 exact ⟨List.any_eq_true.2 ⟨q,hq,by simpa using e⟩,by omega⟩
theorem MaySet.holds {x:Int} (hx:x∈zdd p i):nth (zav p (zga s n (zbM p i))).1 x.toNat=n:=by
 have hi':i<(zga s n (zbM p i)).locks.length:=by rw[zj7 h];exact h.lt
 have:=(zhz h.code hi' (h.secR hx).2).2 (by rw[h.hd h.lt,if_pos rfl];exact hx)
 rw[this,h.lock h.lt,if_pos rfl]
theorem MaySet.asks {a:AskR} (ha:a∈zbM p i):nth (zav p (zga s n (zbM p i))).2.1 a.pnt.toNat=a.lie:=by
 have hi':i<(zga s n (zbM p i)).locks.length:=by rw[zj7 h];exact h.lt
 exact ask_is h.code hi' (by rw[h.as h.lt,if_pos rfl];exact ha)
theorem MaySet.callsIn {a:AskR} (ha:a∈zbM p i):zcN (zga s n (zbM p i)) a.pnt=a.lie:=by
 have ho:=zae h.st
 have hpa:=(zab h.st).2.1
 rw[zf1]
 refine zf0 _ _ (by rw[zcR hpa];exact zbF ho) (zgR (zab h.st).1 h.rt) a ha ?_
 obtain ⟨x,hx,ex⟩:=(zbz ho h.rt ha).1
 rw[zcR hpa,←ex]
 exact List.mem_map_of_mem hx
end
end Go.Lev
namespace Go.Lev
open Go.Eng
set_option maxRecDepth 10000
set_option maxHeartbeats 4000000
variable {P:Program} {inv:Nat→Option Nat} {w0:World} {M:Nat→Prop}
def zox (s:State) (n:Int):Bool:=s.locks.any fun x=>decide (n=x.id)&&(decide (1=x.phase)&&(decide (0=x.gone)&&decide (0=x.left)))
def lieT (s:State) (a:AskR):Bool:=s.switches.any fun x=>decide (x.id=a.pnt)&&decide (x.lie=a.lie)
def zkh (s:State) (n:Int) (w:WayR):Bool:=zox s n&&(!(w.path.any fun m=>!frT s m)&&(!(w.over.any fun m=>!frT s m)&&!(w.asks.any fun a=>!lieT s a)))
section
variable (hH:HasAll P inv) (s:State) (hs:SmS s)
include hH hs
end
end Go.Lev
namespace Go.Lev
open Go.Eng
set_option maxRecDepth 10000
set_option maxHeartbeats 4000000
variable {P:Program} {inv:Nat→Option Nat} {w0:World} {M:Nat→Prop}
def bool1 (b:Bool):List AV:=[.b b]
instance:Cells bool1 1:=⟨fun _=>rfl,fun _=>rfl⟩
theorem chunks_b (l:List Bool):zbS 1 l.length (l.map AV.b)=l.map bool1:=by
 induction l with
 |nil=>rfl
 |cons x l ih =>
  simp only[List.length_cons,List.map_cons,zbS,List.take_succ_cons,List.take_zero,List.drop_succ_cons,List.drop_zero,ih]
  rfl
attribute [go_sem] bool1 chunks_b
def zdG (p:Pln) (s:State) (r:Rte):Bool:=zkh s r.id (zak p r).1
def zkj (p:Pln) (s:State):List Bool:=p.routes.map (zdG p s)
def zki (p:Pln) (s:State):List Bool:=if zac p s=0 then zkj p s else []
def rtIx (p:Pln) (n:Int):Int:=zbA (fun x=>decide (Rte.id x=n)) 0 p.routes
def isSgn (p:Pln) (n:Int):Bool:=p.signals.any fun x=>decide (x.id=n)
def prR (p:Pln) (s:State) (n:Int):Bool:=if rtIx p n<0 then false else zdG p s (nth p.routes (rtIx p n).toNat)
def prC (p:Pln) (s:State) (n:Int):Int:=if zac p s=0 then (if rtIx p n<0 then 6 else 0) else zac p s
def goB (p:Pln) (s:State) (n:Int):Bool:=p.routes.any fun r=>decide (r.entry=n)&&zdG p s r
def sgC (p:Pln) (s:State) (n:Int):Int:=if zac p s=0 then (if isSgn p n=true then 0 else 6) else zac p s
end Go.Lev
namespace Go.Lev
open Go.Eng
structure Prvd (p:Pln) (s:State) (i:Nat):Prop where
 ph:(nth s.locks i).phase=1
 sec:∀ x∈zdd p i,zbB s x=0
 ask:∀ a∈zbM p i,∀ k,k<s.switches.length→(nth s.switches k).id=a.pnt→(nth s.switches k).lie=a.lie
def pjF (s:State) (secs:List Int) (asks:List AskR) (b0:Bool):Bool :=
 zeq (fun i (t:Bool) zdk=>zeq (fun k (t:Bool) next2=>next2 (t&&(!decide ((nth s.tracks k).id=nth secs i)||decide ((nth s.tracks k).is=0)))) (fun t=>zdk t) s.tracks.length 0 t)
  (fun t=>zeq (fun i (t:Bool) zdk=>zeq (fun k (t:Bool) next2=>next2 (t&&(!decide ((nth s.switches k).id=(nth asks i).pnt)||decide ((nth s.switches k).lie=(nth asks i).lie)))) (fun t=>zdk t) s.switches.length 0 t)
   (fun t=>t) asks.length 0 t)
  secs.length 0 b0
end Go.Lev
namespace Go.Lev
open Go.Eng
section
variable {p:Pln} {s:State} {n m:Int} {i j:Nat} (h:MaySet p s n i)
include h
theorem MaySet.again:lkC p (zga s n (zbM p i)) n=180:=by
 have hi':i<(zga s n (zbM p i)).locks.length:=by rw[zj7 h];exact h.lt
 have hl:=h.lock h.lt
 rw[if_pos rfl]at hl
 rw[zqx h.code hi' (by rw[hl]),hl,if_neg (show ¬(1:Int)=0 by decide)]
theorem MaySet.two (g:MaySet p (zga s n (zbM p i)) m j):(∀ x∈zdd p i,x∉zdd p j)∧∀ a∈zbM p i,∀ b∈zbM p j,a.pnt=b.pnt→a.lie=b.lie:=by
 have hn:=zmT h.st h.lt
 rw[h.id]at hn
 refine ⟨fun x hx hx2=>?_,fun a ha b hb e=>?_⟩
 ·have h1:=h.holds hx
  rw[(g.sec x hx2).1]at h1
  omega
 ·rcases g.ask b hb with h1|h1
  ·rw[←e,h.callsIn ha]at h1
   exact h1
  ·have h2:=h.asks ha
   rw[e,h1.1]at h2
   have:=(zbz (zae h.st) h.rt ha).2.2
   omega
end
def othF (q r:List AskR):Bool :=
 zeq (fun i (t:Bool) zdk=>zeq (fun k (t:Bool) next2=>next2 (t||decide ((nth q i).pnt=(nth r k).pnt)&&!decide ((nth q i).lie=(nth r k).lie))) (fun t=>zdk t) r.length 0 t) (fun t=>t) q.length 0 false
def shrs (a b:List Int):Bool:=a.any fun x=>b.any fun y=>decide (x=y)
end Go.Lev
namespace Go.Lev
open Go.Eng
set_option maxRecDepth 10000
set_option maxHeartbeats 4000000
variable {P:Program} {inv:Nat→Option Nat} {w0:World} {M:Nat→Prop}
structure Shw where
 sig:Int
 asp:Int
 deriving DecidableEq,Inhabited
def Shw.c (x:Shw):List AV:=[.n x.sig,.i .u8 x.asp]
instance:Cells Shw.c 2:=⟨fun _=>rfl,fun _=>rfl⟩
attribute [go_sem] Shw.c
def goX (p:Pln) (f:Rte→Bool) (n:Int):Int:=zbA (fun r=>decide (r.entry=n)&&f r) 0 p.routes
def aspS (p:Pln) (f:Rte→Bool) (n:Int):Int:=if goX p f n<0 then 0 else if (nth p.routes (goX p f n).toNat).exit≠0∧0≤goX p f (nth p.routes (goX p f n).toNat).exit then 2 else 1
def shwL (p:Pln) (s:State):List Shw:=p.signals.map fun x=>⟨x.id,aspS p (zdG p s) x.id⟩
def shwR (p:Pln) (s:State):List Shw:=if zac p s=0 then shwL p s else []
def callL (s:State):List Flk:=(s.switches.filter fun x=>!decide (x.call=0)).map fun x=>⟨x.id,x.call⟩
def callLR (p:Pln) (s:State):List Flk:=if zac p s=0 then callL s else []
end Go.Lev
namespace Go.Lev
open Go.Eng
theorem zfO (s:State) (n v x:Int):zbB (zdh s n v) x=match s.tracks.find? (fun t=>decide (t.id=x)) with|some t=>if t.id=n then v else t.is|none=>2:=by
 unfold zbB zdh zcP
 dsimp only
 rw[List.find?_map]
 have:((fun t:Track=>decide (t.id=x))∘fun t=>if t.id=n then (⟨t.id,v⟩:Track) else t)=fun t=>decide (t.id=x):=by
  funext t;simp only[Function.comp];split<;>rfl
 rw[this]
 cases s.tracks.find? (fun t=>decide (t.id=x)) with
 |none=>rfl
 |some t=>dsimp only[Option.map];split<;>rfl
theorem zg8 {s:State} {n v x:Int} (h:x≠n):zbB (zdh s n v) x=zbB s x:=by
 rw[zfO]
 unfold zbB
 cases e:s.tracks.find? (fun t=>decide (t.id=x)) with
 |none=>rfl
 |some t =>
  have:t.id=x:=by simpa using List.find?_some e
  dsimp only
  rw[if_neg (by rw[this];exact h)]
def inOf (p:Pln) (n:Int):Join:=zn2 (sig p n) ⟨0,0⟩ p.sections
theorem Prvd.hd {p:Pln} {s:State} {i:Nat} (h:zac p s=0) (hi:i<p.routes.length) (g:Prvd p s i):zgd p s i=zdd p i:=by
 have hpa:=(zab h).2.1
 have hl:=zbR hpa (show i<s.locks.length by have:=zag hpa;omega)
 simp only[zbs,zaq,g.ph,Bool.and_eq_true]at hl
 have h3:=hl.2
 simp at h3
 unfold zgd zbk zdd
 rw[g.ph,h3.1,if_neg (by decide)]
 rfl
theorem zca {l:List Int} {k:Nat} (h:k<l.length):(l.map zdl).flatten[k]?=some (.n (nth l k)):=by
 have:=zeL (c:=zdl) (l:=l) (k:=k) (i:=0) h (by omega)
 rw[Nat.mul_one,Nat.add_zero]at this
 rw[this]
 rfl
end Go.Lev
namespace Go.Lev
open Go.Eng
def On (l l':Lock):Prop:=l'=l∨(l'.id=l.id∧(l'.phase=0∨(¬l.phase=0∧¬l'.phase=0∧l.gone≤l'.gone)))
theorem On.held {l l':Lock} (h:On l l') (w:WayR):∀ m∈zbk w l',m∈zbk w l:=by
 intro m hm
 rcases h with rfl|⟨_,h|⟨h1,h2,h3⟩⟩
 ·exact hm
 ·unfold zbk at hm;rw[if_pos h]at hm;cases hm
 ·unfold zbk at hm ⊢
  rw[if_neg h2]at hm
  rw[if_neg h1]
  rcases List.mem_append.1 hm with h4|h4
  ·refine List.mem_append.2 (.inl ?_)
   obtain ⟨k,hk,e⟩:=List.mem_iff_getElem.1 h4
   rw[List.getElem_drop]at e
   rw[List.length_drop]at hk
   have:l.gone.toNat≤l'.gone.toNat:=by omega
   refine List.mem_iff_getElem.2 ⟨l'.gone.toNat-l.gone.toNat+k,by rw[List.length_drop];omega, ?_⟩
   rw[List.getElem_drop,←e]
   congr 1
   omega
  ·exact List.mem_append.2 (.inr h4)
theorem On.asks {l l':Lock} (h:On l l') (w:WayR):∀ a∈(zbQ w l').filter (zcU l'),a∈(zbQ w l).filter (zcU l):=by
 intro a ha
 rcases h with rfl|⟨_,h|⟨h1,h2,h3⟩⟩
 ·exact ha
 ·unfold zbQ at ha;rw[if_pos h]at ha;cases ha
 ·unfold zbQ at ha ⊢
  rw[if_neg h2]at ha
  rw[if_neg h1]
  obtain ⟨h4,h5⟩:=List.mem_filter.1 ha
  refine List.mem_filter.2 ⟨h4, ?_⟩
  simp only[zcU,Bool.or_eq_true,decide_eq_true_eq]at h5 ⊢
  omega
theorem On.id {l l':Lock} (h:On l l'):l'.id=l.id:=by
 rcases h with rfl|h
 ·rfl
 ·exact h.1
theorem On.trans {a b c:Lock} (h:On a b) (g:On b c):On a c:=by
 rcases h with rfl|⟨h1,h2⟩
 ·exact g
 ·rcases g with rfl|⟨g1,g2⟩
  ·exact .inr ⟨h1,h2⟩
  ·refine .inr ⟨g1.trans h1, ?_⟩
   rcases g2 with g2|⟨g2,g3,g4⟩
   ·exact .inl g2
   ·rcases h2 with h2|⟨h2,h3,h4⟩
    ·exact absurd h2 g2
    ·exact .inr ⟨h2,g3,by omega⟩
structure OnS (p:Pln) (s t:State):Prop where
 trk:t.tracks=s.tracks
 swt:t.switches=s.switches
 len:t.locks.length=s.locks.length
 on:∀ i,i<s.locks.length→On (nth s.locks i) (nth t.locks i)
 ok:∀ i,i<s.locks.length→zbs (nth t.locks i) (nth p.routes i)=true
section
variable {p:Pln} {s t:State} (h:zac p s=0) (g:OnS p s t)
include h g
theorem OnS.parts:zai p t=true:=by
 have h2:=(zab h).2.1
 have hl:=zag h2
 unfold zai at h2 ⊢
 simp only[Bool.and_eq_true,zbf]at h2 ⊢
 rw[g.trk,g.swt,g.len]
 exact ⟨h2.1,h2.2.1,h2.2.2.1,g.ok⟩
theorem OnS.code:zac p t=0:=by
 obtain ⟨h1,_,h3,h4⟩:=zfp.1 h
 refine zfp.2 ⟨h1,g.parts h,fun i j hi hj hne m hm hm'=>?_,fun i hi a ha=>?_⟩
 ·rw[g.len]at hi hj
  exact h3 i j hi hj hne m ((g.on i hi).held _ m hm) ((g.on j hj).held _ m hm')
 ·rw[g.len]at hi
  have:zcN t a.pnt=zcN s a.pnt:=by rw[zf1,zf1,g.swt]
  rw[this]
  exact h4 i hi a ((g.on i hi).asks _ a ha)
theorem OnS.sm (hs:SmS s):SmS t:=⟨by rw[g.trk];exact hs.1,by rw[g.swt];exact hs.2.1,by rw[g.len];exact hs.2.2⟩
end
theorem OnS.trans {p:Pln} {a b c:State} (h:OnS p a b) (g:OnS p b c):OnS p a c :=
 ⟨g.trk.trans h.trk,g.swt.trans h.swt,g.len.trans h.len,fun i hi=>(h.on i hi).trans (g.on i (by rw[h.len];exact hi)),fun i hi=>g.ok i (by rw[h.len];exact hi)⟩
theorem stepL_on {r:Rte} {is:Int→Int} {l:Lock} (h:zaq l r=true):On l (zbv r is l):=by
 unfold zbv
 by_cases h1:l.phase=1∨l.phase=4
 ·rw[if_pos h1]
  have hg:l.gone=0:=by
   rcases h1 with e|e
   ·simp only[zaq,e]at h;simp at h;exact h.1
   ·simp only[zaq,e]at h;simp at h;exact h.1
  split
  ·exact .inr ⟨rfl,.inr ⟨by omega,by dsimp only;omega,by dsimp only;omega⟩⟩
  ·exact .inl rfl
 ·rw[if_neg h1]
  by_cases h2:l.phase=2
  ·rw[if_pos h2]
   simp only[zaq,h2]at h
   simp at h
   split
   ·exact .inr ⟨rfl,.inr ⟨by omega,by dsimp only;omega,by dsimp only;omega⟩⟩
   ·split
    ·exact .inr ⟨rfl,.inr ⟨by omega,by dsimp only;omega,by dsimp only;omega⟩⟩
    ·split
     ·exact .inr ⟨rfl,.inl rfl⟩
     ·exact .inl rfl
  ·rw[if_neg h2]
   by_cases h3:l.phase=3
   ·rw[if_pos h3]
    split
    ·exact .inr ⟨rfl,.inl rfl⟩
    ·exact .inl rfl
   ·rw[if_neg h3]
    exact .inl rfl
theorem zjp {r:Rte} {is:Int→Int} (h0:0<r.path.length) (ht:1≤r.timer):∀ (m:Nat) (l:Lock),zaq l r=true→On l (zbp r is m l)∧zaq (zbp r is m l) r=true
 |0,l,h=>⟨.inl rfl,h⟩
 |m+1,l,h=>by
  rw[zbp]
  split
  ·exact ⟨.inl rfl,h⟩
  ·have h1:=(zdR (is:=is) h h0 ht).1
   have ih:=zjp (is:=is) h0 ht m (zbv r is l) h1
   exact ⟨(stepL_on h).trans ih.1,ih.2⟩
theorem zpM {p:Pln} {s:State} (h:zac p s=0):OnS p s (zax p s):=by
 have hpa:=(zab h).2.1
 have ho:=zae h
 have hpl:=zag hpa
 have key:∀ i,i<s.locks.length→nth (zax p s).locks i=za5 (nth p.routes i) (zbB s) (nth s.locks i):=fun i hi=>by
  show nth (s.locks.mapIdx (zhU p s)) i=_
  rw[zaK (by simpa using hi),List.getElem_mapIdx,←zaK hi]
  rfl
 have both:∀ i,i<s.locks.length→On (nth s.locks i) (nth (zax p s).locks i)∧zbs (nth (zax p s).locks i) (nth p.routes i)=true:=fun i hi=>by
  have hr:nth p.routes i∈p.routes:=zad (by omega)
  have h1:=zbR hpa hi
  simp only[zbs,Bool.and_eq_true,decide_eq_true_eq]at h1
  have h2:=zjp (is:=zbB s) (by have:=(zbI ho hr).1;omega) (zdm ho hr).1 (zeb (nth p.routes i) (nth s.locks i)) (nth s.locks i) h1.2
  rw[key i hi]
  unfold za5
  refine ⟨h2.1, ?_⟩
  simp only[zbs,Bool.and_eq_true,decide_eq_true_eq]
  exact ⟨h2.1.id.trans h1.1,h2.2⟩
 exact ⟨rfl,rfl,by show (s.locks.mapIdx (zhU p s)).length=_;simp,fun i hi=>(both i hi).1,fun i hi=>(both i hi).2⟩
end Go.Lev
namespace Go.Lev
open Go.Eng
def zk0:Nat→State→State
 |0,s=>s
 |k+1,s=>zjT (zk0 k s)
@[simp] theorem tickN_0 (s:State):zk0 0 s=s:=rfl
theorem zpu (s:State) {i:Nat} (hi:i<s.locks.length):nth (zjT s).locks i=zcQ (nth s.locks i):=zjw zcQ hi
theorem zrp {p:Pln} {s:State} (h:zac p s=0) {i:Nat} (hi:i<s.locks.length):cnC p s (nth s.locks i).id=cnC0 s (zak p (nth p.routes i)).1 (nth s.locks i):=by
 unfold cnC
 rw[if_pos h,zkt h hi rfl,if_neg (by omega),Int.toNat_natCast]
theorem zrn (p:Pln) (s:State) (n:Int):(cnS p s n).locks.length=s.locks.length:=by unfold cnS;simp
end Go.Lev
namespace Go.Lev
open Go.Eng
set_option maxRecDepth 10000
set_option maxHeartbeats 4000000
variable {P:Program} {inv:Nat→Option Nat} {w0:World} {M:Nat→Prop}
def planA:Pln:=⟨1,0,[⟨1,0,[⟨0,0⟩,⟨2,0⟩]⟩,⟨2,0,[⟨1,1⟩,⟨0,0⟩]⟩],[],[⟨1,1,1⟩],[⟨1,1,0,[2],[],[],3⟩]⟩
def stA:State:=⟨[⟨1,2⟩,⟨2,2⟩],[],[⟨1,0,0,0⟩]⟩
end Go.Lev
namespace Go.Lev
open Go.Eng
theorem of_ar {n:Nat} {e:Sh} {d:D} (h:Sh.ok (.ar n e) d):∃ l,d=.l l∧l.length=n∧∀ x∈l,Sh.ok e x:=by
 cases d with
 |l l=>exact ⟨l,rfl,by simpa only[Sh.ok] using h⟩
 |t _=>exact h.elim
 |n _=>exact h.elim
theorem arg_arr2 {d:D} (h:Sh.ok (.ar 2 (.i .i64)) d):∃ a b:Int,Sh.arg (.ar 2 (.i .i64)) d=.agg [.n a,.n b]:=by
 obtain ⟨l,rfl,hl,h⟩:=of_ar h
 match l,hl,h with
 |[x,y],_,h =>
  obtain ⟨a,rfl,_⟩:=zbb (h x (by simp))
  obtain ⟨b,rfl,_⟩:=zbb (h y (by simp))
  exact ⟨a,b,rfl⟩
theorem arg_bool {d:D} (h:Sh.ok .b d):∃ t,Sh.arg .b d=.b t:=by
 cases d with
 |t t=>exact ⟨t,rfl⟩
 |l _=>exact h.elim
 |n _=>exact h.elim
end Go.Lev
namespace Go.Lev
open Go.Eng
set_option maxRecDepth 10000
set_option maxHeartbeats 4000000
variable {P:Program} {inv:Nat→Option Nat} {w0:World} {M:Nat→Prop}
def planB:Pln:=⟨1,0,[⟨1,0,[⟨0,0⟩,⟨2,0⟩]⟩,⟨2,5,[⟨1,1⟩,⟨3,0⟩,⟨4,0⟩]⟩,⟨3,0,[⟨2,1⟩,⟨0,0⟩]⟩,⟨4,0,[⟨2,2⟩,⟨0,0⟩]⟩],[⟨5,2⟩],[⟨1,1,1⟩],[⟨1,1,0,[2,3],[],[],3⟩]⟩
def stB:State:=⟨[⟨1,2⟩,⟨2,2⟩,⟨3,2⟩,⟨4,2⟩],[⟨5,0,0⟩],[⟨1,0,0,0⟩]⟩
def stB2:State:=⟨[⟨1,2⟩,⟨2,0⟩,⟨3,2⟩,⟨4,2⟩],[⟨5,0,0⟩],[⟨1,0,0,0⟩]⟩
def stB3:State:=⟨[⟨1,2⟩,⟨2,0⟩,⟨3,2⟩,⟨4,2⟩],[⟨5,0,2⟩],[⟨1,0,0,0⟩]⟩
theorem tr_u8 {s:State} (hs:s.ok):∀ t∈s.tracks,0≤t.is:=fun t ht=>(hs.1.2 t ht).2.1
end Go.Lev
namespace Go.Lev
open Go.Eng
set_option maxRecDepth 10000
set_option maxHeartbeats 4000000
variable {P:Program} {inv:Nat→Option Nat} {w0:World} {M:Nat→Prop}
def zdf:Pln:=⟨1,0,[⟨1,0,[⟨0,0⟩,⟨2,0⟩]⟩,⟨2,5,[⟨1,1⟩,⟨3,0⟩,⟨4,0⟩]⟩,⟨3,0,[⟨2,1⟩,⟨0,0⟩]⟩,⟨4,0,[⟨2,2⟩,⟨0,0⟩]⟩],[⟨5,2⟩],[⟨1,1,1⟩],[⟨1,1,0,[2,3],[],[],3⟩,⟨2,1,0,[2,4],[],[],4⟩]⟩
theorem smC:Sm zdf:=⟨by decide,by decide,by decide,by decide,by decide,by decide⟩
def stN:State:=⟨[⟨1,2⟩,⟨2,2⟩,⟨3,2⟩,⟨4,2⟩],[⟨5,0,0⟩],[⟨1,0,0,0⟩,⟨2,0,0,0⟩]⟩
def stQ:State:=⟨[⟨1,0⟩,⟨2,0⟩,⟨3,0⟩,⟨4,0⟩],[⟨5,0,0⟩],[⟨1,0,0,0⟩,⟨2,0,0,0⟩]⟩
def znC:State:=⟨[⟨1,0⟩,⟨2,0⟩,⟨3,0⟩,⟨4,0⟩],[⟨5,0,1⟩],[⟨1,1,0,0⟩,⟨2,0,0,0⟩]⟩
theorem smQ:SmS stQ:=⟨by decide,by decide,by decide⟩
theorem okC:zbH zdf=true:=by decide +kernel
theorem atC:atS zdf=stN:=by decide +kernel
def zfg (_:Nat) (t:Track):Track:=⟨t.id,0⟩
theorem zgm (b:Nat) (s:State) (t:Bool):zef 4 (zf9 b s) (.tup [zf8 b s,.b t])=.tup [.agg s.c,.b t]:=by
 rw[zeX,zb7,zb7,zd6,zk3,sn_b]
end Go.Lev
namespace Go.Lev
open Go.Eng
set_option maxRecDepth 10000
set_option maxHeartbeats 4000000
variable {P:Program} {inv:Nat→Option Nat} {w0:World} {M:Nat→Prop}
theorem zbO {p:Pln} {s:State} {n v:Int} (h:zac p s=0):zbw p s n v=0↔ziw s n∧(v=0∨v=1):=by
 unfold zbw
 rw[if_pos h]
 by_cases h1:ziw s n
 ·rw[if_pos h1]
  by_cases h2:v=0∨v=1
  ·rw[if_pos h2];simp[h1,h2]
  ·rw[if_neg h2];simp[h2]
 ·rw[if_neg h1];simp[h1]
theorem zdL {p:Pln} {s:State} {n v:Int} (h:zac p s=0):zcu p s n v=0↔zky s n∧(0≤v∧v≤2):=by
 unfold zcu
 rw[if_pos h]
 by_cases h1:zky s n
 ·rw[if_pos h1]
  by_cases h2:0≤v∧v≤2
  ·rw[if_pos h2];simp[h1,h2]
  ·rw[if_neg h2];simp[h2]
 ·rw[if_neg h1];simp[h1]
def hasT (s:State) (n:Int):Bool:=s.tracks.any fun t=>decide (t.id=n)
def hasW (s:State) (n:Int):Bool:=s.switches.any fun t=>decide (t.id=n)
def ibF (s A B:State) (n v e1 e2:Int):Bool :=
 zeq (fun k t zdk =>
   cond (decide (e1=0)&&(decide ((nth s.tracks k).id=n)&&!decide ((nth A.tracks k).is=v)||!decide ((nth s.tracks k).id=n)&&!(decide ((nth A.tracks k).id=(nth s.tracks k).id)&&decide ((nth A.tracks k).is=(nth s.tracks k).is))))
    false (zdk (t||decide ((nth s.tracks k).id=n))))
  (fun t=>zeq (fun k u zdk =>
    cond (decide (e2=0)&&(decide ((nth s.switches k).id=n)&&(!decide ((nth B.switches k).lie=v)||!decide ((nth B.switches k).call=(nth s.switches k).call))||!decide ((nth s.switches k).id=n)&&!(decide ((nth B.switches k).id=(nth s.switches k).id)&&(decide ((nth B.switches k).lie=(nth s.switches k).lie)&&decide ((nth B.switches k).call=(nth s.switches k).call)))))
     false (zdk (u||decide ((nth s.switches k).id=n))))
   (fun u=>decide (decide (e1=0)=(t&&(decide (v=0)||decide (v=1))))&&decide (decide (e2=0)=(u&&(decide (0≤v)&&decide (v≤2)))))
   s.switches.length 0 false)
  s.tracks.length 0 false
end Go.Lev
namespace Go.Lev
open Go.Eng
set_option maxRecDepth 10000
set_option maxHeartbeats 4000000
variable {P:Program} {inv:Nat→Option Nat} {w0:World} {M:Nat→Prop}
theorem sSame_sm (hH:HasAll P inv) {a b:State} (h:SmS a):PC P inv 11 [.agg a.c,.agg b.c] (·=.b (decide (a=b))):=sSame_pc hH a b (by have:=h.1;omega) (by have:=h.2.1;omega) (by have:=h.2.2;omega)
theorem zhu (hH:HasAll P inv) {a b:State} (h:SmS a) (e:a=b):PC P inv 11 [.agg a.c,.agg b.c] (·=.b true):=by
 have:=sSame_sm hH (b:=b) h
 rw[decide_eq_true e]at this
 exact this
end Go.Lev
namespace Go.Lev
open Go.Eng
set_option maxRecDepth 10000
set_option maxHeartbeats 4000000
variable {P:Program} {inv:Nat→Option Nat} {w0:World} {M:Nat→Prop}
theorem setQ1:lkC zdf stQ 1=0:=by decide +kernel
theorem setQ2:lkS zdf stQ 1=znC:=by decide +kernel
def stQ2:State:=⟨[⟨1,0⟩,⟨2,0⟩,⟨3,0⟩,⟨4,0⟩],[⟨5,1,1⟩],[⟨1,1,0,0⟩,⟨2,0,0,0⟩]⟩
theorem smQ1:SmS znC:=⟨by decide,by decide,by decide⟩
end Go.Lev
namespace Go.Lev
open Go.Eng
structure Giv (r:Rte) (is:Int→Int) (l l':Lock):Prop where
 same:l'.phase=1∨l'.phase=4→l'=l
 rest:l.phase=0→l'=l
 gone:¬l'.phase=0→l.gone≤l'.gone
 free:¬l'.phase=0→∀ m∈r.path.drop l.gone.toNat,m∉r.path.drop l'.gone.toNat→is m=0
theorem Giv.refl (r:Rte) (is:Int→Int) (l:Lock):Giv r is l l:=⟨fun _=>rfl,fun _=>rfl,fun _=>Int.le_refl _,fun _ _ h h'=>absurd h h'⟩
theorem Giv.trans {r:Rte} {is:Int→Int} {a b c:Lock} (h:Giv r is a b) (g:Giv r is b c):Giv r is a c:=by
 have hb:¬c.phase=0→¬b.phase=0:=fun h1 h2=>h1 (by rw[g.rest h2];exact h2)
 refine ⟨fun e=>?_,fun e=>?_,fun e=>Int.le_trans (h.gone (hb e)) (g.gone e),fun e m hm hm'=>?_⟩
 ·have h1:=g.same e
  rw[h1]at e ⊢
  exact h.same e
 ·have h1:=h.rest e
  rw[h1]at g
  exact g.rest e
 ·by_cases h1:m∈r.path.drop b.gone.toNat
  ·exact g.free e m h1 hm'
  ·exact h.free (hb e) m hm h1
theorem zpD {r:Rte} {is:Int→Int} {l:Lock} (h:zaq l r=true) (h0:0<r.path.length):Giv r is l (zbv r is l):=by
 unfold zbv
 by_cases h1:l.phase=1∨l.phase=4
 ·rw[if_pos h1]
  split
  ·have hg:l.gone=0:=by
    rcases h1 with e|e
    ·simp only[zaq,e]at h;simp at h;exact h.1
    ·simp only[zaq,e]at h;simp at h;exact h.1
   refine ⟨fun e=>by dsimp only at e;omega,fun e=>by omega,fun _=>by dsimp only;omega,fun _ m hm hm'=>?_⟩
   dsimp only at hm'
   rw[hg]at hm
   exact absurd hm hm'
  ·exact .refl _ _ _
 ·rw[if_neg h1]
  by_cases h2:l.phase=2
  ·rw[if_pos h2]
   simp only[zaq,h2]at h
   simp at h
   split
   ·rename_i h3
    refine ⟨fun e=>by dsimp only at e;omega,fun e=>by omega,fun _=>by dsimp only;omega,fun _ m hm hm'=>?_⟩
    dsimp only at hm'
    rw[zaj (show l.gone.toNat<r.path.length by omega)]at hm
    rw[show (l.gone+1).toNat=l.gone.toNat+1 by omega]at hm'
    rcases List.mem_cons.1 hm with rfl|hm
    ·exact h3.2.1
    ·exact absurd hm hm'
   ·split
    ·rename_i h3
     refine ⟨fun e=>by dsimp only at e;omega,fun e=>by omega,fun _=>by dsimp only;omega,fun _ m hm hm'=>?_⟩
     dsimp only at hm'
     rw[←h3.1]at hm'
     exact absurd hm hm'
    ·split
     ·exact ⟨fun e=>by dsimp only at e;omega,fun e=>by omega,fun e=>absurd rfl e,fun e=>absurd rfl e⟩
     ·exact .refl _ _ _
  ·rw[if_neg h2]
   by_cases h3:l.phase=3
   ·rw[if_pos h3]
    split
    ·exact ⟨fun e=>by dsimp only at e;omega,fun e=>by omega,fun e=>absurd rfl e,fun e=>absurd rfl e⟩
    ·exact .refl _ _ _
   ·rw[if_neg h3]
    exact .refl _ _ _
theorem zhT {r:Rte} {is:Int→Int} (h0:0<r.path.length) (ht:1≤r.timer):∀ (m:Nat) (l:Lock),zaq l r=true→Giv r is l (zbp r is m l)
 |0,l,_=>.refl _ _ _
 |m+1,l,h=>by
  rw[zbp]
  split
  ·exact .refl _ _ _
  ·exact (zpD h h0).trans (zhT h0 ht m _ (zdR h h0 ht).1)
section
variable {p:Pln} {s:State} (h:zac p s=0) {i:Nat} (hi:i<s.locks.length)
include h hi
theorem zgq:nth (zax p s).locks i=za5 (nth p.routes i) (zbB s) (nth s.locks i):=by
 show nth (s.locks.mapIdx (zhU p s)) i=_
 rw[zcp _ hi]
 rfl
theorem zht:nth p.routes i∈p.routes∧0<(nth p.routes i).path.length∧1≤(nth p.routes i).timer∧zaq (nth s.locks i) (nth p.routes i)=true:=by
 have hpa:=(zab h).2.1
 have hr:nth p.routes i∈p.routes:=zad (by have:=zag hpa;omega)
 have h1:=zbR hpa hi
 simp only[zbs,Bool.and_eq_true,decide_eq_true_eq]at h1
 exact ⟨hr,by have:=(zbI (zae h) hr).1;omega,(zdm (zae h) hr).1,h1.2⟩
theorem znH:Giv (nth p.routes i) (zbB s) (nth s.locks i) (nth (zax p s).locks i):=by
 obtain ⟨_,h2,h3,h4⟩:=zht h hi
 rw[zgq h hi]
 exact zhT h2 h3 _ _ h4
end
theorem zcw (p:Pln) (s:State):(zax p s).locks.length=s.locks.length:=by simp[zax]
theorem zj5 {p:Pln} {s:State} (hs:SmS s):SmS (zax p s):=⟨hs.1,hs.2.1,by rw[zcw];exact hs.2.2⟩
theorem zcF {p:Pln} {s:State} (h:zac p s=0):zac p (zax p s)=0:=(zpM h).code h
theorem zfz {p:Pln} {s:State} (h:zac p s=0):zax p (zax p s)=zax p s:=by
 have e:(zax p (zax p s)).locks=(zax p s).locks:=by
  refine zrb (by rw[zcw]) fun i hi=>?_
  rw[zcw]at hi
  have hi':i<s.locks.length:=by rw[zcw]at hi;exact hi
  obtain ⟨_,h2,h3,h4⟩:=zht h hi'
  rw[zgq (zcF h) hi,zgq h hi']
  exact zbZ (zjo h4 h2 h3).2.1
 unfold zax at e ⊢
 dsimp only at e ⊢
 rw[e]
def pgvB (a b:Lock) (was now is:Int):Bool :=
 (decide (b.phase=1)&&!decide (a.phase=1))||((decide (b.phase=4)&&!decide (a=b))||((decide (a.phase=0)&&!decide (a=b))||((decide (b.gone<a.gone)&&!decide (b.phase=0)) ||
  (decide (a.id=was)&&(decide (now=0)&&(!decide (was=0)&&(!decide (is=0)&&!decide (b.phase=0))))))))
section
variable {p:Pln} {s:State} (h:zac p s=0) {n:Int}
include h
end
end Go.Lev
namespace Go.Lev
open Go.Eng
def zhp (f:Nat→Bool):Nat→Int
 |0=>0
 |k+1=>if f k=true then zhp f k+1 else zhp f k
def zhD (g:Nat→Nat→Bool) (n:Nat):Nat→Int
 |0=>0
 |i+1=>zhD g n i+zhp (g i) n
@[simp] theorem cnt1_0 (f:Nat→Bool):zhp f 0=0:=rfl
@[simp] theorem cnt2_0 (g:Nat→Nat→Bool) (n:Nat):zhD g n 0=0:=rfl
def isN (l:List Track) (n:Int):Nat→Int
 |0=>0
 |k+1=>if (nth l k).id=n then (nth l k).is else isN l n k
@[simp] theorem isN_0 (l:List Track) (n:Int):isN l n 0=0:=rfl
def pkB (a b:Lock) (tk fr:Int):Bool:=((decide (a.phase=1)||decide (a.phase=4))&&decide (decide (0<tk)=decide (a=b)))||(decide (tk=0)&&(decide (fr=0)&&!decide (a=b)))
def pkG (s:State) (path:List Int) (v:Int) (i k:Nat):Bool:=decide ((nth s.tracks k).id=nth path i)&&decide ((nth s.tracks k).is=v)
end Go.Lev
namespace Go.Lev
open Go.Eng
set_option maxRecDepth 10000
set_option maxHeartbeats 4000000
variable {P:Program} {inv:Nat→Option Nat} {w0:World} {M:Nat→Prop}
theorem zig (hH:HasAll P inv):PC P inv 166 [] (·=.agg zdf.c):=by
 have h:PC P inv 166 [] (·=.agg [.n 1,.n 0,.sl 3 (zdf.sections.map Section.c),.sl 2 (zdf.points.map Pnt.c),.sl 3 (zdf.signals.map Sgn.c),.sl 7 [[.n 1,.n 1,.n 0,.sl 1 [[.n 2],[.n 3]],.s0 1,.s0 2,.n 3],[.n 2,.n 1,.n 0,.sl 1 [[.n 2],[.n 4]],.s0 1,.s0 2,.n 4]]]):=by
  refine PC.fn hH cd166 fun w0 M Q hM hE hQ hR=>?_;dsimp only[cd166,qm,ql,qf,qi,qb,qc,qp,qv,qN,qT,qF,qt]at hQ ⊢
  (repeat' first|refine zaa [0] fun K hK=>?_|(refine hK.go ?_;clear hK K)|with_reducible exact wT|refine wA ?_|(refine wB (fun h=>?_) (fun h=>?_)<;>first|exact wN h|subst (h:(_:Bool)=_)|skip)|(refine wQ ?_;clear hQ hR hE hM)|fail)
  rfl
 exact h.nzr
theorem zoI (hH:HasAll P inv) (hI:HasIds P inv):PC P inv 165 [] (·=.tup [.agg stQ.c,.b true]):=by
 suffices h:PO P inv 165 [] (.tup [zf8 3 stQ,.b true]) (zf9 3 stQ) by
  have:=h.pc
  rw[zgm]at this
  exact this
 have c0:=zig hH
 have c1:=zp2 hH hI zdf smC okC
 rw[atC]at c1
 unfold stV stR at c1
 have e1:stN.tracks.length=4:=rfl
 have e2:stN.switches.length=1:=rfl
 have e3:stN.locks.length=2:=rfl
 have q1:stN.tracks.mapIdx zfg=stQ.tracks:=rfl
 have q2:stN.switches=stQ.switches:=rfl
 have q3:stN.locks=stQ.locks:=rfl
 have r1:stQ.tracks.length=4:=rfl
 have r2:stQ.switches.length=1:=rfl
 have r3:stQ.locks.length=2:=rfl
 generalize stN=S at *
 generalize stQ=T at *
 rw[e1,e2,e3]at c1
 refine PO.fn hH cd165 fun w0 M Q hM hE hQ hR=>?_;dsimp only[cd165,qm,ql,qf,qi,qb,qc,qp,qv,qN,qT,qF,qt]at hQ ⊢
 (have hX:=zA @e1 (zA @e2 @e3);(repeat' first|refine zaa [0,1,2,3,4,14] fun K hK=>?_|(refine hK.go ?_;clear hK K)|with_reducible exact wT|refine wA ?_|(refine wB (fun h=>?_) (fun h=>?_)<;>first|exact wN h|subst (h:(_:Bool)=_)|skip)|(refine wR ?_;clear hQ hR hE hM)|refine wC c0 ?_|refine wO c1 ?_|fail);all_goals clear hX)
 refine zap (ι:=Nat) [0,1,2,3,4] (fun z=>[(4,.n z)]) (fun z=>[(3,.cells ((zdz zfg z S.tracks).map Track.c).flatten true)]) (fun z=>z) (4) (fun _=>True) (0) ?_;rintro k ⟨hk,-⟩;(try dsimp only at hk ⊢);rcases Nat.lt_or_ge k 4 with hlt|hge
 ·have hk:k<S.tracks.length:=by omega
  have d1:=zcv zfg hk
  have d2:=zbo (c:=Track.c) (l:=zdz zfg k S.tracks) (k:=k) (i:=1) (by rw[zbm];exact hk) (by omega) (.i .u8 0) (zfg k (nth S.tracks k)) (by rw[zby _ hk];rfl)
  rw[d1]at d2
  (have hX:=@d2;(repeat' first|refine zaa [0,1,2,3,4,14] fun K hK=>?_|(refine hK.go ?_;clear hK K)|with_reducible exact wT|refine wA ?_|(refine wB (fun h=>?_) (fun h=>?_)<;>first|exact wN h|subst (h:(_:Bool)=_)|skip)|(refine wR ?_;clear hQ hR hE hM)|fail);all_goals clear hX)
  exact ⟨k+1,by omega,by omega,by omega,rfl⟩
 ·rw[zcZ _ (by omega),q1]
  (repeat' first|refine zaa [0,1,2,3,4,14] fun K hK=>?_|(refine hK.go ?_;clear hK K)|with_reducible exact wT|refine wA ?_|(refine wB (fun h=>?_) (fun h=>?_)<;>first|exact wN h|subst (h:(_:Bool)=_)|skip)|(refine wR ?_;clear hQ hR hE hM)|fail)
  all_goals first|(exfalso;omega)|skip
  left
  unfold zf8 zf9
  rw[r1,r2,r3,←q2,←q3]
  constructor
  ·(try (refine no_implicit_lambda% (st ?_);try with_reducible exact wT))
   first|rfl|(simp;done)|trace_state
  ·(try (refine no_implicit_lambda% (st ?_);try with_reducible exact wT))
   first|rfl|(simp;done)|trace_state
def stQ3:State:=⟨[⟨1,0⟩,⟨2,1⟩,⟨3,0⟩,⟨4,0⟩],[⟨5,0,1⟩],[⟨1,1,0,0⟩,⟨2,0,0,0⟩]⟩
def stQ4:State:=⟨[⟨1,0⟩,⟨2,1⟩,⟨3,0⟩,⟨4,0⟩],[⟨5,0,1⟩],[⟨1,2,0,0⟩,⟨2,0,0,0⟩]⟩
theorem smQ3:SmS stQ3:=⟨by decide,by decide,by decide⟩
theorem sec13:zbw zdf znC 2 1=0∧secR zdf znC 2 1=stQ3:=by
 have h:zbw zdf znC 2 1=0:=(zbO (by decide +kernel)).2 ⟨⟨⟨2,0⟩,by decide,rfl⟩,by decide⟩
 exact ⟨h,by unfold secR;rw[if_pos h];rfl⟩
theorem zps (hH:HasAll P inv) (hI:HasIds P inv):PC P inv 167 [.agg znC.c,.n 2,.n 1] (·=.tup [.agg stQ4.c,.b true]):=by
 have c0:=zig hH
 have c1:=zlb hH hI zdf smC znC smQ1 2 1
 have c2:=zdc hH hI zdf smC stQ3 smQ3
 rw[sec13.1,sec13.2]at c1
 rw[show zcS zdf stQ3=stQ4 by decide +kernel,show zac zdf stQ3=0 by decide +kernel]at c2
 unfold znC at c1 ⊢
 unfold stQ3 at c1 c2
 unfold stQ4 at c2 ⊢
 refine PC.fn hH cd167 fun w0 M Q hM hE hQ hR=>?_;dsimp only[cd167,qm,ql,qf,qi,qb,qc,qp,qv,qN,qT,qF,qt]at hQ ⊢
 (repeat' first|refine zaa [0,1,2,3,6,7,8,9,15,21] fun K hK=>?_|(refine hK.go ?_;clear hK K)|with_reducible exact wT|refine wA ?_|(refine wB (fun h=>?_) (fun h=>?_)<;>first|exact wN h|subst (h:(_:Bool)=_)|skip)|(refine wQ ?_;clear hQ hR hE hM)|refine wU c0 ?_|refine wU c1 ?_|refine wU c2 ?_|refine wC c0 ?_|refine wC c1 ?_|refine wC c2 ?_|fail)
 all_goals first|rfl|(exfalso;contradiction)|trace_state
theorem zgT (hH:HasAll P inv) (hI:HasIds P inv):PC P inv 164 [] (·=.b true):=by
 have c0:=zig hH
 have c1:=zoI hH hI
 have c2:=zgC hH hI zdf smC stQ smQ 1
 have c3:=zps hH hI
 rw[setQ1,setQ2]at c2
 unfold stQ at c1 c2
 unfold znC at c2 c3
 unfold stQ4 at c3
 refine PC.fn hH cd164 fun w0 M Q hM hE hQ hR=>?_;dsimp only[cd164,qm,ql,qf,qi,qb,qc,qp,qv,qN,qT,qF,qt]at hQ ⊢
 (repeat' first|refine zaa [0,1,2,3,4,12] fun K hK=>?_|(refine hK.go ?_;clear hK K)|with_reducible exact wT|refine wA ?_|(refine wB (fun h=>?_) (fun h=>?_)<;>first|exact wN h|subst (h:(_:Bool)=_)|skip)|(refine wQ ?_;clear hQ hR hE hM)|refine wC c1 ?_|refine wU c0 ?_|refine wU c2 ?_|refine wU c3 ?_|refine wC c0 ?_|refine wC c2 ?_|refine wC c3 ?_|fail)
 all_goals first|rfl|(exfalso;contradiction)|trace_state
end Go.Lev
