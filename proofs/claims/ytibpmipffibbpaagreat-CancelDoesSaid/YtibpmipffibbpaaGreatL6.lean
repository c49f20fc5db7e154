/-
  A part of the engine that walks the functions' codes, and of the functions' contracts. Conditions: those that each theorem names.
-/
import Derived.Test.YtibpmipffibbpaaGreatL5
import Derived.IntWalk
set_option linter.unusedSimpArgs false
set_option linter.unusedVariables false
set_option linter.unusedSectionVars false
namespace Go.Lev
open Go.Eng
theorem zpH {p:Pln} {s:State} (ho:OkP p) (h:zak p s=true) {k:Nat} (hk:k<s.tracks.length):zc6 s (nth s.tracks k).id=(nth s.tracks k).is:=by
 unfold zc6
 rw[zjZ Track.id (by rw[zlA h];exact zkv ho) hk rfl]
def peF (p:Pln) (s:State) (n e a g m:Int):Bool :=
 zaK (fun i _ za9=>cond (!decide ((nth p.points i).id=n)) (za9 ())
   (cond (!decide (a=0)) (decide (e=170))
    (zaK (fun k _ next2=>cond (decide ((nth s.tracks k).id=(nth p.points i).sec)&&!decide ((nth s.tracks k).is=0)) (decide (e=171)) (next2 ()))
     (fun _=>decide (e=0)&&decide (g=0)&&decide (m=0)) s.tracks.length 0 ())))
  (fun _=>decide (e=6)) p.points.length 0 ()
def pfF (p:Pln) (s:State) (n v e a c:Int):Bool :=
 zaK (fun i (st:Bool×Int) za9=>cond (!decide ((nth p.points i).id=n)) (za9 st)
   (zaK (fun k (fr:Bool) next2=>next2 (fr||decide ((nth s.tracks k).id=(nth p.points i).sec)&&decide ((nth s.tracks k).is=0)))
    (fun fr=>za9 (fr,(i:Int))) s.tracks.length 0 st.1))
  (fun st=>cond (!decide (decide (e=0)=(decide (0≤st.2)&&(decide (v=1)||decide (v=2))&&decide (c=0)&&decide (a=0)&&st.1))) false true) p.points.length 0 (false,-1)
end Go.Lev
namespace Go.Lev
open Go.Eng
set_option maxRecDepth 10000
set_option maxHeartbeats 4000000
variable {P:Program} {inv:Nat→Option Nat} {w0:World} {M:Nat→Prop}
theorem zpV (hH:HasAll P inv) {jc:Nat} {caps:List AV} {q:Int→Bool} (l:List Int) (hc:∀ x∈l,PC P inv jc ([.n x]++caps) (·=.b (q x))) (hl:l.length≤1000000000):PC P inv 177 [.sl 1 (l.map zcP),.fn jc caps] (·=.b (l.any q)):=by
 have c1:=idx_int hH l hc hl
 have e:=zpS q l
 refine PC.fn hH cd177 fun w0 M Q hM hE hQ hR=>?_;dsimp only[cd177,qm,ql,qf,qi,qb,qc,qp,qv,qN,qT,qF,qt]at hQ ⊢
 (have hX:=@e;(repeat' first|refine zaa [0,1,4] fun K hK=>?_|(refine hK.go ?_;clear hK K)|with_reducible exact wT|refine wA ?_|(refine wB (fun h=>?_) (fun h=>?_)<;>first|exact wN h|subst (h:(_:Bool)=_)|skip)|(refine wQ ?_;clear hQ hR hE hM)|refine wC c1 ?_|fail);all_goals clear hX)
def frT (s:State) (n:Int):Bool:=s.tracks.any fun x=>decide (n=x.id)&&decide (0=x.is)
end Go.Lev
namespace Go.Lev
open Go.Eng
set_option maxRecDepth 10000
set_option maxHeartbeats 4000000
variable {P:Program} {inv:Nat→Option Nat} {w0:World} {M:Nat→Prop}
def zeC (s:State) (n:Int):Int:=zaZ (fun x=>decide (Lock.id x=n)) 0 s.locks
def zdi (H:List Int) (fr:Int→Bool):List Int→Int
 |[]=>0
 |x::r=>if nth H x.toNat=0 then (if fr x=true then zdi H fr r else 182) else 181
def zmr (p:Pln) (s:State) (A:List Int) (a:AskR):Bool:=decide (zby s a.pnt=a.lie)||(decide (nth A a.pnt.toNat=0)&&frT s (zef p a.pnt))
def setE (p:Pln) (s:State) (i:Nat):Int :=
 if zdi (zaO p s).1 (frT s) ((zah p (nth p.routes i)).1.path++(zah p (nth p.routes i)).1.over)=0 then (if (zah p (nth p.routes i)).1.asks.all (zmr p s (zaO p s).2.1)=true then 0 else 183)
 else zdi (zaO p s).1 (frT s) ((zah p (nth p.routes i)).1.path++(zah p (nth p.routes i)).1.over)
def lkC (p:Pln) (s:State) (n:Int):Int:=if zag p s=0 then (if zeC s n<0 then 6 else if (nth s.locks (zeC s n).toNat).phase=0 then setE p s (zeC s n).toNat else 180) else zag p s
def lkW (p:Pln) (s:State) (n:Int):WayR:=if zag p s=0 then (if zeC s n<0 then WayR.z else if (nth s.locks (zeC s n).toNat).phase=0 then (zah p (nth p.routes (zeC s n).toNat)).1 else WayR.z) else WayR.z
def askE (ok:AskR→Bool):Int→List AskR→Int
 |e,[]=>e
 |e,a::r=>askE ok (if e=0 then (if ok a=true then 0 else 183) else e) r
end Go.Lev
namespace Go.Lev
open Go.Eng
set_option maxRecDepth 10000
set_option maxHeartbeats 4000000
variable {P:Program} {inv:Nat→Option Nat} {w0:World} {M:Nat→Prop}
def zbd (q:List AskR) (l:List Switch):List Switch:=q.foldl (fun l a=>zd2 Switch.id a.pnt (fun t=>⟨t.id,t.lie,a.lie⟩) l) l
theorem zgm (q:List AskR):∀ l:List Switch,(zbd q l).map Switch.id=l.map Switch.id:=by
 induction q with
 |nil=>intro l;rfl
 |cons a q ih=>intro l;show (zbd q _).map Switch.id=_;rw[ih,zi8 Switch.id a.pnt (fun t=>⟨t.id,t.lie,a.lie⟩) (fun _=>rfl)]
theorem zdy (q:List AskR) (l:List Switch):(zbd q l).length=l.length:=by
 have:=congrArg List.length (zgm q l)
 simpa using this
theorem zn9 (l:List Switch):zbd [] l=l:=rfl
attribute [go_sem] zn9
def zgP (s:State) (n:Int) (q:List AskR):State:=⟨s.tracks,zbd q s.switches,zd2 Lock.id n (fun l=>⟨l.id,1,l.gone,l.left⟩) s.locks⟩
def zop (n:Int) (_:Nat) (l:Lock):Lock:=if l.id=n then ⟨l.id,1,l.gone,l.left⟩ else l
end Go.Lev
namespace Go.Lev
open Go.Eng
theorem zkP:∀ (l:List AskR) (m:List Bool),m.length=100→(∀ a∈l,0≤a.pnt∧a.pnt≤99)→(zkQ m l=true↔(∀ a∈l,nth m a.pnt.toNat=false)∧(l.map AskR.pnt).Nodup)
 |[],m,_,_=>by simp[zkQ]
 |a::r,m,hm,hr=>by
  have h0:=hr a (by simp)
  have ih:=zkP r (m.set a.pnt.toNat true) (by simpa using hm) fun b hb=>hr b (by simp[hb])
  rw[zkQ,Bool.and_eq_true,ih]
  simp only[List.map_cons,List.nodup_cons,List.mem_cons,forall_eq_or_imp,Bool.not_eq_true',List.mem_map,not_exists,not_and]
  have key:∀ b∈r,nth (m.set a.pnt.toNat true) b.pnt.toNat=false↔(nth m b.pnt.toNat=false∧b.pnt≠a.pnt):=fun b hb=>by
   have hb':=hr b (by simp[hb])
   rw[za4 _ _ _ _ (by omega)]
   by_cases e:b.pnt=a.pnt
   ·rw[e,if_pos rfl];simp
   ·rw[if_neg (by omega)];simp[e]
  constructor
  ·rintro ⟨h1,h2,h3⟩
   exact ⟨⟨h1,fun b hb=>((key b hb).1 (h2 b hb)).1⟩,fun b hb=>((key b hb).1 (h2 b hb)).2,h3⟩
  ·rintro ⟨⟨h1,h2⟩,h3,h4⟩
   exact ⟨h1,fun b hb=>(key b hb).2 ⟨h2 b hb,h3 b hb⟩,h4⟩
theorem zm3 {l:List AskR} (h:∀ a∈l,0≤a.pnt∧a.pnt≤99):once l=true↔(l.map AskR.pnt).Nodup:=by
 unfold once
 rw[zkP l _ (by simp) h]
 constructor
 ·exact fun h=>h.2
 ·intro h2
  exact ⟨fun a ha=>by have:=h a ha;exact zdh _ _ _ (by omega),h2⟩
theorem zgq {p:Pln} (ho:zba p=true) {r:Rte} (hr:r∈p.routes):((zah p r).1.asks.map AskR.pnt).Nodup:=by
 obtain ⟨hok,_,h3⟩:=zaN ho
 have:=h3 r hr
 simp only[zbA,Bool.and_eq_true]at this
 exact (zm3 fun a ha=>by have:=zbG hok hr ha;omega).1 this.1
def zeW (l:List Switch) (n:Int):Int:=zfV (zg3 [] l) n
theorem zob (l:List Switch) {n m:Int} (v:Int) (h:m≠n):zeW (zd2 Switch.id n (fun t=>⟨t.id,t.lie,v⟩) l) m=zeW l m:=zjM n v m h l [] [] rfl
theorem zqr {l:List Switch} (hn:(l.map Switch.id).Nodup) {n:Int} (v:Int) (h:n∈l.map Switch.id):zeW (zd2 Switch.id n (fun t=>⟨t.id,t.lie,v⟩) l) n=v:=by
 obtain ⟨x,hx,e⟩:=List.mem_map.1 h
 have h1:(⟨x.id,x.lie,v⟩:Switch)∈zd2 Switch.id n (fun t=>⟨t.id,t.lie,v⟩) l:=by
  unfold zd2
  exact List.mem_map.2 ⟨x,hx,by rw[if_pos e]⟩
 have:=zl2 (zd2 Switch.id n (fun t=>⟨t.id,t.lie,v⟩) l) [] (by rw[zi8 Switch.id n (fun t=>⟨t.id,t.lie,v⟩) (fun _=>rfl)];exact hn) _ h1
 dsimp only at this
 rw[e]at this
 exact this
theorem zgl:∀ (q:List AskR) (l:List Switch) {n:Int},(∀ a∈q,a.pnt≠n)→zeW (zbd q l) n=zeW l n
 |[],_,_,_=>rfl
 |a::q,l,n,h=>by
  show zeW (zbd q (zd2 Switch.id a.pnt (fun t=>⟨t.id,t.lie,a.lie⟩) l)) n=_
  rw[zgl q _ fun b hb=>h b (by simp[hb]),zob l a.lie (fun e=>h a (by simp) e.symm)]
theorem zfP:∀ (q:List AskR) (l:List Switch),(l.map Switch.id).Nodup→(q.map AskR.pnt).Nodup→∀ a∈q,a.pnt∈l.map Switch.id→zeW (zbd q l) a.pnt=a.lie
 |[],_,_,_,a,ha,_=>by cases ha
 |b::q,l,hl,hq,a,ha,hi=>by
  simp only[List.map_cons,List.nodup_cons]at hq
  show zeW (zbd q (zd2 Switch.id b.pnt (fun t=>⟨t.id,t.lie,b.lie⟩) l)) a.pnt=_
  rcases List.mem_cons.1 ha with rfl|ha
  ·rw[zgl q _ fun c hc e=>hq.1 (by rw[←e];exact List.mem_map_of_mem hc),zqr hl _ hi]
  ·refine zfP q _ (by rw[zi8 Switch.id b.pnt (fun t=>⟨t.id,t.lie,b.lie⟩) (fun _=>rfl)];exact hl) hq.2 a ha ?_
   rw[zi8 Switch.id b.pnt (fun t=>⟨t.id,t.lie,b.lie⟩) (fun _=>rfl)];exact hi
end Go.Lev
namespace Go.Lev
open Go.Eng
theorem zos {p:Pln} {s:State} (h:zak p s=true):(zof p s).length=s.locks.length:=by
 have:=zan h
 simp only[zof,List.length_zip,zaH,List.length_map]
 omega
theorem zfX {p:Pln} {s:State} (h:zak p s=true) {i:Nat} (hi:i<(zof p s).length):(zof p s)[i]=((zah p (nth p.routes i)).1,nth s.locks i):=by
 have h1:=zos h
 have h2:=zan h
 simp[zof,zaH,zaE (show i<p.routes.length by omega),zaE (show i<s.locks.length by omega)]
theorem zlr {p:Pln} {s:State} (h:zak p s=true):zmA (zof p s)↔∀ i j,i<s.locks.length→j<s.locks.length→i≠j→∀ m∈zdv p s i,m∉zdv p s j:=by
 have hl:=zos h
 unfold zmA
 rw[List.pairwise_iff_getElem]
 constructor
 ·intro hp i j hi hj hne m hm hm'
  rcases Nat.lt_trichotomy i j with hlt|e|hlt
  ·have:=hp i j (by omega) (by omega) hlt
   rw[zfX h,zfX h]at this
   exact this m hm hm'
  ·exact hne e
  ·have:=hp j i (by omega) (by omega) hlt
   rw[zfX h,zfX h]at this
   exact this m hm' hm
 ·intro hp i j hi hj hlt
  rw[zfX h,zfX h]
  exact hp i j (by omega) (by omega) (by omega)
theorem zgJ {p:Pln} {s:State} (h:zak p s=true):zns s (zof p s)↔∀ i,i<s.locks.length→∀ a∈zd0 p s i,zby s a.pnt=a.lie:=by
 have h2:=zan h
 constructor
 ·intro hp i hi a ha
  exact hp _ (zof_at h (by omega)) a ha
 ·intro hp z hz a ha
  obtain ⟨i,r,_,hi,e1,e2,_,e3,_⟩:=zfW h hz
  refine hp i (by omega) a ?_
  unfold zd0
  rw[e1,e2,←e3]
  exact ha
theorem zd7 {p:Pln} {s:State}:zag p s=0↔zba p=true∧zak p s=true∧(∀ i j,i<s.locks.length→j<s.locks.length→i≠j→∀ m∈zdv p s i,m∉zdv p s j)∧∀ i,i<s.locks.length→∀ a∈zd0 p s i,zby s a.pnt=a.lie:=by
 rw[zf1]
 constructor
 ·rintro ⟨h1,h2,h3,h4⟩;exact ⟨h1,h2,(zlr h2).1 h3,(zgJ h2).1 h4⟩
 ·rintro ⟨h1,h2,h3,h4⟩;exact ⟨h1,h2,(zlr h2).2 h3,(zgJ h2).2 h4⟩
theorem zfQ (s:State) (n:Int):zby s n=zeW s.switches n:=rfl
theorem zoa (q:List AskR):∀ (l:List Switch) (k:Nat),k<l.length→(nth (zbd q l) k).id=(nth l k).id∧(nth (zbd q l) k).lie=(nth l k).lie∧((nth (zbd q l) k).call=(nth l k).call∨∃ a∈q,a.pnt=(nth l k).id∧(nth (zbd q l) k).call=a.lie):=by
 induction q with
 |nil=>intro l k _;exact ⟨rfl,rfl,.inl rfl⟩
 |cons b q ih =>
  intro l k hk
  have h1:=ih (zd2 Switch.id b.pnt (fun t=>⟨t.id,t.lie,b.lie⟩) l) k (by rw[zdC];exact hk)
  have h2:nth (zd2 Switch.id b.pnt (fun t=>(⟨t.id,t.lie,b.lie⟩:Switch)) l) k=if (nth l k).id=b.pnt then ⟨(nth l k).id,(nth l k).lie,b.lie⟩ else nth l k:=by
   unfold zd2
   exact zpo (fun x=>if Switch.id x=b.pnt then (⟨x.id,x.lie,b.lie⟩:Switch) else x) hk
  rw[show zbd (b::q) l=zbd q (zd2 Switch.id b.pnt (fun t=>⟨t.id,t.lie,b.lie⟩) l) from rfl]
  rw[h2]at h1
  by_cases e:(nth l k).id=b.pnt
  ·rw[if_pos e]at h1
   dsimp only at h1
   refine ⟨h1.1,h1.2.1,.inr ?_⟩
   rcases h1.2.2 with h3|⟨a,ha,h3,h4⟩
   ·exact ⟨b,by simp,e.symm,h3⟩
   ·exact ⟨a,by simp[ha],h3,h4⟩
  ·rw[if_neg e]at h1
   refine ⟨h1.1,h1.2.1, ?_⟩
   rcases h1.2.2 with h3|⟨a,ha,h3,h4⟩
   ·exact .inl h3
   ·exact .inr ⟨a,by simp[ha],h3,h4⟩
section
variable {p:Pln} {s:State} {i:Nat} (h:zag p s=0) (hi:i<s.locks.length) (hph:(nth s.locks i).phase=0)
include h hi
theorem zfp {n:Int} (hid:(nth s.locks i).id=n) (q:List AskR) {j:Nat} (hj:j<s.locks.length):nth (zgP s n q).locks j=if j=i then ⟨n,1,(nth s.locks i).gone,(nth s.locks i).left⟩ else nth s.locks j:=by
 show nth (zd2 Lock.id n (fun l=>⟨l.id,1,l.gone,l.left⟩) s.locks) j=_
 have h2:nth (zd2 Lock.id n (fun l=>(⟨l.id,1,l.gone,l.left⟩:Lock)) s.locks) j=if (nth s.locks j).id=n then ⟨(nth s.locks j).id,1,(nth s.locks j).gone,(nth s.locks j).left⟩ else nth s.locks j:=by
  unfold zd2
  exact zpo (fun x=>if Lock.id x=n then (⟨x.id,1,x.gone,x.left⟩:Lock) else x) hj
 rw[h2]
 by_cases e:j=i
 ·subst e;rw[if_pos hid,if_pos rfl,hid]
 ·rw[if_neg e,if_neg (fun e2=>e (zl7 h hj hi (e2.trans hid.symm)))]
include hph
theorem zfr:(nth s.locks i).gone=0∧(nth s.locks i).left=0:=by
 have:=zcH (zad h).2.1 hi
 simp only[zbJ,zat,hph,Bool.and_eq_true]at this
 simpa using this.2
theorem znE {n:Int} (hid:(nth s.locks i).id=n):zak p (zgP s n (zah p (nth p.routes i)).1.asks)=true:=by
 have hpa:=(zad h).2.1
 have hok:=zar h
 have hl:=zan hpa
 have hp2:=hpa
 unfold zak at hpa ⊢
 simp only[Bool.and_eq_true,zcn]at hpa ⊢
 refine ⟨hpa.1,⟨by show (zbd _ _).length=_;rw[zdy];exact hpa.2.1.1,fun k hk=>?_⟩,by show (zd2 _ _ _ _).length=_;rw[zdC];exact hpa.2.2.1,fun k hk=>?_⟩
 ·have hk':k<s.switches.length:=by have:k<(zbd (zah p (nth p.routes i)).1.asks s.switches).length:=hk;rw[zdy]at this;exact this
  have h1:=hpa.2.1.2 k hk'
  have h2:=zoa (zah p (nth p.routes i)).1.asks s.switches k hk'
  show zf0 (nth (zbd _ s.switches) k) _=true
  simp only[zf0,zfC,Bool.and_eq_true,decide_eq_true_eq]at h1 ⊢
  refine ⟨h2.1.trans h1.1,by rw[h2.2.1];exact h1.2.1, ?_⟩
  rcases h2.2.2 with e|⟨a,ha,_,e⟩
  ·rw[e];exact h1.2.2
  ·have:=(zbG hok (zab (show i<p.routes.length by omega)) ha).2.2
   rw[e];omega
 ·have hk':k<s.locks.length:=by have:k<(zd2 Lock.id n (fun l=>(⟨l.id,1,l.gone,l.left⟩:Lock)) s.locks).length:=hk;rw[zdC]at this;exact this
  rw[zfp h hi hid _ hk']
  have h1:=hpa.2.2.2 k hk'
  split
  ·rename_i e
   subst e
   have hr:=zfr h hi hph
   simp only[zbJ,zat,Bool.and_eq_true,decide_eq_true_eq]at h1 ⊢
   refine ⟨hid▸h1.1, ?_⟩
   simp[hr.1,hr.2]
  ·exact h1
theorem zoO {n:Int} (hid:(nth s.locks i).id=n) (hf:∀ m∈(zah p (nth p.routes i)).1.path++(zah p (nth p.routes i)).1.over,nth (zaO p s).1 m.toNat=0)
  (hk:∀ a∈(zah p (nth p.routes i)).1.asks,zby s a.pnt=a.lie∨nth (zaO p s).2.1 a.pnt.toNat=0):zag p (zgP s n (zah p (nth p.routes i)).1.asks)=0:=by
 have h':=zd7.1 h
 obtain ⟨h1,h2,h3,h4⟩:=h'
 have hok:=zar h
 have hl:=zan h2
 have hr:=zfr h hi hph
 have hsl:(zgP s n (zah p (nth p.routes i)).1.asks).locks.length=s.locks.length:=zdC _ _ _ _
 have hwr:nth p.routes i∈p.routes:=zab (by omega)
 have hd:∀ j,j<s.locks.length→zdv p (zgP s n (zah p (nth p.routes i)).1.asks) j=if j=i then (zah p (nth p.routes i)).1.path++(zah p (nth p.routes i)).1.over else zdv p s j:=fun j hj=>by
  unfold zdv
  rw[zfp h hi hid _ hj]
  by_cases e:j=i
  ·subst e
   rw[if_pos rfl,if_pos rfl]
   unfold zbz
   rw[if_neg (by dsimp only;omega)]
   dsimp only
   rw[hr.1];rfl
  ·rw[if_neg e,if_neg e]
 have ha:∀ j,j<s.locks.length→zd0 p (zgP s n (zah p (nth p.routes i)).1.asks) j=if j=i then (zah p (nth p.routes i)).1.asks else zd0 p s j:=fun j hj=>by
  unfold zd0
  rw[zfp h hi hid _ hj]
  by_cases e:j=i
  ·subst e
   rw[if_pos rfl,if_pos rfl]
   unfold zbK
   rw[if_neg (by dsimp only;omega)]
   refine List.filter_eq_self.2 fun a _=>?_
   simp only[zcz,hr.1,Bool.or_eq_true,decide_eq_true_eq]
   omega
  ·rw[if_neg e,if_neg e]
 have hnd:(s.switches.map Switch.id).Nodup:=by rw[zd5 h2];exact zee hok
 refine zd7.2 ⟨h1,znE h hi hph hid,fun a b ha' hb' hne m hm hm'=>?_,fun j hj a haj=>?_⟩
 ·rw[hsl]at ha' hb'
  rw[hd a ha']at hm
  rw[hd b hb']at hm'
  have free:∀ j,j<s.locks.length→∀ m∈(zah p (nth p.routes i)).1.path++(zah p (nth p.routes i)).1.over,m∉zdv p s j:=fun j hj m hm hm'=>by
   have e1:=hf m hm
   have e2:=zmd h (zhM h hj) hm'
   have:=zl6 h hj
   rw[e1]at e2
   dsimp only at e2
   omega
  by_cases e:a=i
  ·rw[if_pos e]at hm
   rw[if_neg (fun e2=>hne (e.trans e2.symm))]at hm'
   exact free b hb' m hm hm'
  ·rw[if_neg e]at hm
   by_cases e2:b=i
   ·rw[if_pos e2]at hm'
    exact free a ha' m hm' hm
   ·rw[if_neg e2]at hm'
    exact h3 a b ha' hb' hne m hm hm'
 ·rw[hsl]at hj
  rw[ha j hj]at haj
  rw[zfQ]
  show zeW (zbd _ s.switches) a.pnt=_
  by_cases e:j=i
  ·rw[if_pos e]at haj
   refine zfP _ _ hnd (zgq h1 hwr) a haj ?_
   obtain ⟨x,hx,ex⟩:=(zbG hok hwr haj).1
   rw[zd5 h2,←ex]
   exact List.mem_map_of_mem hx
  ·rw[if_neg e]at haj
   have h5:=h4 j hj a haj
   rcases Classical.em (∃ b∈(zah p (nth p.routes i)).1.asks,b.pnt=a.pnt) with ⟨b,hb,eb⟩|hno
   ·have h6:=zfP _ s.switches hnd (zgq h1 hwr) b hb (by
     obtain ⟨x,hx,ex⟩:=(zbG hok hwr hb).1
     rw[zd5 h2,←ex]
     exact List.mem_map_of_mem hx)
    rw[←eb,h6]
    rcases hk b hb with h7|h7
    ·rw[←h7,eb];exact h5
    ·rw[eb,ask_is h hj haj]at h7
     have:=zpy h hj haj
     omega
   ·rw[zgl _ _ fun b hb e=>hno ⟨b,hb,e⟩]
    exact h5
end
end Go.Lev
namespace Go.Lev
open Go.Eng
theorem zkX {p:Pln} {s:State} (ho:OkP p) (h:zak p s=true) (n:Int):frT s n=decide (zc6 s n=0):=by
 rw[Bool.eq_iff_iff,decide_eq_true_eq]
 constructor
 ·intro h1
  obtain ⟨x,hx,e⟩:=List.any_eq_true.1 h1
  simp only[Bool.and_eq_true,decide_eq_true_eq]at e
  obtain ⟨k,hk,rfl⟩:=zb2 hx
  rw[e.1,zpH ho h hk];exact e.2.symm
 ·intro h1
  unfold zc6 at h1
  cases e:s.tracks.find? fun t=>decide (t.id=n) with
  |none=>rw[e]at h1;exact absurd h1 (by decide)
  |some t =>
   rw[e]at h1
   have h2:=List.find?_some e
   exact List.any_eq_true.2 ⟨t,List.mem_of_find?_eq_some e,by
    simp only[Bool.and_eq_true,decide_eq_true_eq]
    exact ⟨(show t.id=n by simpa using h2).symm,h1.symm⟩⟩
theorem zl5 {p:Pln} {s:State} (h:zag p s=0) {i:Nat} (hi:i<s.locks.length) {n:Int} (hid:(nth s.locks i).id=n):zeC s n=(i:Int):=by
 unfold zeC
 rcases zaV Lock.id n s.locks with ⟨_,h4⟩|⟨k,hk,h4,h5⟩
 ·exact absurd hid (h4 _ (zab hi))
 ·rw[h4,zl7 h hk hi (h5.trans hid.symm)]
theorem zpx {p:Pln} {s:State} (h:zag p s=0) {i:Nat} (hi:i<s.locks.length) {n:Int} (hid:(nth s.locks i).id=n):lkC p s n=if (nth s.locks i).phase=0 then setE p s i else 180:=by
 unfold lkC
 rw[if_pos h,zl5 h hi hid,if_neg (by omega),Int.toNat_natCast]
theorem lkC_no {p:Pln} {s:State} (h:zag p s=0) {n:Int} (hid:∀ x∈s.locks,x.id≠n):lkC p s n=6:=by
 unfold lkC
 rw[if_pos h,if_pos]
 unfold zeC
 rcases zaV Lock.id n s.locks with ⟨h3,_⟩|⟨k,hk,h4,h5⟩
 ·rw[h3];decide
 ·exact absurd h5 (hid _ (zab hk))
def leF (p:Pln) (s:State) (n e:Int) (w:WayR) (H A:Int→Int):Bool :=
 zaK (fun i _ za9=>cond (!decide ((nth s.locks i).id=n)) (za9 ())
   (cond (!decide ((nth s.locks i).phase=0)) (decide (e=180))
    (zaK (fun k _ next2=>cond (!decide (H (nth (w.path++w.over) k)=0)) (decide (e=181)) (cond (!decide (zc6 s (nth (w.path++w.over) k)=0)) (decide (e=182)) (next2 ())))
     (fun _=>zaK (fun k _ next3 =>
       zaK (fun m _ next4=>cond (decide ((nth s.switches m).id=(nth w.asks k).pnt)&&!decide ((nth s.switches m).call=(nth w.asks k).lie)&&(!decide (A (nth s.switches m).id=0)||!decide (zc6 s (nth p.points m).sec=0))) (decide (e=183)) (next4 ()))
        (fun _=>next3 ()) s.switches.length 0 ())
      (fun _=>decide (e=0)) w.asks.length 0 ()) (w.path++w.over).length 0 ())))
  (fun _=>decide (e=6)) s.locks.length 0 ()
theorem swt_pnt {p:Pln} {s:State} (h:zak p s=true) {k:Nat} (hk:k<s.switches.length):(nth s.switches k).id=(nth p.points k).id:=by
 have:=(zcn _ _ _).1 (by simp only[zak,Bool.and_eq_true]at h;exact h.2.1)
 have:=this.2 k hk
 simp only[zf0,Bool.and_eq_true,decide_eq_true_eq]at this
 exact this.1
end Go.Lev
namespace Go.Lev
open Go.Eng
set_option maxRecDepth 10000
set_option maxHeartbeats 4000000
variable {P:Program} {inv:Nat→Option Nat} {w0:World} {M:Nat→Prop}
section
variable {L:List Lock} {k:Nat} (h:k<L.length)
include h
theorem zcg (v:Int):(L.map Lock.c).flatten.set (k*4) (.i .i64 v)=((L.set k ⟨v,(nth L k).phase,(nth L k).gone,(nth L k).left⟩).map Lock.c).flatten:=by
 have:=zbt (c:=Lock.c) (l:=L) (k:=k) (i:=0) h (by omega) (.i .i64 v) ⟨v,(nth L k).phase,(nth L k).gone,(nth L k).left⟩ rfl
 simpa using this
theorem lk_set1 (v:Int):(L.map Lock.c).flatten.set (k*4+1) (.i .u8 v)=((L.set k ⟨(nth L k).id,v,(nth L k).gone,(nth L k).left⟩).map Lock.c).flatten :=
 zbt (c:=Lock.c) (l:=L) (k:=k) (i:=1) h (by omega) (.i .u8 v) ⟨(nth L k).id,v,(nth L k).gone,(nth L k).left⟩ rfl
theorem lk_set2 (v:Int):(L.map Lock.c).flatten.set (k*4+2) (.i .i64 v)=((L.set k ⟨(nth L k).id,(nth L k).phase,v,(nth L k).left⟩).map Lock.c).flatten :=
 zbt (c:=Lock.c) (l:=L) (k:=k) (i:=2) h (by omega) (.i .i64 v) ⟨(nth L k).id,(nth L k).phase,v,(nth L k).left⟩ rfl
theorem zl3 (v:Int):(L.map Lock.c).flatten.set (k*4+3) (.i .i64 v)=((L.set k ⟨(nth L k).id,(nth L k).phase,(nth L k).gone,v⟩).map Lock.c).flatten :=
 zbt (c:=Lock.c) (l:=L) (k:=k) (i:=3) h (by omega) (.i .i64 v) ⟨(nth L k).id,(nth L k).phase,(nth L k).gone,v⟩ rfl
theorem zei (x:Lock):nth (L.set k x) k=x:=by rw[za4 _ _ _ _ h,if_pos rfl]
end
theorem zjn (L:List Lock) (k:Nat) (x y:Lock):(L.set k x).set k y=L.set k y:=by rw[List.set_set]
section
variable {L:List Lock} {k:Nat} (h:k<L.length) (x:Lock)
include h
theorem zg4 (v:Int):((L.set k x).map Lock.c).flatten.set (k*4) (.i .i64 v)=((L.set k ⟨v,x.phase,x.gone,x.left⟩).map Lock.c).flatten:=by rw[zcg (by simpa using h),zei h,zjn]
theorem zbs (v:Int):((L.set k x).map Lock.c).flatten.set (k*4+1) (.i .u8 v)=((L.set k ⟨x.id,v,x.gone,x.left⟩).map Lock.c).flatten:=by rw[lk_set1 (by simpa using h),zei h,zjn]
theorem zbr (v:Int):((L.set k x).map Lock.c).flatten.set (k*4+2) (.i .i64 v)=((L.set k ⟨x.id,x.phase,v,x.left⟩).map Lock.c).flatten:=by rw[lk_set2 (by simpa using h),zei h,zjn]
theorem zbq (v:Int):((L.set k x).map Lock.c).flatten.set (k*4+3) (.i .i64 v)=((L.set k ⟨x.id,x.phase,x.gone,v⟩).map Lock.c).flatten:=by rw[zl3 (by simpa using h),zei h,zjn]
end
def zb0 (l:Lock):Lock:=if l.left=0 then l else if l.left-1=0 then ⟨l.id,0,0,0⟩ else ⟨l.id,l.phase,l.gone,l.left-1⟩
def zdU (s:State):State:=⟨s.tracks,s.switches,s.locks.map zb0⟩
def zhd (p:Pln) (s:State):State:=if zag p s=0 then zdU s else State.z
end Go.Lev
namespace Go.Lev
open Go.Eng
set_option maxRecDepth 10000
set_option maxHeartbeats 4000000
variable {P:Program} {inv:Nat→Option Nat} {w0:World} {M:Nat→Prop}
def zc0 (s:State) (w:WayR) (l:Lock):Bool:=!((w.path.drop l.gone.toNat).any fun m=>!frT s m)
def cnC0 (s:State) (w:WayR) (l:Lock):Int:=if l.phase=0 then 220 else if l.phase=1 then 0 else if l.phase=2∧zc0 s w l=true then 0 else 221
def cnL (s:State) (w:WayR) (r:Rte) (l:Lock) (n:Int):Lock:=if l.phase=1∧frT s w.near=false then ⟨n,4,0,r.timer⟩ else ⟨n,0,0,0⟩
def cnC (p:Pln) (s:State) (n:Int):Int:=if zag p s=0 then (if zeC s n<0 then 6 else cnC0 s (zah p (nth p.routes (zeC s n).toNat)).1 (nth s.locks (zeC s n).toNat)) else zag p s
def cnS (p:Pln) (s:State) (n:Int):State:=⟨s.tracks,s.switches,s.locks.set (zeC s n).toNat (cnL s (zah p (nth p.routes (zeC s n).toNat)).1 (nth p.routes (zeC s n).toNat) (nth s.locks (zeC s n).toNat) n)⟩
def cnR (p:Pln) (s:State) (n:Int):State:=if cnC p s n=0 then cnS p s n else State.z
end Go.Lev
namespace Go.Lev
open Go.Eng
set_option maxRecDepth 10000
set_option maxHeartbeats 4000000
variable {P:Program} {inv:Nat→Option Nat} {w0:World} {M:Nat→Prop}
def zcb (r:Rte) (is:Int→Int) (l:Lock):Lock :=
 if l.phase=1∨l.phase=4 then (if (r.path.any fun n=>decide (is n=1))=true then ⟨l.id,2,0,0⟩ else l)
 else if l.phase=2 then
  (if l.gone<(r.path.length:Int)-1∧is (nth r.path l.gone.toNat)=0∧is (nth r.path (l.gone.toNat+1))=1 then ⟨l.id,l.phase,l.gone+1,l.left⟩
   else if l.gone=(r.path.length:Int)-1∧is (nth r.path (r.path.length-1))=1 then ⟨l.id,3,(r.path.length:Int)-1,r.timer⟩
   else if l.gone=(r.path.length:Int)-1∧is (nth r.path (r.path.length-1))=0 then ⟨l.id,0,0,0⟩
   else l)
 else if l.phase=3 then (if is (nth r.path (r.path.length-1))=0 then ⟨l.id,0,0,0⟩ else l)
 else l
end Go.Lev
namespace Go.Eng
section
variable {P:Program} {inv:Nat→Option Nat} {w0:World} {M:Nat→Prop} {n N:Nat} {φ φ0:AF} {σ σ0:AS}
end
end Go.Eng
namespace Go.Lev
open Go.Eng
set_option maxRecDepth 10000
set_option maxHeartbeats 4000000
variable {P:Program} {inv:Nat→Option Nat} {w0:World} {M:Nat→Prop}
def zed (r:Rte) (l:Lock):Nat:=if l.phase=1∨l.phase=4 then r.path.length+3 else if l.phase=2 then 2+((r.path.length:Int)-1-l.gone).toNat else if l.phase=3 then 1 else 0
def zcN (r:Rte) (is:Int→Int):Nat→Lock→Lock
 |0,l=>l
 |m+1,l=>if zcb r is l=l then l else zcN r is m (zcb r is l)
def zdF (r:Rte) (is:Int→Int) (l:Lock):Lock:=zcN r is (zed r l) l
end Go.Lev
namespace Go.Lev
open Go.Eng
set_option maxRecDepth 10000
set_option maxHeartbeats 4000000
variable {P:Program} {inv:Nat→Option Nat} {w0:World} {M:Nat→Prop}
def zjm (p:Pln) (s:State) (i:Nat) (l:Lock):Lock:=zdF (nth p.routes i) (zc6 s) l
def zc5 (p:Pln) (s:State):State:=⟨s.tracks,s.switches,s.locks.mapIdx (zjm p s)⟩
def zjl (p:Pln) (s:State):State:=if zag p s=0 then zc5 p s else State.z
end Go.Lev
namespace Go.Lev
open Go.Eng
set_option maxRecDepth 10000
set_option maxHeartbeats 4000000
variable {P:Program} {inv:Nat→Option Nat} {w0:World} {M:Nat→Prop}
def lkS (p:Pln) (s:State) (n:Int):State:=if lkC p s n=0 then zgP s n (lkW p s n).asks else State.z
end Go.Lev
namespace Go.Lev
open Go.Eng
theorem zjO {H:List Int} {fr:Int→Bool}:∀ {l:List Int},zdi H fr l=0↔∀ x∈l,nth H x.toNat=0∧fr x=true
 |[]=>by simp[zdi]
 |x::r=>by
  rw[zdi]
  constructor
  ·intro h
   split at h
   ·rename_i h1
    split at h
    ·rename_i h2
     intro y hy
     rcases List.mem_cons.1 hy with rfl|hy
     ·exact ⟨h1,h2⟩
     ·exact zjO.1 h y hy
    ·cases h
   ·cases h
  ·intro h
   obtain ⟨h1,h2⟩:=h x (by simp)
   rw[if_pos h1,if_pos h2]
   exact zjO.2 fun y hy=>h y (by simp[hy])
def zeQ (p:Pln) (i:Nat):List Int:=(zah p (nth p.routes i)).1.path++(zah p (nth p.routes i)).1.over
def zbX (p:Pln) (i:Nat):List AskR:=(zah p (nth p.routes i)).1.asks
structure MaySet (p:Pln) (s:State) (n:Int) (i:Nat):Prop where
 st:zag p s=0
 lt:i<s.locks.length
 id:(nth s.locks i).id=n
 ph:(nth s.locks i).phase=0
 sec:∀ x∈zeQ p i,nth (zaO p s).1 x.toNat=0∧zc6 s x=0
 ask:∀ a∈zbX p i,zby s a.pnt=a.lie∨(nth (zaO p s).2.1 a.pnt.toNat=0∧zc6 s (zef p a.pnt)=0)
theorem zlq {p:Pln} {s:State} (ho:OkP p) (h:zak p s=true) {A:List Int} {a:AskR}:zmr p s A a=true↔zby s a.pnt=a.lie∨(nth A a.pnt.toNat=0∧zc6 s (zef p a.pnt)=0):=by
 unfold zmr
 rw[zkX ho h]
 simp
theorem lkC_iff {p:Pln} {s:State} {n:Int}:lkC p s n=0↔∃ i,MaySet p s n i:=by
 constructor
 ·intro h
  have hst:zag p s=0:=by
   unfold lkC at h
   split at h
   ·assumption
   ·exact h
  rcases zaV Lock.id n s.locks with ⟨_,hno⟩|⟨i,hi,_,hid⟩
  ·rw[lkC_no hst hno]at h;cases h
  ·rw[zpx hst hi hid]at h
   split at h
   ·rename_i hph
    unfold setE at h
    have ho:=zar hst
    have hpa:=(zad hst).2.1
    split at h
    ·rename_i h1
     split at h
     ·rename_i h2
      refine ⟨i,hst,hi,hid,hph,fun x hx=>?_,fun a ha=>(zlq ho hpa).1 (List.all_eq_true.1 h2 a ha)⟩
      have:=zjO.1 h1 x hx
      rw[zkX ho hpa,decide_eq_true_eq]at this
      exact this
     ·cases h
    ·rename_i h1;exact absurd h h1
   ·cases h
 ·rintro ⟨i,hst,hi,hid,hph,h1,h2⟩
  have ho:=zar hst
  have hpa:=(zad hst).2.1
  rw[zpx hst hi hid,if_pos hph]
  unfold setE
  have h3:zdi (zaO p s).1 (frT s) ((zah p (nth p.routes i)).1.path++(zah p (nth p.routes i)).1.over)=0:=zjO.2 fun x hx=>by
   rw[zkX ho hpa,decide_eq_true_eq];exact h1 x hx
  have h4:(zah p (nth p.routes i)).1.asks.all (zmr p s (zaO p s).2.1)=true:=List.all_eq_true.2 fun a ha=>(zlq ho hpa).2 (h2 a ha)
  rw[if_pos h3,if_pos h4]
section
variable {p:Pln} {s:State} {n:Int} {i:Nat} (h:MaySet p s n i)
include h
theorem MaySet.lkW:lkW p s n=(zah p (nth p.routes i)).1:=by
 unfold Go.Lev.lkW
 rw[if_pos h.st,zl5 h.st h.lt h.id,if_neg (by omega),Int.toNat_natCast,if_pos h.ph]
theorem MaySet.lkS:lkS p s n=zgP s n (zbX p i):=by
 unfold Go.Lev.lkS
 rw[if_pos (lkC_iff.2 ⟨i,h⟩),h.lkW]
 rfl
theorem MaySet.code:zag p (zgP s n (zbX p i))=0:=zoO h.st h.lt h.ph h.id (fun m hm=>(h.sec m hm).1) fun a ha=>by
 rcases h.ask a ha with h1|h1
 ·exact .inl h1
 ·exact .inr h1.1
theorem MaySet.lock {j:Nat} (hj:j<s.locks.length):nth (zgP s n (zbX p i)).locks j=if j=i then ⟨n,1,0,0⟩ else nth s.locks j:=by
 rw[zfp h.st h.lt h.id _ hj,(zfr h.st h.lt h.ph).1,(zfr h.st h.lt h.ph).2]
theorem zjo (q:List AskR):(zgP s n q).locks.length=s.locks.length:=zdC _ _ _ _
theorem MaySet.hd {j:Nat} (hj:j<s.locks.length):zdv p (zgP s n (zbX p i)) j=if j=i then zeQ p i else zdv p s j:=by
 unfold zdv
 rw[h.lock hj]
 by_cases e:j=i
 ·subst e
  rw[if_pos rfl,if_pos rfl]
  unfold zbz
  rw[if_neg (by dsimp only;omega)]
  rfl
 ·rw[if_neg e,if_neg e]
theorem MaySet.as {j:Nat} (hj:j<s.locks.length):zd0 p (zgP s n (zbX p i)) j=if j=i then zbX p i else zd0 p s j:=by
 unfold zd0
 rw[h.lock hj]
 by_cases e:j=i
 ·subst e
  rw[if_pos rfl,if_pos rfl]
  unfold zbK
  rw[if_neg (by dsimp only;omega)]
  refine List.filter_eq_self.2 fun a _=>?_
  simp only[zcz,Bool.or_eq_true,decide_eq_true_eq]
  omega
 ·rw[if_neg e,if_neg e]
theorem MaySet.rt:nth p.routes i∈p.routes:=by
 have:=zan (zad h.st).2.1
 have:=h.lt
 exact zab (by omega)
theorem MaySet.secR {x:Int} (hx:x∈zeQ p i):isSec p x=true∧0≤x:=by
 have ho:=zar h.st
 have hwp:=zbC ((zaN (zad h.st).1).2.1 _ h.rt)
 unfold zeQ at hx
 rw[hwp.1,hwp.2.1]at hx
 obtain ⟨q,hq,e⟩:=(zcc ho h.rt).1 x hx
 have:=zdq ho hq
 exact ⟨List.any_eq_true.2 ⟨q,hq,by simpa using e⟩,by omega⟩
theorem MaySet.holds {x:Int} (hx:x∈zeQ p i):nth (zaO p (zgP s n (zbX p i))).1 x.toNat=n:=by
 have hi':i<(zgP s n (zbX p i)).locks.length:=by rw[zjo h];exact h.lt
 have:=(hold_iff h.code hi' (h.secR hx).2).2 (by rw[h.hd h.lt,if_pos rfl];exact hx)
 rw[this,h.lock h.lt,if_pos rfl]
theorem MaySet.asks {a:AskR} (ha:a∈zbX p i):nth (zaO p (zgP s n (zbX p i))).2.1 a.pnt.toNat=a.lie:=by
 have hi':i<(zgP s n (zbX p i)).locks.length:=by rw[zjo h];exact h.lt
 exact ask_is h.code hi' (by rw[h.as h.lt,if_pos rfl];exact ha)
theorem MaySet.callsIn {a:AskR} (ha:a∈zbX p i):zby (zgP s n (zbX p i)) a.pnt=a.lie:=by
 have ho:=zar h.st
 have hpa:=(zad h.st).2.1
 rw[zfQ]
 refine zfP _ _ (by rw[zd5 hpa];exact zee ho) (zgq (zad h.st).1 h.rt) a ha ?_
 obtain ⟨x,hx,ex⟩:=(zbG ho h.rt ha).1
 rw[zd5 hpa,←ex]
 exact List.mem_map_of_mem hx
end
end Go.Lev
namespace Go.Lev
open Go.Eng
set_option maxRecDepth 10000
set_option maxHeartbeats 4000000
variable {P:Program} {inv:Nat→Option Nat} {w0:World} {M:Nat→Prop}
def setLk (s:State) (n:Int):Bool:=s.locks.any fun x=>decide (n=x.id)&&(decide (1=x.phase)&&(decide (0=x.gone)&&decide (0=x.left)))
def lieT (s:State) (a:AskR):Bool:=s.switches.any fun x=>decide (x.id=a.pnt)&&decide (x.lie=a.lie)
def provedS (s:State) (n:Int) (w:WayR):Bool:=setLk s n&&(!(w.path.any fun m=>!frT s m)&&(!(w.over.any fun m=>!frT s m)&&!(w.asks.any fun a=>!lieT s a)))
section
variable (hH:HasAll P inv) (s:State) (hs:SmS s)
include hH hs
end
end Go.Lev
namespace Go.Lev
open Go.Eng
set_option maxRecDepth 10000
set_option maxHeartbeats 4000000
variable {P:Program} {inv:Nat→Option Nat} {w0:World} {M:Nat→Prop}
def bool1 (b:Bool):List AV:=[.b b]
instance:Cells bool1 1:=⟨fun _=>rfl,fun _=>rfl⟩
theorem chunks_b (l:List Bool):zbS 1 l.length (l.map AV.b)=l.map bool1:=by
 induction l with
 |nil=>rfl
 |cons x l ih =>
  simp only[List.length_cons,List.map_cons,zbS,List.take_succ_cons,List.take_zero,List.drop_succ_cons,List.drop_zero,ih]
  rfl
attribute [go_sem] bool1 chunks_b
def prvOf (p:Pln) (s:State) (r:Rte):Bool:=provedS s r.id (zah p r).1
def provL (p:Pln) (s:State):List Bool:=p.routes.map (prvOf p s)
def provR (p:Pln) (s:State):List Bool:=if zag p s=0 then provL p s else []
def rtIx (p:Pln) (n:Int):Int:=zaZ (fun x=>decide (Rte.id x=n)) 0 p.routes
def isSgn (p:Pln) (n:Int):Bool:=p.signals.any fun x=>decide (x.id=n)
def prR (p:Pln) (s:State) (n:Int):Bool:=if rtIx p n<0 then false else prvOf p s (nth p.routes (rtIx p n).toNat)
def prC (p:Pln) (s:State) (n:Int):Int:=if zag p s=0 then (if rtIx p n<0 then 6 else 0) else zag p s
def goB (p:Pln) (s:State) (n:Int):Bool:=p.routes.any fun r=>decide (r.entry=n)&&prvOf p s r
def sgC (p:Pln) (s:State) (n:Int):Int:=if zag p s=0 then (if isSgn p n=true then 0 else 6) else zag p s
end Go.Lev
namespace Go.Lev
open Go.Eng
structure Prvd (p:Pln) (s:State) (i:Nat):Prop where
 ph:(nth s.locks i).phase=1
 sec:∀ x∈zeQ p i,zc6 s x=0
 ask:∀ a∈zbX p i,∀ k,k<s.switches.length→(nth s.switches k).id=a.pnt→(nth s.switches k).lie=a.lie
def pjF (s:State) (secs:List Int) (asks:List AskR) (b0:Bool):Bool :=
 zaK (fun i (t:Bool) za9=>zaK (fun k (t:Bool) next2=>next2 (t&&(!decide ((nth s.tracks k).id=nth secs i)||decide ((nth s.tracks k).is=0)))) (fun t=>za9 t) s.tracks.length 0 t)
  (fun t=>zaK (fun i (t:Bool) za9=>zaK (fun k (t:Bool) next2=>next2 (t&&(!decide ((nth s.switches k).id=(nth asks i).pnt)||decide ((nth s.switches k).lie=(nth asks i).lie)))) (fun t=>za9 t) s.switches.length 0 t)
   (fun t=>t) asks.length 0 t)
  secs.length 0 b0
end Go.Lev
namespace Go.Lev
open Go.Eng
def On (l l':Lock):Prop:=l'=l∨(l'.id=l.id∧(l'.phase=0∨(¬l.phase=0∧¬l'.phase=0∧l.gone≤l'.gone)))
theorem On.held {l l':Lock} (h:On l l') (w:WayR):∀ m∈zbz w l',m∈zbz w l:=by
 intro m hm
 rcases h with rfl|⟨_,h|⟨h1,h2,h3⟩⟩
 ·exact hm
 ·unfold zbz at hm;rw[if_pos h]at hm;cases hm
 ·unfold zbz at hm ⊢
  rw[if_neg h2]at hm
  rw[if_neg h1]
  rcases List.mem_append.1 hm with h4|h4
  ·refine List.mem_append.2 (.inl ?_)
   obtain ⟨k,hk,e⟩:=List.mem_iff_getElem.1 h4
   rw[List.getElem_drop]at e
   rw[List.length_drop]at hk
   have:l.gone.toNat≤l'.gone.toNat:=by omega
   refine List.mem_iff_getElem.2 ⟨l'.gone.toNat-l.gone.toNat+k,by rw[List.length_drop];omega, ?_⟩
   rw[List.getElem_drop,←e]
   congr 1
   omega
  ·exact List.mem_append.2 (.inr h4)
theorem On.asks {l l':Lock} (h:On l l') (w:WayR):∀ a∈(zbK w l').filter (zcz l'),a∈(zbK w l).filter (zcz l):=by
 intro a ha
 rcases h with rfl|⟨_,h|⟨h1,h2,h3⟩⟩
 ·exact ha
 ·unfold zbK at ha;rw[if_pos h]at ha;cases ha
 ·unfold zbK at ha ⊢
  rw[if_neg h2]at ha
  rw[if_neg h1]
  obtain ⟨h4,h5⟩:=List.mem_filter.1 ha
  refine List.mem_filter.2 ⟨h4, ?_⟩
  simp only[zcz,Bool.or_eq_true,decide_eq_true_eq]at h5 ⊢
  omega
theorem On.id {l l':Lock} (h:On l l'):l'.id=l.id:=by
 rcases h with rfl|h
 ·rfl
 ·exact h.1
theorem On.trans {a b c:Lock} (h:On a b) (g:On b c):On a c:=by
 rcases h with rfl|⟨h1,h2⟩
 ·exact g
 ·rcases g with rfl|⟨g1,g2⟩
  ·exact .inr ⟨h1,h2⟩
  ·refine .inr ⟨g1.trans h1, ?_⟩
   rcases g2 with g2|⟨g2,g3,g4⟩
   ·exact .inl g2
   ·rcases h2 with h2|⟨h2,h3,h4⟩
    ·exact absurd h2 g2
    ·exact .inr ⟨h2,g3,by omega⟩
structure OnS (p:Pln) (s t:State):Prop where
 trk:t.tracks=s.tracks
 swt:t.switches=s.switches
 len:t.locks.length=s.locks.length
 on:∀ i,i<s.locks.length→On (nth s.locks i) (nth t.locks i)
 ok:∀ i,i<s.locks.length→zbJ (nth t.locks i) (nth p.routes i)=true
section
variable {p:Pln} {s t:State} (h:zag p s=0) (g:OnS p s t)
include h g
theorem OnS.parts:zak p t=true:=by
 have h2:=(zad h).2.1
 have hl:=zan h2
 unfold zak at h2 ⊢
 simp only[Bool.and_eq_true,zcn]at h2 ⊢
 rw[g.trk,g.swt,g.len]
 exact ⟨h2.1,h2.2.1,h2.2.2.1,g.ok⟩
theorem OnS.code:zag p t=0:=by
 obtain ⟨h1,_,h3,h4⟩:=zd7.1 h
 refine zd7.2 ⟨h1,g.parts h,fun i j hi hj hne m hm hm'=>?_,fun i hi a ha=>?_⟩
 ·rw[g.len]at hi hj
  exact h3 i j hi hj hne m ((g.on i hi).held _ m hm) ((g.on j hj).held _ m hm')
 ·rw[g.len]at hi
  have:zby t a.pnt=zby s a.pnt:=by rw[zfQ,zfQ,g.swt]
  rw[this]
  exact h4 i hi a ((g.on i hi).asks _ a ha)
theorem OnS.sm (hs:SmS s):SmS t:=⟨by rw[g.trk];exact hs.1,by rw[g.swt];exact hs.2.1,by rw[g.len];exact hs.2.2⟩
end
theorem OnS.trans {p:Pln} {a b c:State} (h:OnS p a b) (g:OnS p b c):OnS p a c :=
 ⟨g.trk.trans h.trk,g.swt.trans h.swt,g.len.trans h.len,fun i hi=>(h.on i hi).trans (g.on i (by rw[h.len];exact hi)),fun i hi=>g.ok i (by rw[h.len];exact hi)⟩
end Go.Lev
namespace Go.Lev
open Go.Eng
def rpvF (s:State) (pa ov:List Int) (as:List AskR) (L:AskR→Int):Bool :=
 zaK (fun i _ za9=>cond (!decide (zc6 s (nth pa i)=0)) false (za9 ()))
  (fun _=>zaK (fun i _ za9=>cond (!decide (zc6 s (nth ov i)=0)) false (za9 ()))
   (fun _=>zaK (fun i _ za9=>cond (!decide (L (nth as i)=(nth as i).lie)) false (za9 ())) (fun _=>true) as.length 0 ()) ov.length 0 ()) pa.length 0 ()
def zdj (r:Rte) (is:Int→Int):Nat→Lock→Lock
 |0,l=>l
 |m+1,l=>zdj r is m (zcb r is l)
end Go.Lev
namespace Go.Lev
open Go.Eng
section
variable {p:Pln} {s:State} {n m:Int} {i j:Nat} (h:MaySet p s n i)
include h
theorem MaySet.two (g:MaySet p (zgP s n (zbX p i)) m j):(∀ x∈zeQ p i,x∉zeQ p j)∧∀ a∈zbX p i,∀ b∈zbX p j,a.pnt=b.pnt→a.lie=b.lie:=by
 have hn:=zl6 h.st h.lt
 rw[h.id]at hn
 refine ⟨fun x hx hx2=>?_,fun a ha b hb e=>?_⟩
 ·have h1:=h.holds hx
  rw[(g.sec x hx2).1]at h1
  omega
 ·rcases g.ask b hb with h1|h1
  ·rw[←e,h.callsIn ha]at h1
   exact h1
  ·have h2:=h.asks ha
   rw[e,h1.1]at h2
   have:=(zbG (zar h.st) h.rt ha).2.2
   omega
end
def othF (q r:List AskR):Bool :=
 zaK (fun i (t:Bool) za9=>zaK (fun k (t:Bool) next2=>next2 (t||decide ((nth q i).pnt=(nth r k).pnt)&&!decide ((nth q i).lie=(nth r k).lie))) (fun t=>za9 t) r.length 0 t) (fun t=>t) q.length 0 false
def shrs (a b:List Int):Bool:=a.any fun x=>b.any fun y=>decide (x=y)
end Go.Lev
namespace Go.Lev
open Go.Eng
set_option maxRecDepth 10000
set_option maxHeartbeats 4000000
variable {P:Program} {inv:Nat→Option Nat} {w0:World} {M:Nat→Prop}
structure Shw where
 sig:Int
 asp:Int
 deriving DecidableEq,Inhabited
def Shw.c (x:Shw):List AV:=[.n x.sig,.i .u8 x.asp]
instance:Cells Shw.c 2:=⟨fun _=>rfl,fun _=>rfl⟩
attribute [go_sem] Shw.c
def goX (p:Pln) (f:Rte→Bool) (n:Int):Int:=zaZ (fun r=>decide (r.entry=n)&&f r) 0 p.routes
def aspS (p:Pln) (f:Rte→Bool) (n:Int):Int:=if goX p f n<0 then 0 else if (nth p.routes (goX p f n).toNat).exit≠0∧0≤goX p f (nth p.routes (goX p f n).toNat).exit then 2 else 1
def shwL (p:Pln) (s:State):List Shw:=p.signals.map fun x=>⟨x.id,aspS p (prvOf p s) x.id⟩
def shwR (p:Pln) (s:State):List Shw:=if zag p s=0 then shwL p s else []
def callL (s:State):List Flk:=(s.switches.filter fun x=>!decide (x.call=0)).map fun x=>⟨x.id,x.call⟩
def callLR (p:Pln) (s:State):List Flk:=if zag p s=0 then callL s else []
end Go.Lev
namespace Go.Lev
open Go.Eng
def inOf (p:Pln) (n:Int):Join:=ziQ (sig p n) ⟨0,0⟩ p.sections
theorem Prvd.hd {p:Pln} {s:State} {i:Nat} (h:zag p s=0) (hi:i<p.routes.length) (g:Prvd p s i):zdv p s i=zeQ p i:=by
 have hpa:=(zad h).2.1
 have hl:=zcH hpa (show i<s.locks.length by have:=zan hpa;omega)
 simp only[zbJ,zat,g.ph,Bool.and_eq_true]at hl
 have h3:=hl.2
 simp at h3
 unfold zdv zbz zeQ
 rw[g.ph,h3.1,if_neg (by decide)]
 rfl
end Go.Lev
namespace Go.Lev
open Go.Eng
structure Giv (r:Rte) (is:Int→Int) (l l':Lock):Prop where
 same:l'.phase=1∨l'.phase=4→l'=l
 rest:l.phase=0→l'=l
 gone:¬l'.phase=0→l.gone≤l'.gone
 free:¬l'.phase=0→∀ m∈r.path.drop l.gone.toNat,m∉r.path.drop l'.gone.toNat→is m=0
theorem Giv.refl (r:Rte) (is:Int→Int) (l:Lock):Giv r is l l:=⟨fun _=>rfl,fun _=>rfl,fun _=>Int.le_refl _,fun _ _ h h'=>absurd h h'⟩
theorem Giv.trans {r:Rte} {is:Int→Int} {a b c:Lock} (h:Giv r is a b) (g:Giv r is b c):Giv r is a c:=by
 have hb:¬c.phase=0→¬b.phase=0:=fun h1 h2=>h1 (by rw[g.rest h2];exact h2)
 refine ⟨fun e=>?_,fun e=>?_,fun e=>Int.le_trans (h.gone (hb e)) (g.gone e),fun e m hm hm'=>?_⟩
 ·have h1:=g.same e
  rw[h1]at e ⊢
  exact h.same e
 ·have h1:=h.rest e
  rw[h1]at g
  exact g.rest e
 ·by_cases h1:m∈r.path.drop b.gone.toNat
  ·exact g.free e m h1 hm'
  ·exact h.free (hb e) m hm h1
section
variable {p:Pln} {s:State} (h:zag p s=0) {i:Nat} (hi:i<s.locks.length)
include h hi
end
def pgvB (a b:Lock) (was now is:Int):Bool :=
 (decide (b.phase=1)&&!decide (a.phase=1))||((decide (b.phase=4)&&!decide (a=b))||((decide (a.phase=0)&&!decide (a=b))||((decide (b.gone<a.gone)&&!decide (b.phase=0)) ||
  (decide (a.id=was)&&(decide (now=0)&&(!decide (was=0)&&(!decide (is=0)&&!decide (b.phase=0))))))))
section
variable {p:Pln} {s:State} (h:zag p s=0) {n:Int}
include h
end
end Go.Lev
namespace Go.Lev
open Go.Eng
set_option maxRecDepth 10000
set_option maxHeartbeats 4000000
variable {P:Program} {inv:Nat→Option Nat} {w0:World} {M:Nat→Prop}
def planA:Pln:=⟨1,0,[⟨1,0,[⟨0,0⟩,⟨2,0⟩]⟩,⟨2,0,[⟨1,1⟩,⟨0,0⟩]⟩],[],[⟨1,1,1⟩],[⟨1,1,0,[2],[],[],3⟩]⟩
def stA:State:=⟨[⟨1,2⟩,⟨2,2⟩],[],[⟨1,0,0,0⟩]⟩
end Go.Lev
namespace Go.Lev
open Go.Eng
set_option maxRecDepth 10000
set_option maxHeartbeats 4000000
variable {P:Program} {inv:Nat→Option Nat} {w0:World} {M:Nat→Prop}
theorem secR_ref (hH:HasAll P inv) (p:Pln) (hl:p.sections.length≤1000000000) (n:Int):PC P inv 293 [.agg p.c,.n n] (·=.n (zaZ (fun x=>decide (Section.id x=n)) 0 p.sections)):=by
 refine PC.fn hH cd293 fun w0 M Q hM hE hQ hR=>?_;dsimp only[cd293,qm,ql,qf,qi,qb,qc,qp,qv,qN,qT,qF,qt]at hQ ⊢
 (repeat' first|refine zaa [0,1,2,4,5,10,20] fun K hK=>?_|(refine hK.go ?_;clear hK K)|with_reducible exact wT|refine wA ?_|(refine wB (fun h=>?_) (fun h=>?_)<;>first|exact wN h|subst (h:(_:Bool)=_)|skip)|(refine wQ ?_;clear hQ hR hE hM)|fail)
 refine zai (ι:=Nat) [1,2,4,5] (fun z=>[(5,.n z)]) (fun _=>[]) (fun z=>z) (p.sections.length) (fun z=>(zaZ (fun x=>decide (Section.id x=n)) (z:Int) (p.sections.drop z)=zaZ (fun x=>decide (Section.id x=n)) 0 p.sections)) (0) ?_;rintro k ⟨hk,hg⟩;(try dsimp only at hk hg ⊢);rcases Nat.lt_or_ge k p.sections.length with hlt|hge
 ·rw[zae hlt,zaZ]at hg
  by_cases e:(nth p.sections k).id=n
  ·have e2:decide ((nth p.sections k).id=n)=true:=decide_eq_true e
   rw[if_pos e2]at hg
   skip
   (have hX:=@e2;(repeat' first|refine zaa [0,1,2,4,5,10,20] fun K hK=>?_|(refine hK.go ?_;clear hK K)|with_reducible exact wT|refine wA ?_|(refine wB (fun h=>?_) (fun h=>?_)<;>first|exact wN h|subst (h:(_:Bool)=_)|skip)|(refine wQ ?_;clear hQ hR hE hM)|fail);all_goals clear hX)
   all_goals first|rfl|exact hg|exact congrArg AV.n hg|(exfalso;contradiction)|(rw[←hg];done)|(rw[←hg];rfl)|(simp[*];done)|trace_state
  ·have e2:decide ((nth p.sections k).id=n)=false:=decide_eq_false e
   rw[if_neg (by simp[e])]at hg
   (have hX:=@e2;(repeat' first|refine zaa [0,1,2,4,5,10,20] fun K hK=>?_|(refine hK.go ?_;clear hK K)|with_reducible exact wT|refine wA ?_|(refine wB (fun h=>?_) (fun h=>?_)<;>first|exact wN h|subst (h:(_:Bool)=_)|skip)|(refine wQ ?_;clear hQ hR hE hM)|fail);all_goals clear hX)
   all_goals first|(exfalso;contradiction)|exact ⟨k+1,by omega,⟨by omega,hg⟩,by omega⟩|trace_state
 ·rw[List.drop_eq_nil_of_le hge,zaZ]at hg
  (repeat' first|refine zaa [0,1,2,4,5,10,20] fun K hK=>?_|(refine hK.go ?_;clear hK K)|with_reducible exact wT|refine wA ?_|(refine wB (fun h=>?_) (fun h=>?_)<;>first|exact wN h|subst (h:(_:Bool)=_)|skip)|(refine wQ ?_;clear hQ hR hE hM)|fail)
  all_goals first|exact hg|(rw[←hg];done)|trace_state
theorem pntR_ref (hH:HasAll P inv) (p:Pln) (hl:p.points.length≤1000000000) (n:Int):PC P inv 294 [.agg p.c,.n n] (·=.n (zaZ (fun x=>decide (Pnt.id x=n)) 0 p.points)):=by
 refine PC.fn hH cd294 fun w0 M Q hM hE hQ hR=>?_;dsimp only[cd294,qm,ql,qf,qi,qb,qc,qp,qv,qN,qT,qF,qt]at hQ ⊢
 (repeat' first|refine zaa [0,1,2,4,5,10,20] fun K hK=>?_|(refine hK.go ?_;clear hK K)|with_reducible exact wT|refine wA ?_|(refine wB (fun h=>?_) (fun h=>?_)<;>first|exact wN h|subst (h:(_:Bool)=_)|skip)|(refine wQ ?_;clear hQ hR hE hM)|fail)
 refine zai (ι:=Nat) [1,2,4,5] (fun z=>[(5,.n z)]) (fun _=>[]) (fun z=>z) (p.points.length) (fun z=>(zaZ (fun x=>decide (Pnt.id x=n)) (z:Int) (p.points.drop z)=zaZ (fun x=>decide (Pnt.id x=n)) 0 p.points)) (0) ?_;rintro k ⟨hk,hg⟩;(try dsimp only at hk hg ⊢);rcases Nat.lt_or_ge k p.points.length with hlt|hge
 ·rw[zae hlt,zaZ]at hg
  by_cases e:(nth p.points k).id=n
  ·have e2:decide ((nth p.points k).id=n)=true:=decide_eq_true e
   rw[if_pos e2]at hg
   skip
   (have hX:=@e2;(repeat' first|refine zaa [0,1,2,4,5,10,20] fun K hK=>?_|(refine hK.go ?_;clear hK K)|with_reducible exact wT|refine wA ?_|(refine wB (fun h=>?_) (fun h=>?_)<;>first|exact wN h|subst (h:(_:Bool)=_)|skip)|(refine wQ ?_;clear hQ hR hE hM)|fail);all_goals clear hX)
   all_goals first|rfl|exact hg|exact congrArg AV.n hg|(exfalso;contradiction)|(rw[←hg];done)|(rw[←hg];rfl)|(simp[*];done)|trace_state
  ·have e2:decide ((nth p.points k).id=n)=false:=decide_eq_false e
   rw[if_neg (by simp[e])]at hg
   (have hX:=@e2;(repeat' first|refine zaa [0,1,2,4,5,10,20] fun K hK=>?_|(refine hK.go ?_;clear hK K)|with_reducible exact wT|refine wA ?_|(refine wB (fun h=>?_) (fun h=>?_)<;>first|exact wN h|subst (h:(_:Bool)=_)|skip)|(refine wQ ?_;clear hQ hR hE hM)|fail);all_goals clear hX)
   all_goals first|(exfalso;contradiction)|exact ⟨k+1,by omega,⟨by omega,hg⟩,by omega⟩|trace_state
 ·rw[List.drop_eq_nil_of_le hge,zaZ]at hg
  (repeat' first|refine zaa [0,1,2,4,5,10,20] fun K hK=>?_|(refine hK.go ?_;clear hK K)|with_reducible exact wT|refine wA ?_|(refine wB (fun h=>?_) (fun h=>?_)<;>first|exact wN h|subst (h:(_:Bool)=_)|skip)|(refine wQ ?_;clear hQ hR hE hM)|fail)
  all_goals first|exact hg|(rw[←hg];done)|trace_state
theorem zoU (hH:HasAll P inv) (l:List Rte) (hl:l.length≤1000000000) (n:Int):PC P inv 310 [.sl 7 (l.map Rte.c),.n n] (·=.n (zaZ (fun x=>decide (Rte.id x=n)) 0 l)):=by
 refine PC.fn hH cd310 fun w0 M Q hM hE hQ hR=>?_;dsimp only[cd310,qm,ql,qf,qi,qb,qc,qp,qv,qN,qT,qF,qt]at hQ ⊢
 (repeat' first|refine zaa [0,1,4,5,9,18] fun K hK=>?_|(refine hK.go ?_;clear hK K)|with_reducible exact wT|refine wA ?_|(refine wB (fun h=>?_) (fun h=>?_)<;>first|exact wN h|subst (h:(_:Bool)=_)|skip)|(refine wQ ?_;clear hQ hR hE hM)|fail)
 refine zai (ι:=Nat) [0,1,4,5] (fun z=>[(5,.n z)]) (fun _=>[]) (fun z=>z) (l.length) (fun z=>(zaZ (fun x=>decide (Rte.id x=n)) (z:Int) (l.drop z)=zaZ (fun x=>decide (Rte.id x=n)) 0 l)) (0) ?_;rintro k ⟨hk,hg⟩;(try dsimp only at hk hg ⊢);rcases Nat.lt_or_ge k l.length with hlt|hge
 ·rw[zae hlt,zaZ]at hg
  by_cases e:(nth l k).id=n
  ·have e2:decide ((nth l k).id=n)=true:=decide_eq_true e
   rw[if_pos e2]at hg
   skip
   (have hX:=@e2;(repeat' first|refine zaa [0,1,4,5,9,18] fun K hK=>?_|(refine hK.go ?_;clear hK K)|with_reducible exact wT|refine wA ?_|(refine wB (fun h=>?_) (fun h=>?_)<;>first|exact wN h|subst (h:(_:Bool)=_)|skip)|(refine wQ ?_;clear hQ hR hE hM)|fail);all_goals clear hX)
   all_goals first|rfl|exact hg|exact congrArg AV.n hg|(exfalso;contradiction)|(rw[←hg];done)|(rw[←hg];rfl)|(simp[*];done)|trace_state
  ·have e2:decide ((nth l k).id=n)=false:=decide_eq_false e
   rw[if_neg (by simp[e])]at hg
   (have hX:=@e2;(repeat' first|refine zaa [0,1,4,5,9,18] fun K hK=>?_|(refine hK.go ?_;clear hK K)|with_reducible exact wT|refine wA ?_|(refine wB (fun h=>?_) (fun h=>?_)<;>first|exact wN h|subst (h:(_:Bool)=_)|skip)|(refine wQ ?_;clear hQ hR hE hM)|fail);all_goals clear hX)
   all_goals first|(exfalso;contradiction)|exact ⟨k+1,by omega,⟨by omega,hg⟩,by omega⟩|trace_state
 ·rw[List.drop_eq_nil_of_le hge,zaZ]at hg
  (repeat' first|refine zaa [0,1,4,5,9,18] fun K hK=>?_|(refine hK.go ?_;clear hK K)|with_reducible exact wT|refine wA ?_|(refine wB (fun h=>?_) (fun h=>?_)<;>first|exact wN h|subst (h:(_:Bool)=_)|skip)|(refine wQ ?_;clear hQ hR hE hM)|fail)
  all_goals first|exact hg|(rw[←hg];done)|trace_state
theorem zfn (hH:HasAll P inv) (l:List Sgn) (hl:l.length≤1000000000) (n:Int):PC P inv 314 [.sl 3 (l.map Sgn.c),.n n] (·=.n (zaZ (fun x=>decide (Sgn.id x=n)) 0 l)):=by
 refine PC.fn hH cd314 fun w0 M Q hM hE hQ hR=>?_;dsimp only[cd314,qm,ql,qf,qi,qb,qc,qp,qv,qN,qT,qF,qt]at hQ ⊢
 (repeat' first|refine zaa [0,1,4,5,9,18] fun K hK=>?_|(refine hK.go ?_;clear hK K)|with_reducible exact wT|refine wA ?_|(refine wB (fun h=>?_) (fun h=>?_)<;>first|exact wN h|subst (h:(_:Bool)=_)|skip)|(refine wQ ?_;clear hQ hR hE hM)|fail)
 refine zai (ι:=Nat) [0,1,4,5] (fun z=>[(5,.n z)]) (fun _=>[]) (fun z=>z) (l.length) (fun z=>(zaZ (fun x=>decide (Sgn.id x=n)) (z:Int) (l.drop z)=zaZ (fun x=>decide (Sgn.id x=n)) 0 l)) (0) ?_;rintro k ⟨hk,hg⟩;(try dsimp only at hk hg ⊢);rcases Nat.lt_or_ge k l.length with hlt|hge
 ·rw[zae hlt,zaZ]at hg
  by_cases e:(nth l k).id=n
  ·have e2:decide ((nth l k).id=n)=true:=decide_eq_true e
   rw[if_pos e2]at hg
   skip
   (have hX:=@e2;(repeat' first|refine zaa [0,1,4,5,9,18] fun K hK=>?_|(refine hK.go ?_;clear hK K)|with_reducible exact wT|refine wA ?_|(refine wB (fun h=>?_) (fun h=>?_)<;>first|exact wN h|subst (h:(_:Bool)=_)|skip)|(refine wQ ?_;clear hQ hR hE hM)|fail);all_goals clear hX)
   all_goals first|rfl|exact hg|exact congrArg AV.n hg|(exfalso;contradiction)|(rw[←hg];done)|(rw[←hg];rfl)|(simp[*];done)|trace_state
  ·have e2:decide ((nth l k).id=n)=false:=decide_eq_false e
   rw[if_neg (by simp[e])]at hg
   (have hX:=@e2;(repeat' first|refine zaa [0,1,4,5,9,18] fun K hK=>?_|(refine hK.go ?_;clear hK K)|with_reducible exact wT|refine wA ?_|(refine wB (fun h=>?_) (fun h=>?_)<;>first|exact wN h|subst (h:(_:Bool)=_)|skip)|(refine wQ ?_;clear hQ hR hE hM)|fail);all_goals clear hX)
   all_goals first|(exfalso;contradiction)|exact ⟨k+1,by omega,⟨by omega,hg⟩,by omega⟩|trace_state
 ·rw[List.drop_eq_nil_of_le hge,zaZ]at hg
  (repeat' first|refine zaa [0,1,4,5,9,18] fun K hK=>?_|(refine hK.go ?_;clear hK K)|with_reducible exact wT|refine wA ?_|(refine wB (fun h=>?_) (fun h=>?_)<;>first|exact wN h|subst (h:(_:Bool)=_)|skip)|(refine wQ ?_;clear hQ hR hE hM)|fail)
  all_goals first|exact hg|(rw[←hg];done)|trace_state
theorem zpb (hH:HasAll P inv) (l:List Pnt) (hl:l.length≤1000000000) (n:Int):PC P inv 316 [.sl 2 (l.map Pnt.c),.n n] (·=.n (zaZ (fun x=>decide (Pnt.id x=n)) 0 l)):=by
 refine PC.fn hH cd316 fun w0 M Q hM hE hQ hR=>?_;dsimp only[cd316,qm,ql,qf,qi,qb,qc,qp,qv,qN,qT,qF,qt]at hQ ⊢
 (repeat' first|refine zaa [0,1,4,5,9,18] fun K hK=>?_|(refine hK.go ?_;clear hK K)|with_reducible exact wT|refine wA ?_|(refine wB (fun h=>?_) (fun h=>?_)<;>first|exact wN h|subst (h:(_:Bool)=_)|skip)|(refine wQ ?_;clear hQ hR hE hM)|fail)
 refine zai (ι:=Nat) [0,1,4,5] (fun z=>[(5,.n z)]) (fun _=>[]) (fun z=>z) (l.length) (fun z=>(zaZ (fun x=>decide (Pnt.id x=n)) (z:Int) (l.drop z)=zaZ (fun x=>decide (Pnt.id x=n)) 0 l)) (0) ?_;rintro k ⟨hk,hg⟩;(try dsimp only at hk hg ⊢);rcases Nat.lt_or_ge k l.length with hlt|hge
 ·rw[zae hlt,zaZ]at hg
  by_cases e:(nth l k).id=n
  ·have e2:decide ((nth l k).id=n)=true:=decide_eq_true e
   rw[if_pos e2]at hg
   skip
   (have hX:=@e2;(repeat' first|refine zaa [0,1,4,5,9,18] fun K hK=>?_|(refine hK.go ?_;clear hK K)|with_reducible exact wT|refine wA ?_|(refine wB (fun h=>?_) (fun h=>?_)<;>first|exact wN h|subst (h:(_:Bool)=_)|skip)|(refine wQ ?_;clear hQ hR hE hM)|fail);all_goals clear hX)
   all_goals first|rfl|exact hg|exact congrArg AV.n hg|(exfalso;contradiction)|(rw[←hg];done)|(rw[←hg];rfl)|(simp[*];done)|trace_state
  ·have e2:decide ((nth l k).id=n)=false:=decide_eq_false e
   rw[if_neg (by simp[e])]at hg
   (have hX:=@e2;(repeat' first|refine zaa [0,1,4,5,9,18] fun K hK=>?_|(refine hK.go ?_;clear hK K)|with_reducible exact wT|refine wA ?_|(refine wB (fun h=>?_) (fun h=>?_)<;>first|exact wN h|subst (h:(_:Bool)=_)|skip)|(refine wQ ?_;clear hQ hR hE hM)|fail);all_goals clear hX)
   all_goals first|(exfalso;contradiction)|exact ⟨k+1,by omega,⟨by omega,hg⟩,by omega⟩|trace_state
 ·rw[List.drop_eq_nil_of_le hge,zaZ]at hg
  (repeat' first|refine zaa [0,1,4,5,9,18] fun K hK=>?_|(refine hK.go ?_;clear hK K)|with_reducible exact wT|refine wA ?_|(refine wB (fun h=>?_) (fun h=>?_)<;>first|exact wN h|subst (h:(_:Bool)=_)|skip)|(refine wQ ?_;clear hQ hR hE hM)|fail)
  all_goals first|exact hg|(rw[←hg];done)|trace_state
def znB (p:Pln) (a b:Int):Int:=match p.signals.find? (fun x=>decide (x.sec=a)&&decide (x.ed=b)) with|some x=>x.id|none=>0
theorem at_ref (hH:HasAll P inv) (p:Pln) (hl:p.signals.length≤1000000000) (a b:Int):PC P inv 311 [.agg p.c,.n a,.n b] (·=.n (znB p a b)):=by
 unfold znB
 refine PC.fn hH cd311 fun w0 M Q hM hE hQ hR=>?_;dsimp only[cd311,qm,ql,qf,qi,qb,qc,qp,qv,qN,qT,qF,qt]at hQ ⊢
 (repeat' first|refine zaa [0,1,2,3,6,7,12,32] fun K hK=>?_|(refine hK.go ?_;clear hK K)|with_reducible exact wT|refine wA ?_|(refine wB (fun h=>?_) (fun h=>?_)<;>first|exact wN h|subst (h:(_:Bool)=_)|skip)|(refine wQ ?_;clear hQ hR hE hM)|fail)
 refine zai (ι:=Nat) [1,2,3,6,7] (fun z=>[(7,.n z)]) (fun _=>[]) (fun z=>z) (p.signals.length) (fun z=>((p.signals.drop z).find? (fun x=>decide (x.sec=a)&&decide (x.ed=b))=p.signals.find? (fun x=>decide (x.sec=a)&&decide (x.ed=b)))) (0) ?_;rintro k ⟨hk,hg⟩;(try dsimp only at hk hg ⊢);rcases Nat.lt_or_ge k p.signals.length with hlt|hge
 ·rw[zae hlt,List.find?_cons]at hg
  by_cases e:(nth p.signals k).sec=a
  ·by_cases e3:(nth p.signals k).ed=b
   ·have e2:decide ((nth p.signals k).sec=a)=true:=decide_eq_true e
    have e4:decide ((nth p.signals k).ed=b)=true:=decide_eq_true e3
    rw[e2,e4]at hg
    skip
    (have hX:=zA @e2 @e4;(repeat' first|refine zaa [0,1,2,3,6,7,12,32] fun K hK=>?_|(refine hK.go ?_;clear hK K)|with_reducible exact wT|refine wA ?_|(refine wB (fun h=>?_) (fun h=>?_)<;>first|exact wN h|subst (h:(_:Bool)=_)|skip)|(refine wQ ?_;clear hQ hR hE hM)|fail);all_goals clear hX)
    all_goals first|rfl|exact hg|exact congrArg AV.n hg|(exfalso;contradiction)|(rw[←hg];done)|(rw[←hg];rfl)|(simp[*];done)|trace_state
   ·have e2:decide ((nth p.signals k).sec=a)=true:=decide_eq_true e
    have e4:decide ((nth p.signals k).ed=b)=false:=decide_eq_false e3
    rw[e2,e4]at hg
    (have hX:=zA @e2 @e4;(repeat' first|refine zaa [0,1,2,3,6,7,12,32] fun K hK=>?_|(refine hK.go ?_;clear hK K)|with_reducible exact wT|refine wA ?_|(refine wB (fun h=>?_) (fun h=>?_)<;>first|exact wN h|subst (h:(_:Bool)=_)|skip)|(refine wQ ?_;clear hQ hR hE hM)|fail);all_goals clear hX)
    all_goals first|(exfalso;contradiction)|exact ⟨k+1,by omega,⟨by omega,hg⟩,by omega⟩|trace_state
  ·have e2:decide ((nth p.signals k).sec=a)=false:=decide_eq_false e
   rw[e2]at hg
   (have hX:=@e2;(repeat' first|refine zaa [0,1,2,3,6,7,12,32] fun K hK=>?_|(refine hK.go ?_;clear hK K)|with_reducible exact wT|refine wA ?_|(refine wB (fun h=>?_) (fun h=>?_)<;>first|exact wN h|subst (h:(_:Bool)=_)|skip)|(refine wQ ?_;clear hQ hR hE hM)|fail);all_goals clear hX)
   all_goals first|(exfalso;contradiction)|exact ⟨k+1,by omega,⟨by omega,hg⟩,by omega⟩|trace_state
 ·rw[List.drop_eq_nil_of_le hge,List.find?_nil]at hg
  (repeat' first|refine zaa [0,1,2,3,6,7,12,32] fun K hK=>?_|(refine hK.go ?_;clear hK K)|with_reducible exact wT|refine wA ?_|(refine wB (fun h=>?_) (fun h=>?_)<;>first|exact wN h|subst (h:(_:Bool)=_)|skip)|(refine wQ ?_;clear hQ hR hE hM)|fail)
  all_goals first|exact hg|(rw[←hg];done)|trace_state
theorem zjp (hH:HasAll P inv) (r:Rte) (h1:r.path.length≤1000000) (h2:r.over.length≤1000000):PC P inv 315 [.agg r.c] (·=.sl 1 ((r.path++r.over).map zcP)):=by
 have f0:(r.path.map zcP).flatten++(r.over.map zcP).flatten=((r.path++r.over).map zcP).flatten:=by simp
 have f1:r.path.length+r.over.length=(r.path++r.over).length:=by simp
 generalize r.path++r.over=all at *
 refine PC.fn hH cd315 fun w0 M Q hM hE hQ hR=>?_;dsimp only[cd315,qm,ql,qf,qi,qb,qc,qp,qv,qN,qT,qF,qt]at hQ ⊢
 (have hX:=zA @f0 @f1;(repeat' first|refine zaa [0,1,2,3] fun K hK=>?_|(refine hK.go ?_;clear hK K)|with_reducible exact wT|refine wA ?_|(refine wB (fun h=>?_) (fun h=>?_)<;>first|exact wN h|subst (h:(_:Bool)=_)|skip)|(refine wQ ?_;clear hQ hR hE hM)|fail);all_goals clear hX)
 all_goals first|rfl|trace_state
theorem zpd (hH:HasAll P inv) (l:Lock) (x:Rte) (h:x.path.length≤1000000):PC P inv 313 [.agg l.c,.n x.path.length,.n x.timer] (·=.b (zat l x)):=by
 refine PC.fn hH cd313 fun w0 M Q hM hE hQ hR=>?_;dsimp only[cd313,qm,ql,qf,qi,qb,qc,qp,qv,qN,qT,qF,qt]at hQ ⊢
 (repeat' first|refine zaa [0,1,2,3,6,7,18,19,30,46,56] fun K hK=>?_|(refine hK.go ?_;clear hK K)|with_reducible exact wT|refine wA ?_|(refine wB (fun h=>?_) (fun h=>?_)<;>first|exact wN h|subst (h:(_:Bool)=_)|skip)|(refine wQ ?_;clear hQ hR hE hM)|fail)
 all_goals (unfold zat;simp[*])
 all_goals first|omega|trace_state
end Go.Lev
namespace Go.Lev
open Go.Eng
theorem zju {α:Type} [Inhabited α] (f:α→Int):∀ (l:List α),(l.map f).Pairwise (· < ·)↔∀ i,0<i→i<l.length→f (nth l (i-1))<f (nth l i)
 |[]=>by simp
 |[x]=>by
  simp
  intro i h1 h2
  omega
 |x::y::r=>by
  have ih:=zju f (y::r)
  rw[List.map_cons,List.pairwise_cons,ih]
  constructor
  ·rintro ⟨h1,h2⟩ i hi hl
   match i,hi with
   |1,_=>exact h1 (f y) (by simp)
   |i+2,_=>exact h2 (i+1) (by omega) (by simpa using hl)
  ·intro h
   have h2:∀ i,0<i→i<(y::r).length→f (nth (y::r) (i-1))<f (nth (y::r) i):=fun i hi hl=>by
    have:=h (i+1) (by omega) (by simpa using hl)
    match i,hi with
    |i+1,_=>exact this
   refine ⟨fun z hz=>?_,h2⟩
   have h3:f x<f y:=h 1 (by omega) (by simp)
   have h4:=ih.2 h2
   rw[List.map_cons,List.pairwise_cons]at h4
   rcases List.mem_cons.1 hz with rfl|hz
   ·exact h3
   ·have:=h4.1 z hz
    omega
theorem zga:∀ (l:List Section) (a:List Int) (m:Int) (i:Nat),a.length=100→(∀ s∈l,s.pt≤99)→(∀ s∈l,0<s.pt→s.pt.toNat≠i)→nth (zly a m l).1 i=nth a i
 |[],_,_,_,_,_,_=>rfl
 |s::r,a,m,i,ha,h9,h=>by
  rw[zly]
  split
  ·rename_i h0
   have:=h9 s (by simp)
   rw[zga r _ _ i (by simpa using ha) (fun t ht=>h9 t (by simp[ht])) (fun t ht=>h t (by simp[ht])),za4 _ _ _ _ (by omega),if_neg (fun e=>h s (by simp) h0 e.symm)]
  ·exact zga r _ _ i ha (fun t ht=>h9 t (by simp[ht])) fun t ht=>h t (by simp[ht])
theorem zjB:∀ (l:List Section) (a:List Int) (m:Int),a.length=100→(∀ s∈l,s.pt≤99)→l.Pairwise Pw→∀ s∈l,0<s.pt→nth (zly a m l).1 s.pt.toNat=s.id
 |[],_,_,_,_,_,s,hs,_=>by cases hs
 |t::r,a,m,ha,h9,hp,s,hs,h0=>by
  rw[List.pairwise_cons]at hp
  have h9t:=h9 t (by simp)
  rw[zly]
  rcases List.mem_cons.1 hs with rfl|hs
  ·rw[if_pos h0,zga r _ _ _ (by simpa using ha) (fun u hu=>h9 u (by simp[hu])) (fun u hu h1 e=>(hp.1 u hu).2 (by omega) (by omega)),za4 _ _ _ _ (by omega),if_pos rfl]
  ·split
   ·exact zjB r _ _ (by simpa using ha) (fun u hu=>h9 u (by simp[hu])) hp.2 s hs h0
   ·exact zjB r _ _ ha (fun u hu=>h9 u (by simp[hu])) hp.2 s hs h0
structure PtsP (p:Pln):Prop where
 id:∀ x∈p.points,1≤x.id∧x.id≤99
 up:∀ i,0<i→i<p.points.length→(nth p.points (i-1)).id<(nth p.points i).id
 sec:∀ x∈p.points,∃ s∈p.sections,s.id=x.sec∧s.pt=x.id
 len:(p.points.length:Int)≤6
 many:((p.sections.filter fun s=>decide (0<s.pt)).length:Int)=p.points.length
theorem zmZ {p:Pln} (h:zb6 p.sections=true):points p=true↔PtsP p:=by
 have hs:=zbf h
 have hm:=(zgA _).1 h
 have h9:∀ s∈p.sections,s.pt≤99:=fun s hs'=>(hs s hs').2.2.2.1
 have hlen:(List.replicate 100 (0:Int)).length=100:=by simp
 unfold points
 simp only[Bool.and_eq_true,zdG,decide_eq_true_eq,Bool.not_eq_true',List.any_eq_false]
 unfold pts
 rw[zex,zju]
 constructor
 ·rintro ⟨⟨h1,h2,h3⟩,h4,h5⟩
  refine ⟨fun x hx=>h1 x.id (List.mem_map_of_mem hx),h2,fun x hx=>?_,by simpa using h3,by omega⟩
  have h6:=h5 x hx
  unfold zjD at h6
  simp only[Bool.or_eq_true,Bool.not_eq_true',decide_eq_true_eq,decide_eq_false_iff_not,not_or,Classical.not_not]at h6
  have hx1:=h1 x.id (List.mem_map_of_mem hx)
  rcases zjC p.sections (List.replicate 100 0) 0 x.id.toNat h9 hlen with h7|⟨s,hs1,hs2,hs3,hs4⟩
  ·rw[h6.2,zdh _ _ _ (by omega)]at h7
   exact absurd h7 h6.1
  ·exact ⟨s,hs1,by rw[hs4,h6.2],by omega⟩
 ·rintro ⟨h1,h2,h3,h4,h5⟩
  refine ⟨⟨fun n hn=>?_,h2,by simpa using h4⟩,by omega,fun x hx=>?_⟩
  ·obtain ⟨x,hx,rfl⟩:=List.mem_map.1 hn
   exact h1 x hx
  ·obtain ⟨s,hs1,hs2,hs3⟩:=h3 x hx
   have h6:=zjB p.sections (List.replicate 100 0) 0 hlen h9 hm.pw s hs1 (by have:=h1 x hx;omega)
   have h7:=(hs s hs1).1
   unfold zjD
   rw[←hs3,h6,←hs2]
   simp
   omega
def rpF (p:Pln):Bool :=
 zaK (fun i (m:Int) za9=>cond (!decide ((nth p.sections i).pt=0)) (za9 (m+1)) (za9 m))
  (fun m=>zaK (fun i _ za9=>cond (decide ((nth p.points i).id<1)||(decide (99<(nth p.points i).id)||(decide ((0:Int)<i)&&decide ((nth p.points i).id≤(nth p.points (i-1)).id)||(decide (zdA (nth p.points i).sec 0 p.sections<0)||!decide ((nth p.sections (zdA (nth p.points i).sec 0 p.sections).toNat).pt=(nth p.points i).id))))) false (za9 ()))
   (fun _=>decide ((p.points.length:Int)≤6)&&decide (m=(p.points.length:Int))) p.points.length 0 ()) p.sections.length 0 0
theorem rpF_eq {p:Pln} (h:zb6 p.sections=true):rpF p=points p:=by
 have hs:=zbf h
 have hm:=(zgA _).1 h
 have hso:zdT p.sections:=zdm h
 generalize hX:points p=X
 have hiff:X=true↔PtsP p:=by rw[←hX];exact zmZ h
 have good1:∀ {b:Bool},(b=true↔PtsP p)→b=X:=fun hb=>by rw[Bool.eq_iff_iff,hb,hiff]
 unfold rpF
 refine zaX (·=X) (fun k m=>m=((((p.sections.take k).filter fun s=>decide (0<s.pt)).length:Nat):Int)) rfl ?_ ?_
 ·rintro k m za9 hk rfl hn
  have h1:=hs _ (zab hk)
  have h2:(p.sections.take (k+1)).filter (fun s=>decide (0<s.pt))=(p.sections.take k).filter (fun s=>decide (0<s.pt))++(if 0<(nth p.sections k).pt then [nth p.sections k] else []):=by
   rw[←zjd hk,List.filter_append]
   congr 1
   by_cases e:0<(nth p.sections k).pt
   ·simp[e]
   ·simp[e]
  by_cases e:(nth p.sections k).pt=0
  ·rw[decide_eq_true e,Bool.not_true,cond_false]
   refine hn _ ?_
   rw[h2,if_neg (by omega),List.append_nil]
  ·rw[decide_eq_false e,Bool.not_false,cond_true]
   refine hn _ ?_
   rw[h2,if_pos (by omega),List.length_append]
   simp
 ·rintro m rfl
  rw[List.take_of_length_le (Nat.le_refl _)]
  refine zaX (·=X) (fun k _=>∀ i,i<k→(1≤(nth p.points i).id∧(nth p.points i).id≤99)∧(0<i→(nth p.points (i-1)).id<(nth p.points i).id)∧∃ s∈p.sections,s.id=(nth p.points i).sec∧s.pt=(nth p.points i).id) (fun i hi=>by omega) ?_ ?_
  ·intro k _ za9 hk hK hn
   by_cases hok:(1≤(nth p.points k).id∧(nth p.points k).id≤99)∧(0<k→(nth p.points (k-1)).id<(nth p.points k).id)∧∃ s∈p.sections,s.id=(nth p.points k).sec∧s.pt=(nth p.points k).id
   ·obtain ⟨h1,h2,s,hs1,hs2,hs3⟩:=hok
    have h4:=zdl hso hs1
    rw[hs2]at h4
    have:(decide ((nth p.points k).id<1)||(decide (99<(nth p.points k).id)||(decide ((0:Int)<k)&&decide ((nth p.points k).id≤(nth p.points (k-1)).id)||(decide (zdA (nth p.points k).sec 0 p.sections<0)||!decide ((nth p.sections (zdA (nth p.points k).sec 0 p.sections).toNat).pt=(nth p.points k).id)))))=false:=by
     rw[h4.1,hs3]
     simp only[Bool.or_eq_false_iff,Bool.and_eq_false_imp,decide_eq_false_iff_not,decide_eq_true_eq,Bool.not_eq_false']
     refine ⟨by omega,by omega,fun h=>?_,by omega,trivial⟩
     have:=h2 (by omega)
     omega
    rw[this,cond_false]
    refine hn () fun i hi=>?_
    rcases Nat.lt_or_ge i k with h|h
    ·exact hK i h
    ·obtain rfl:i=k:=by omega
     exact ⟨h1,h2,s,hs1,hs2,hs3⟩
   ·have:(decide ((nth p.points k).id<1)||(decide (99<(nth p.points k).id)||(decide ((0:Int)<k)&&decide ((nth p.points k).id≤(nth p.points (k-1)).id)||(decide (zdA (nth p.points k).sec 0 p.sections<0)||!decide ((nth p.sections (zdA (nth p.points k).sec 0 p.sections).toNat).pt=(nth p.points k).id)))))=true:=by
     rw[←Bool.not_eq_false]
     intro hf
     simp only[Bool.or_eq_false_iff,Bool.and_eq_false_imp,decide_eq_false_iff_not,decide_eq_true_eq,Bool.not_eq_false']at hf
     obtain ⟨h1,h2,h3,h4,h5⟩:=hf
     refine hok ⟨⟨by omega,by omega⟩,fun h=>?_, ?_⟩
     ·have:=h3 (by omega)
      omega
     ·rcases zcI (nth p.points k).sec p.sections 0 with ⟨e,_⟩|⟨q,hq,e,e2⟩
      ·rw[e]at h4;exact absurd (by decide) h4
      ·have e3:(zdA (nth p.points k).sec 0 p.sections).toNat=q:=by omega
       rw[e3]at h5
       exact ⟨_,zab hq,e2,h5⟩
    rw[this,cond_true]
    refine good1 ⟨fun h=>(by cases h),fun hp=>absurd ?_ hok⟩
    exact ⟨hp.id _ (zab hk),fun h=>hp.up k h hk,hp.sec _ (zab hk)⟩
  ·intro _ hK
   refine good1 ?_
   simp only[Bool.and_eq_true,decide_eq_true_eq]
   constructor
   ·rintro ⟨h1,h2⟩
    refine ⟨fun x hx=>?_,fun i h0 hi=>(hK i hi).2.1 h0,fun x hx=>?_,h1,h2⟩
    ·obtain ⟨i,hi,rfl⟩:=zb2 hx
     exact (hK i hi).1
    ·obtain ⟨i,hi,rfl⟩:=zb2 hx
     exact (hK i hi).2.2
   ·intro hp
    exact ⟨hp.len,hp.many⟩
end Go.Lev
namespace Go.Lev
open Go.Eng
theorem ziE {sec:List Int} (h3:∀ i,nth sec i≤3) {x y:Sgn} (hx:zbU sec x.sec=true∧0≤x.ed∧x.ed<nth sec x.sec.toNat) (hy:zbU sec y.sec=true∧0≤y.ed∧y.ed<nth sec y.sec.toNat):zcD x=zcD y↔x.sec=y.sec∧x.ed=y.ed:=by
 have h4:=h3 x.sec.toNat
 have h5:=h3 y.sec.toNat
 have h6:0≤x.sec∧x.sec≤99:=by have:=hx.1;simp only[zbU,Bool.and_eq_true,decide_eq_true_eq]at this;omega
 have h7:0≤y.sec∧y.sec≤99:=by have:=hy.1;simp only[zbU,Bool.and_eq_true,decide_eq_true_eq]at this;omega
 unfold zcD
 constructor
 ·intro h;omega
 ·rintro ⟨h1,h2⟩;rw[h1,h2]
theorem zhk {sec:List Int} (h3:∀ i,nth sec i≤3) {x:Sgn} (hx:zbU sec x.sec=true∧0≤x.ed∧x.ed<nth sec x.sec.toNat):zcD x<300:=by
 have h4:=h3 x.sec.toNat
 have h6:0≤x.sec∧x.sec≤99:=by have:=hx.1;simp only[zbU,Bool.and_eq_true,decide_eq_true_eq]at this;omega
 unfold zcD
 omega
theorem zkr {sec:List Int} (h3:∀ i,nth sec i≤3):∀ (l:List Sgn) (m:List Bool),m.length=300→(zhj sec m l=true↔(∀ x∈l,(zbU sec x.sec=true∧0≤x.ed∧x.ed<nth sec x.sec.toNat)∧nth m (zcD x)=false)∧l.Pairwise fun x y=>zcD x≠zcD y)
 |[],m,_=>by simp[zhj]
 |x::r,m,hm=>by
  have ih:=zkr h3 r (m.set (zcD x) true) (by simpa using hm)
  rw[zhj,Bool.and_eq_true,ih,List.pairwise_cons]
  have hb:(!zc9 sec m x)=true↔(zbU sec x.sec=true∧0≤x.ed∧x.ed<nth sec x.sec.toNat)∧nth m (zcD x)=false:=by
   unfold zc9
   simp only[Bool.not_eq_true',Bool.or_eq_false_iff,Bool.not_eq_false',decide_eq_false_iff_not]
   constructor
   ·rintro ⟨h1,h2,h4,h5⟩;exact ⟨⟨h1,by omega,by omega⟩,h5⟩
   ·rintro ⟨⟨h1,h2,h4⟩,h5⟩;exact ⟨h1,by omega,by omega,h5⟩
  rw[hb]
  constructor
  ·rintro ⟨h1,h2,h4⟩
   have hl:=zhk h3 h1.1
   refine ⟨fun y hy=>?_,fun y hy e=>?_,h4⟩
   ·rcases List.mem_cons.1 hy with rfl|hy
    ·exact h1
    ·have h5:=h2 y hy
     refine ⟨h5.1, ?_⟩
     have h6:=h5.2
     rw[za4 _ _ _ _ (by omega)]at h6
     split at h6
     ·cases h6
     ·exact h6
   ·have h6:=(h2 y hy).2
    rw[za4 _ _ _ _ (by omega),if_pos e.symm]at h6
    cases h6
  ·rintro ⟨h1,h2,h4⟩
   have h0:=h1 x (by simp)
   have hl:=zhk h3 h0.1
   refine ⟨h0,fun y hy=>?_,h4⟩
   have h5:=h1 y (by simp[hy])
   refine ⟨h5.1, ?_⟩
   rw[za4 _ _ _ _ (by omega),if_neg (fun e=>h2 y hy e.symm)]
   exact h5.2
structure SgsP (p:Pln):Prop where
 id:∀ x∈p.signals,1≤x.id∧x.id≤99
 up:∀ i,i<p.signals.length→∀ m,m<i→(nth p.signals m).id<(nth p.signals i).id
 apart:∀ i,i<p.signals.length→∀ m,m<i→¬((nth p.signals m).sec=(nth p.signals i).sec∧(nth p.signals m).ed=(nth p.signals i).ed)
 sec:∀ x∈p.signals,∃ s∈p.sections,s.id=x.sec∧0≤x.ed∧x.ed<s.ends.length
 len:(p.signals.length:Int)≤10
theorem zfx {α:Type} [Inhabited α] {R:α→α→Prop} {l:List α}:l.Pairwise R↔∀ i,i<l.length→∀ m,m<i→R (nth l m) (nth l i):=by
 rw[List.pairwise_iff_getElem]
 constructor
 ·intro h i hi m hm
  have:=h m i (by omega) hi hm
  rw[←zaE (by omega),←zaE hi]at this
  exact this
 ·intro h i j hi hj hij
  have:=h j hj i hij
  rw[zaE hi,zaE hj]at this
  exact this
theorem zj6 {p:Pln} (h:zb6 p.sections=true) (x:Sgn):(zbU (ends p.sections) x.sec=true∧0≤x.ed∧x.ed<nth (ends p.sections) x.sec.toNat)↔∃ s∈p.sections,s.id=x.sec∧0≤x.ed∧x.ed<s.ends.length:=by
 rw[zd4 h]
 constructor
 ·rintro ⟨⟨s,hs,e⟩,h1,h2⟩
  rw[←e,zh9 h hs]at h2
  exact ⟨s,hs,e,h1,h2⟩
 ·rintro ⟨s,hs,e,h1,h2⟩
  exact ⟨⟨s,hs,e⟩,h1,by rw[←e,zh9 h hs];exact h2⟩
theorem zfk {p:Pln} (h:zb6 p.sections=true):signals p (ends p.sections)=true↔SgsP p:=by
 have h3:=zqa h
 unfold signals
 rw[Bool.and_eq_true,zdG,zkr h3 _ _ List.length_replicate]
 have hpw:(p.signals.map Sgn.id).Pairwise (· < ·)↔∀ i,i<p.signals.length→∀ m,m<i→(nth p.signals m).id<(nth p.signals i).id:=by
  rw[List.pairwise_map,zfx]
 rw[hpw,zfx]
 constructor
 ·rintro ⟨⟨h1,h2,h4⟩,h5,h6⟩
  refine ⟨fun x hx=>h1 x.id (List.mem_map_of_mem hx),h2,fun i hi m hm e=>?_,fun x hx=>(zj6 h x).1 (h5 x hx).1,by simpa using h4⟩
  exact h6 i hi m hm ((ziE h3 (h5 _ (zab (by omega))).1 (h5 _ (zab hi)).1).2 e)
 ·rintro ⟨h1,h2,h4,h5,h6⟩
  refine ⟨⟨fun n hn=>?_,h2,by simpa using h6⟩,fun x hx=>?_,fun i hi m hm e=>?_⟩
  ·obtain ⟨x,hx,rfl⟩:=List.mem_map.1 hn
   exact h1 x hx
  ·have h7:=(zj6 h x).2 (h5 x hx)
   exact ⟨h7,zdh _ _ _ (zhk h3 h7)⟩
  ·exact h4 i hi m hm ((ziE h3 ((zj6 h _).2 (h5 _ (zab (by omega)))) ((zj6 h _).2 (h5 _ (zab hi)))).1 e)
def znH (p:Pln) (x:Sgn):Bool:=decide (x.id<1)||(decide (99<x.id)||(decide (zdA x.sec 0 p.sections<0)||(decide (x.ed<0)||decide (((nth p.sections (zdA x.sec 0 p.sections).toNat).ends.length:Int)≤x.ed))))
def rsF (p:Pln):Bool :=
 zaK (fun i _ za9=>cond (znH p (nth p.signals i)) false
   (zaK (fun m _ next2=>cond (decide ((nth p.signals i).id≤(nth p.signals m).id)||(decide ((nth p.signals m).sec=(nth p.signals i).sec)&&decide ((nth p.signals m).ed=(nth p.signals i).ed))) false (next2 ())) (fun _=>za9 ()) i 0 ()))
  (fun _=>decide ((p.signals.length:Int)≤10)) p.signals.length 0 ()
theorem zht {p:Pln} (h:zb6 p.sections=true) (x:Sgn):znH p x=false↔(1≤x.id∧x.id≤99)∧∃ s∈p.sections,s.id=x.sec∧0≤x.ed∧x.ed<s.ends.length:=by
 have hso:zdT p.sections:=zdm h
 unfold znH
 simp only[Bool.or_eq_false_iff,decide_eq_false_iff_not]
 constructor
 ·rintro ⟨h1,h2,h3,h4,h5⟩
  refine ⟨by omega, ?_⟩
  rcases zcI x.sec p.sections 0 with ⟨e,_⟩|⟨q,hq,e,e2⟩
  ·rw[e]at h3;exact absurd (by decide) h3
  ·have e3:(zdA x.sec 0 p.sections).toNat=q:=by omega
   rw[e3]at h5
   exact ⟨_,zab hq,e2,by omega,by omega⟩
 ·rintro ⟨h1,s,hs1,hs2,h3,h4⟩
  have h5:=zdl hso hs1
  rw[hs2]at h5
  rw[h5.1]
  refine ⟨by omega,by omega,by omega,by omega,by omega⟩
theorem rsF_eq {p:Pln} (h:zb6 p.sections=true):rsF p=signals p (ends p.sections):=by
 generalize hX:signals p (ends p.sections)=X
 have hiff:X=true↔SgsP p:=by rw[←hX];exact zfk h
 have good1:∀ {b:Bool},(b=true↔SgsP p)→b=X:=fun hb=>by rw[Bool.eq_iff_iff,hb,hiff]
 unfold rsF
 refine zaX (·=X) (fun k _=>∀ i,i<k→znH p (nth p.signals i)=false∧∀ m,m<i→(nth p.signals m).id<(nth p.signals i).id∧¬((nth p.signals m).sec=(nth p.signals i).sec∧(nth p.signals m).ed=(nth p.signals i).ed)) (fun i hi=>by omega) ?_ ?_
 ·intro k _ za9 hk hK hn
  cases hb:znH p (nth p.signals k) with
  |true =>
   rw[cond_true]
   refine good1 ⟨fun h=>(by cases h),fun hp=>?_⟩
   have:=(zht h (nth p.signals k)).2 ⟨hp.id _ (zab hk),hp.sec _ (zab hk)⟩
   rw[hb]at this
   cases this
  |false =>
   rw[cond_false]
   refine zaX (·=X) (fun m _=>∀ j,j<m→(nth p.signals j).id<(nth p.signals k).id∧¬((nth p.signals j).sec=(nth p.signals k).sec∧(nth p.signals j).ed=(nth p.signals k).ed)) (fun j hj=>by omega) ?_ ?_
   ·intro m _ next2 hm hM hn2
    by_cases e:(nth p.signals m).id<(nth p.signals k).id∧¬((nth p.signals m).sec=(nth p.signals k).sec∧(nth p.signals m).ed=(nth p.signals k).ed)
    ·have:(decide ((nth p.signals k).id≤(nth p.signals m).id)||(decide ((nth p.signals m).sec=(nth p.signals k).sec)&&decide ((nth p.signals m).ed=(nth p.signals k).ed)))=false:=by
      simp only[Bool.or_eq_false_iff,Bool.and_eq_false_imp,decide_eq_false_iff_not,decide_eq_true_eq]
      exact ⟨by omega,fun h1 h2=>e.2 ⟨h1,h2⟩⟩
     rw[this,cond_false]
     refine hn2 () fun j hj=>?_
     rcases Nat.lt_or_ge j m with h1|h1
     ·exact hM j h1
     ·obtain rfl:j=m:=by omega
      exact e
    ·have:(decide ((nth p.signals k).id≤(nth p.signals m).id)||(decide ((nth p.signals m).sec=(nth p.signals k).sec)&&decide ((nth p.signals m).ed=(nth p.signals k).ed)))=true:=by
      rw[←Bool.not_eq_false]
      intro hf
      simp only[Bool.or_eq_false_iff,Bool.and_eq_false_imp,decide_eq_false_iff_not,decide_eq_true_eq]at hf
      exact e ⟨by omega,fun h1=>hf.2 h1.1 h1.2⟩
     rw[this,cond_true]
     refine good1 ⟨fun h=>(by cases h),fun hp=>absurd ?_ e⟩
     exact ⟨hp.up k hk m hm,hp.apart k hk m hm⟩
   ·intro _ hM
    refine hn () fun i hi=>?_
    rcases Nat.lt_or_ge i k with h1|h1
    ·exact hK i h1
    ·obtain rfl:i=k:=by omega
     exact ⟨hb,hM⟩
 ·intro _ hK
  refine good1 ?_
  rw[decide_eq_true_eq]
  constructor
  ·intro hl
   refine ⟨fun x hx=>?_,fun i hi m hm=>((hK i hi).2 m hm).1,fun i hi m hm=>((hK i hi).2 m hm).2,fun x hx=>?_,hl⟩
   ·obtain ⟨i,hi,rfl⟩:=zb2 hx
    exact ((zht h _).1 (hK i hi).1).1
   ·obtain ⟨i,hi,rfl⟩:=zb2 hx
    exact ((zht h _).1 (hK i hi).1).2
  ·exact fun hp=>hp.len
end Go.Lev
namespace Go.Lev
open Go.Eng
theorem zg6 {α:Type} [Inhabited α] (f:α→Int) (n:Int) (d:α) (l:List α):(zaZ (fun x=>decide (f x=n)) 0 l=-1∧l.find? (fun x=>decide (f x=n))=none)∨∃ i:Nat,i<l.length∧zaZ (fun x=>decide (f x=n)) 0 l=(i:Int)∧f (nth l i)=n∧l.find? (fun x=>decide (f x=n))=some (nth l i):=by
 rcases zbW (fun x:α=>decide (f x=n)) l 0 with ⟨h1,h2⟩|⟨i,h1,h2,h3⟩
 ·exact .inl ⟨h1,h2⟩
 ·exact .inr ⟨i,h1,by omega,(zfI (f:=f) h3).2,h3⟩
structure RteP (p:Pln) (r:Rte):Prop where
 ent:∃ x∈p.signals,x.id=r.entry
 ex:¬r.exit=0→(∃ x∈p.signals,x.id=r.exit)∧¬r.exit=r.entry
 ov:r.exit=0→r.over.length=0
 lens:1≤r.path.length∧r.path.length≤6∧r.over.length≤2∧r.flanks.length≤3∧1≤r.timer∧r.timer≤9
 secs:∀ x∈r.path++r.over,(∃ s∈p.sections,s.id=x)∧¬x=((p.signals.find? fun x=>decide (x.id=r.entry)).getD Sgn.z).sec
 nd:(r.path++r.over).Nodup
 flk:∀ i,i<r.flanks.length→(∃ x∈p.points,x.id=(nth r.flanks i).pnt)∧(0<i→(nth r.flanks (i-1)).pnt<(nth r.flanks i).pnt)∧((nth r.flanks i).lie=1∨(nth r.flanks i).lie=2)
theorem zcZ {α:Type} (f:α→Int) (n:Int) (l:List α):(l.find? fun x=>decide (f x=n)).isSome=true↔∃ x∈l,f x=n:=by
 rw[List.find?_isSome]
 constructor
 ·rintro ⟨x,hx,e⟩;exact ⟨x,hx,by simpa using e⟩
 ·rintro ⟨x,hx,e⟩;exact ⟨x,hx,by simpa using e⟩
def FlkOk (p:Pln) (pr:Option Int) (f:Flk):Prop:=(∃ x∈p.points,x.id=f.pnt)∧(∀ y,pr=some y→y<f.pnt)∧(f.lie=1∨f.lie=2)
theorem zn6 (p:Pln) (pr:Option Int) (f:Flk):zk1 p.points pr f=false↔FlkOk p pr f:=by
 unfold zk1 FlkOk
 rw[Bool.or_eq_false_iff,Bool.or_eq_false_iff,Bool.not_eq_false',zcZ Pnt.id]
 refine and_congr Iff.rfl (and_congr ?_ ?_)
 ·cases pr with
  |none=>simp
  |some y=>simp
 ·by_cases h:f.lie=1
  ·simp[h]
  ·simp[h]
theorem zng (p:Pln):∀ (l:List Flk) (pr:Option Int),zn5 p.points pr l=true↔∀ i,i<l.length→FlkOk p (if i=0 then pr else some (nth l (i-1)).pnt) (nth l i)
 |[],pr=>by simp[zn5]
 |f::r,pr=>by
  rw[zn5,Bool.and_eq_true,Bool.not_eq_true',zn6,zng p r]
  constructor
  ·rintro ⟨h1,h2⟩ i hi
   match i with
   |0=>rw[if_pos rfl];exact h1
   |1=>exact h2 0 (by simpa using hi)
   |i+2 =>
    have:=h2 (i+1) (by simp at hi;omega)
    rw[if_neg (by omega)]at this ⊢
    exact this
  ·intro h
   refine ⟨by have:=h 0 (by simp);rw[if_pos rfl]at this;exact this,fun i hi=>?_⟩
   have:=h (i+1) (by simpa using hi)
   rw[if_neg (by omega)]at this
   match i with
   |0=>exact this
   |i+1=>rw[if_neg (by omega)];exact this
theorem zlR {p:Pln} (h:zb6 p.sections=true) (hg:SgsP p) (r:Rte):zcE p r (ends p.sections)=true↔RteP p r:=by
 unfold zcE
 rw[Bool.and_eq_true,Bool.and_eq_true,Bool.and_eq_true,Bool.and_eq_true]
 unfold zjr zf5 zeu zhs
 rw[zjK _ _ _ (by rw[List.length_set,List.length_replicate]),zng]
 have hent:(p.signals.find? fun x=>decide (x.id=r.entry)).isSome=true→0≤((p.signals.find? fun x=>decide (x.id=r.entry)).getD Sgn.z).sec∧((p.signals.find? fun x=>decide (x.id=r.entry)).getD Sgn.z).sec≤99:=fun h1=>by
  obtain ⟨x,hx⟩:=Option.isSome_iff_exists.1 h1
  rw[hx]
  obtain ⟨s,hs,e,_⟩:=hg.sec x (List.mem_of_find?_eq_some hx)
  have:=zbf h s hs
  show 0≤x.sec∧x.sec≤99
  omega
 have hmark:(p.signals.find? fun x=>decide (x.id=r.entry)).isSome=true→∀ x:Int,0≤x∧x≤99→(nth ((List.replicate 100 false).set ((p.signals.find? fun x=>decide (x.id=r.entry)).getD Sgn.z).sec.toNat true) x.toNat=false↔¬x=((p.signals.find? fun x=>decide (x.id=r.entry)).getD Sgn.z).sec):=fun h1 x hx=>by
  have h2:=hent h1
  rw[za4 _ _ _ _ (by rw[List.length_replicate];omega)]
  by_cases e:x=((p.signals.find? fun x=>decide (x.id=r.entry)).getD Sgn.z).sec
  ·rw[if_pos (by rw[e])];simp[e]
  ·rw[if_neg (by omega),zdh _ _ _ (by omega)];simp[e]
 have hth:∀ x:Int,zbU (ends p.sections) x=true→0≤x∧x≤99:=fun x hx=>by
  obtain ⟨s,hs,e⟩:=(zd4 h x).1 hx
  have:=zbf h s hs
  omega
 constructor
 ·rintro ⟨h1,h2,h3,⟨h4,h5⟩,h6⟩
  simp only[Bool.and_eq_true,Bool.not_eq_true',Bool.and_eq_false_imp,Bool.or_eq_false_iff,Bool.not_eq_false',decide_eq_true_eq,decide_eq_false_iff_not]at h1 h2 h3
  obtain ⟨h7,h8,h9⟩:=h1
  refine ⟨(zcZ Sgn.id _ _).1 h7,fun e=>?_,fun e=>?_,by omega,fun x hx=>?_,h5,fun i hi=>?_⟩
  ·have:=h8 e
   exact ⟨(zcZ Sgn.id _ _).1 this.1,this.2⟩
  ·have:=h9 e;omega
  ·obtain ⟨h10,h11⟩:=h4 x hx
   exact ⟨(zd4 h x).1 h10,(hmark h7 x (hth x h10)).1 h11⟩
  ·have:=h6 i hi
   refine ⟨this.1,fun h0=>?_,this.2.2⟩
   exact this.2.1 _ (by rw[if_neg (by omega)])
 ·intro hr
  have h7:=(zcZ Sgn.id _ _).2 hr.ent
  refine ⟨?_, ?_, ?_,⟨fun x hx=>?_,hr.nd⟩,fun i hi=>?_⟩
  ·simp only[Bool.and_eq_true,Bool.not_eq_true',Bool.and_eq_false_imp,Bool.or_eq_false_iff,Bool.not_eq_false',decide_eq_true_eq,decide_eq_false_iff_not]
   refine ⟨h7,fun e=>⟨(zcZ Sgn.id _ _).2 (hr.ex e).1,(hr.ex e).2⟩,fun e=>?_⟩
   have:=hr.ov e
   omega
  ·have:=hr.lens
   simp only[Bool.and_eq_true,Bool.not_eq_true',decide_eq_false_iff_not]
   omega
  ·have:=hr.lens
   simp only[Bool.and_eq_true,Bool.not_eq_true',decide_eq_false_iff_not]
   omega
  ·obtain ⟨h10,h11⟩:=hr.secs x hx
   have h12:=(zd4 h x).2 h10
   exact ⟨h12,(hmark h7 x (hth x h12)).2 h11⟩
  ·obtain ⟨h10,h11,h12⟩:=hr.flk i hi
   refine ⟨h10,fun y hy=>?_,h12⟩
   by_cases h0:i=0
   ·rw[if_pos h0]at hy;cases hy
   ·rw[if_neg h0]at hy
    cases hy
    exact h11 (by omega)
def rrT1 (p:Pln) (r:Rte) (k kx:Int):Bool:=decide (k<0)||(!decide (r.exit=0)&&(decide (kx<0)||decide (r.exit=r.entry))||decide (r.exit=0)&&!decide ((r.over.length:Int)=0))
def rrT2 (r:Rte):Bool:=decide ((r.path.length:Int)<1)||(decide (6<(r.path.length:Int))||(decide (2<(r.over.length:Int))||(decide (3<(r.flanks.length:Int))||(decide (r.timer<1)||decide (9<r.timer)))))
def rrS (p:Pln) (k n:Int):Bool:=decide (zdA n 0 p.sections<0)||decide (n=(nth p.signals k.toNat).sec)
def rrK (p:Pln) (r:Rte) (i:Nat):Bool:=decide (zaZ (fun x=>decide (Pnt.id x=(nth r.flanks i).pnt)) 0 p.points<0)||(decide ((0:Int)<i)&&decide ((nth r.flanks i).pnt≤(nth r.flanks (i-1)).pnt)||(decide ((nth r.flanks i).lie<1)||decide (2<(nth r.flanks i).lie)))
def rrF (p:Pln) (r:Rte) (k kx:Int) (all:List Int):Bool :=
 cond (rrT1 p r k kx) false (cond (rrT2 r) false
  (zaK (fun i _ za9=>cond (rrS p k (nth all i)) false (zaK (fun m _ next2=>cond (decide (nth all m=nth all i)) false (next2 ())) (fun _=>za9 ()) i 0 ()))
   (fun _=>zaK (fun i _ za9=>cond (rrK p r i) false (za9 ())) (fun _=>true) r.flanks.length 0 ()) all.length 0 ()))
theorem zhU {l:List Int}:l.Nodup↔∀ i,i<l.length→∀ m,m<i→¬nth l m=nth l i:=by
 rw[List.nodup_iff_pairwise_ne,zfx]
theorem rrF_eq {p:Pln} (h:zb6 p.sections=true) (hg:SgsP p) (r:Rte):rrF p r (zaZ (fun x=>decide (Sgn.id x=r.entry)) 0 p.signals) (zaZ (fun x=>decide (Sgn.id x=r.exit)) 0 p.signals) (r.path++r.over)=zcE p r (ends p.sections):=by
 generalize hX:zcE p r (ends p.sections)=X
 have hiff:X=true↔RteP p r:=by rw[←hX];exact zlR h hg r
 have good1:∀ {b:Bool},(b=true↔RteP p r)→b=X:=fun hb=>by rw[Bool.eq_iff_iff,hb,hiff]
 have bad:¬RteP p r→false=X:=fun hb=>good1 ⟨fun h=>(by cases h),fun hr=>absurd hr hb⟩
 have hso:zdT p.sections:=zdm h
 unfold rrF
 cases h1:rrT1 p r (zaZ (fun x=>decide (Sgn.id x=r.entry)) 0 p.signals) (zaZ (fun x=>decide (Sgn.id x=r.exit)) 0 p.signals) with
 |true =>
  rw[cond_true]
  refine bad fun hr=>?_
  have hent:=hr.ent
  have:rrT1 p r (zaZ (fun x=>decide (Sgn.id x=r.entry)) 0 p.signals) (zaZ (fun x=>decide (Sgn.id x=r.exit)) 0 p.signals)=false:=by
   unfold rrT1
   simp only[Bool.or_eq_false_iff,Bool.and_eq_false_imp,decide_eq_false_iff_not,decide_eq_true_eq,Bool.not_eq_true',Bool.not_eq_false']
   refine ⟨?_,fun e=>?_,fun e=>?_⟩
   ·rcases zg6 Sgn.id r.entry Sgn.z p.signals with ⟨_,e2⟩|⟨i,_,e2,_⟩
    ·obtain ⟨x,hx,ex⟩:=hent
     have:=List.find?_eq_none.1 e2 x hx
     simp[ex]at this
    ·omega
   ·refine ⟨?_,(hr.ex e).2⟩
    rcases zg6 Sgn.id r.exit Sgn.z p.signals with ⟨_,e2⟩|⟨i,_,e2,_⟩
    ·obtain ⟨x,hx,ex⟩:=(hr.ex e).1
     have:=List.find?_eq_none.1 e2 x hx
     simp[ex]at this
    ·omega
   ·have:=hr.ov e
    omega
  rw[this]at h1
  cases h1
 |false =>
  rw[cond_false]
  unfold rrT1 at h1
  simp only[Bool.or_eq_false_iff,Bool.and_eq_false_imp,decide_eq_false_iff_not,decide_eq_true_eq,Bool.not_eq_true',Bool.not_eq_false']at h1
  obtain ⟨h1a,h1b,h1c⟩:=h1
  rcases zg6 Sgn.id r.entry Sgn.z p.signals with ⟨e,_⟩|⟨k,hk,e,ek,ef⟩
  ·rw[e]at h1a;exact absurd (by decide) h1a
  ·rw[e]
   have hsec:((p.signals.find? fun x=>decide (x.id=r.entry)).getD Sgn.z).sec=(nth p.signals k).sec:=by rw[ef];rfl
   cases h2:rrT2 r with
   |true =>
    rw[cond_true]
    refine bad fun hr=>?_
    have:=hr.lens
    have:rrT2 r=false:=by
     unfold rrT2
     simp only[Bool.or_eq_false_iff,decide_eq_false_iff_not]
     omega
    rw[this]at h2
    cases h2
   |false =>
    rw[cond_false]
    unfold rrT2 at h2
    simp only[Bool.or_eq_false_iff,decide_eq_false_iff_not]at h2
    have hS:∀ n:Int,rrS p (k:Int) n=false↔(∃ s∈p.sections,s.id=n)∧¬n=(nth p.signals k).sec:=fun n=>by
     unfold rrS
     rw[Int.toNat_natCast,Bool.or_eq_false_iff,decide_eq_false_iff_not,decide_eq_false_iff_not]
     refine and_congr ?_ Iff.rfl
     constructor
     ·intro h3
      rcases zcI n p.sections 0 with ⟨e3,_⟩|⟨q,hq,e3,e4⟩
      ·rw[e3]at h3;exact absurd (by decide) h3
      ·exact ⟨_,zab hq,e4⟩
     ·rintro ⟨s,hs,e3⟩
      have:=(zdl hso hs).2
      rw[e3]at this
      omega
    have hK:∀ i,rrK p r i=false↔(∃ x∈p.points,x.id=(nth r.flanks i).pnt)∧(0<i→(nth r.flanks (i-1)).pnt<(nth r.flanks i).pnt)∧((nth r.flanks i).lie=1∨(nth r.flanks i).lie=2):=fun i=>by
     unfold rrK
     simp only[Bool.or_eq_false_iff,Bool.and_eq_false_imp,decide_eq_false_iff_not,decide_eq_true_eq]
     refine and_congr ?_ (and_congr ?_ ?_)
     ·rcases zaV Pnt.id (nth r.flanks i).pnt p.points with ⟨e3,e4⟩|⟨q,hq,e3,e4⟩
      ·rw[e3]
       constructor
       ·intro h3;exact absurd (by decide) h3
       ·rintro ⟨x,hx,ex⟩;exact absurd ex (e4 x hx)
      ·rw[e3]
       exact ⟨fun _=>⟨_,zab hq,e4⟩,fun _=>by omega⟩
     ·constructor
      ·intro h3 h4;have:=h3 (by omega);omega
      ·intro h3 h4;have:=h3 (by omega);omega
     ·omega
    refine zaX (·=X) (fun i _=>∀ j,j<i→((∃ s∈p.sections,s.id=nth (r.path++r.over) j)∧¬nth (r.path++r.over) j=(nth p.signals k).sec)∧∀ m,m<j→¬nth (r.path++r.over) m=nth (r.path++r.over) j) (fun j hj=>by omega) ?_ ?_
    ·intro i _ za9 hi hI hn
     cases h3:rrS p (k:Int) (nth (r.path++r.over) i) with
     |true =>
      rw[cond_true]
      refine bad fun hr=>?_
      have:=hr.secs _ (zab hi)
      rw[hsec]at this
      rw[(hS _).2 this]at h3
      cases h3
     |false =>
      rw[cond_false]
      refine zaX (·=X) (fun m _=>∀ j,j<m→¬nth (r.path++r.over) j=nth (r.path++r.over) i) (fun j hj=>by omega) ?_ ?_
      ·intro m _ next2 hm hM hn2
       by_cases e4:nth (r.path++r.over) m=nth (r.path++r.over) i
       ·rw[decide_eq_true e4,cond_true]
        exact bad fun hr=>zhU.1 hr.nd i hi m hm e4
       ·rw[decide_eq_false e4,cond_false]
        refine hn2 () fun j hj=>?_
        rcases Nat.lt_or_ge j m with h5|h5
        ·exact hM j h5
        ·obtain rfl:j=m:=by omega
         exact e4
      ·intro _ hM
       refine hn () fun j hj=>?_
       rcases Nat.lt_or_ge j i with h5|h5
       ·exact hI j h5
       ·obtain rfl:j=i:=by omega
        exact ⟨(hS _).1 h3,hM⟩
    ·intro _ hI
     refine zaX (·=X) (fun i _=>∀ j,j<i→rrK p r j=false) (fun j hj=>by omega) ?_ ?_
     ·intro i _ za9 hi hJ hn
      cases h3:rrK p r i with
      |true =>
       rw[cond_true]
       refine bad fun hr=>?_
       rw[(hK i).2 (hr.flk i hi)]at h3
       cases h3
      |false =>
       rw[cond_false]
       refine hn () fun j hj=>?_
       rcases Nat.lt_or_ge j i with h5|h5
       ·exact hJ j h5
       ·obtain rfl:j=i:=by omega
        exact h3
     ·intro _ hJ
      refine good1 ⟨fun _=>?_,fun _=>rfl⟩
      refine ⟨⟨_,zab hk,ek⟩,fun e4=>?_,fun e4=>?_,by omega,fun x hx=>?_,zhU.2 fun i hi m hm=>(hI i hi).2 m hm,fun i hi=>(hK i).1 (hJ i hi)⟩
      ·have:=h1b e4
       refine ⟨?_,this.2⟩
       rcases zg6 Sgn.id r.exit Sgn.z p.signals with ⟨e5,_⟩|⟨q,hq,e5,e6,_⟩
       ·rw[e5]at this;exact absurd (by decide) this.1
       ·exact ⟨_,zab hq,e6⟩
      ·have:=h1c e4;omega
      ·obtain ⟨i,hi,rfl⟩:=zb2 hx
       rw[hsec]
       exact (hI i hi).1
end Go.Lev
namespace Go.Lev
open Go.Eng
def rmT (p:Pln):Bool:=decide (p.version<1)||(decide (2147483647<p.version)||(decide (p.parent<0)||(decide (p.version≤p.parent)||decide (16<(p.routes.length:Int)))))
def rmR (p:Pln) (rt:Rte→Bool) (i:Nat):Bool:=decide ((nth p.routes i).id<1)||(decide (99<(nth p.routes i).id)||(decide ((0:Int)<i)&&decide ((nth p.routes i).id≤(nth p.routes (i-1)).id)||!rt (nth p.routes i)))
def rmF (p:Pln) (m pts sgs:Bool) (rt:Rte→Bool):Bool :=
 cond (rmT p) false (cond (!m||(!pts||!sgs)) false (zaK (fun i _ za9=>cond (rmR p rt i) false (za9 ())) (fun _=>true) p.routes.length 0 ()))
theorem rmF_eq (p:Pln):rmF p (zb6 p.sections) (points p) (signals p (ends p.sections)) (fun r=>zcE p r (ends p.sections))=zbR p:=by
 have key:∀ X:Bool,zbR p=X→rmF p (zb6 p.sections) (points p) (signals p (ends p.sections)) (fun r=>zcE p r (ends p.sections))=X:=by
  intro X hX
  have hiff:X=true↔rmT p=false∧(zb6 p.sections=true∧points p=true∧signals p (ends p.sections)=true)∧∀ i,i<p.routes.length→rmR p (fun r=>zcE p r (ends p.sections)) i=false:=by
   rw[←hX]
   unfold zbR rmT rmR
   simp only[Bool.and_eq_true,Bool.not_eq_true',Bool.or_eq_false_iff,Bool.and_eq_false_imp,decide_eq_false_iff_not,decide_eq_true_eq,Bool.not_eq_false',zdG,zju,List.all_eq_true]
   constructor
   ·rintro ⟨⟨h1,h2,h3,h4,h5⟩,h6,h7,⟨h8,h9,h10⟩,h11⟩
    refine ⟨⟨h1,h2,h3,h4,by simp only[List.length_map]at h10;omega⟩,⟨h5,h6,h7⟩,fun i hi=>?_⟩
    have:=h8 (nth p.routes i).id (List.mem_map_of_mem (zab hi))
    refine ⟨by omega,by omega,fun h=>?_,h11 _ (zab hi)⟩
    have:=h9 i (by omega) hi
    omega
   ·rintro ⟨⟨h1,h2,h3,h4,h10⟩,⟨h5,h6,h7⟩,h8⟩
    refine ⟨⟨h1,h2,h3,h4,h5⟩,h6,h7,⟨fun n hn=>?_,fun i h0 hi=>?_,by simp only[List.length_map];omega⟩,fun r hr=>?_⟩
    ·obtain ⟨r,hr,rfl⟩:=List.mem_map.1 hn
     obtain ⟨i,hi,rfl⟩:=zb2 hr
     have:=h8 i hi
     omega
    ·have:=(h8 i hi).2.2.1 (by omega)
     omega
    ·obtain ⟨i,hi,rfl⟩:=zb2 hr
     exact (h8 i hi).2.2.2
  have bad:¬(rmT p=false∧(zb6 p.sections=true∧points p=true∧signals p (ends p.sections)=true)∧∀ i,i<p.routes.length→rmR p (fun r=>zcE p r (ends p.sections)) i=false)→false=X:=fun h=>by
   cases X with
   |false=>rfl
   |true=>exact absurd (hiff.1 rfl) h
  unfold rmF
  cases h1:rmT p with
  |true=>rw[cond_true];exact bad fun h=>by rw[h1]at h;cases h.1
  |false =>
   rw[cond_false]
   by_cases h2:zb6 p.sections=true∧points p=true∧signals p (ends p.sections)=true
   ·rw[h2.1,h2.2.1,h2.2.2,Bool.not_true,Bool.or_false,Bool.or_false,cond_false]
    refine zaX (·=X) (fun i _=>∀ j,j<i→rmR p (fun r=>zcE p r (ends p.sections)) j=false) (fun j hj=>by omega) ?_ ?_
    ·intro i _ za9 hi hI hn
     cases h3:rmR p (fun r=>zcE p r (ends p.sections)) i with
     |true=>rw[cond_true];exact bad fun h=>by have:=h.2.2 i hi;rw[h3]at this;cases this
     |false =>
      rw[cond_false]
      refine hn () fun j hj=>?_
      rcases Nat.lt_or_ge j i with h5|h5
      ·exact hI j h5
      ·obtain rfl:j=i:=by omega
       exact h3
    ·intro _ hI
     exact (hiff.2 ⟨h1,h2,hI⟩).symm
   ·have:(!zb6 p.sections||(!points p||!signals p (ends p.sections)))=true:=by
     rw[←Bool.not_eq_false]
     intro h
     simp only[Bool.or_eq_false_iff,Bool.not_eq_false']at h
     exact h2 h
    rw[this,cond_true]
    exact bad fun h=>h2 h.2.1
 exact key _ rfl
end Go.Lev
namespace Go.Lev
open Go.Eng
def zdf (p:Pln) (n:Int):Section:=nth p.sections (zdA n 0 p.sections).toNat
def zlx (p:Pln) (r:Rte) (all:List Int) (i:Nat) (s:Section) (e:Int) (j:Join):Bool :=
 if (i:Int)=(r.path.length:Int)-1 then (decide (r.exit=0)&&decide (j.to=0)||!decide (r.exit=0)&&decide (znB p s.id e=r.exit)) else decide (j.to=nth all (i+1))
def outW (p:Pln) (r:Rte) (all:List Int) (i:Nat) (s:Section) (f:Int):Option (Nat×Join×Int):=zaQ s f (zlx p r all i s) 0 s.ends
def zgX (p:Pln) (r:Rte) (all:List Int):Nat→Join→List Int→List Int→List Int→Option (List Int×List Int)
 |_,_,ins,outs,[]=>some (ins,outs)
 |i,j,ins,outs,n::l =>
  if j.to=n then (if i+1=all.length∧0<r.over.length then some (ins++[j.ed],outs++[-1]) else
   match outW p r all i (zdf p n) j.ed with
   |none=>none
   |some v=>zgX p r all (i+1) v.2.1 (ins++[j.ed]) (outs++[(v.1:Int)]) l)
  else none
def zqy (p:Pln) (i:Nat) (n a b:Int):List AskR :=
 if (zdf p n).pt=0 then [] else if 0<(if 0≤b then zhG (zdf p n) a b else a) then [⟨(zdf p n).pt,(if 0≤b then zhG (zdf p n) a b else a),i⟩] else []
def zhW (p:Pln):Nat→List Int→List Int→List Int→List AskR
 |i,n::l,a::I,b::O=>zqy p i n a b++zhW p (i+1) l I O
 |_,_,_,_=>[]
def outG:List Int→List Int→List Join
 |n::l,b::O=>(if 0≤b then [⟨n,b⟩] else [])++outG l O
 |_,_=>[]
theorem zi9 {p:Pln} {w:Wk} {s i:Int} {R:Int→Join→Bool} (h:w.lost=true):(zaz p w s i R).lost=true:=by
 unfold zaz
 rw[if_pos h]
 exact h
theorem znx {p:Pln} {w:Wk} {s i:Int} (h:w.lost=true):(zdV p w s i).lost=true:=by
 unfold zdV
 split
 ·rfl
 ·rw[if_neg (by rw[h];simp)]
  exact h
theorem zeY {p:Pln} {r:Rte} {y:Sgn} {all:List Int}:∀ (l:List Int) (i:Nat) (w:Wk),w.lost=true→(zbD p r y all i w l).lost=true
 |[],_,_,h=>h
 |s::l,i,w,h=>by
  rw[zbD]
  refine zeY l _ _ ?_
  unfold zd6
  repeat' split
  all_goals first|exact zi9 h|exact znx h
theorem zfw {s:Section} {f:Int} {R R':Int→Join→Bool}:∀ (l:List Join) (e:Nat),(∀ k,k<l.length→R ((e+k:Nat):Int) (nth l k)=R' ((e+k:Nat):Int) (nth l k))→zaQ s f R e l=zaQ s f R' e l
 |[],_,_=>rfl
 |j::r,e,h=>by
  have h0:R (e:Int) j=R' (e:Int) j:=h 0 (by simp)
  have ih:=zfw (s:=s) (f:=f) (R:=R) (R':=R') r (e+1) fun k hk=>by
   have:=h (k+1) (by simpa using hk)
   rw[show e+(k+1)=e+1+k by omega]at this
   exact this
  rw[zaQ,zaQ,ih,h0]
theorem zey {s:Section} {f:Int} {R:Int→Join→Bool}:∀ (l:List Join) (e:Nat) {v:Nat×Join×Int},zaQ s f R e l=some v→e≤v.1∧v.1<e+l.length∧v.2.1=nth l (v.1-e)∧(za8 s f v.1).2=0∧v.2.2=(za8 s f v.1).1
 |[],_,v,h=>by simp[zaQ]at h
 |j::r,e,v,h=>by
  rw[zaQ]at h
  split at h
  ·rename_i h1
   simp only[Option.some.injEq]at h
   subst h
   exact ⟨Nat.le_refl _,by simp,by rw[Nat.sub_self];rfl,h1.1,rfl⟩
  ·obtain ⟨h1,h2,h3,h4⟩:=zey r (e+1) h
   refine ⟨by omega,by simp;omega, ?_,h4⟩
   rw[h3,show v.1-e=(v.1-(e+1))+1 by omega]
   rfl
section
variable {p:Pln} (hs:zb6 p.sections=true)
include hs
theorem ze0 {n:Int} (h:∃ s∈p.sections,s.id=n):zdf p n∈p.sections∧(zdf p n).id=n∧p.sections.find? (fun s=>decide (s.id=n))=some (zdf p n):=by
 obtain ⟨s,hs1,e⟩:=h
 have h1:=zdl (zdm hs) hs1
 rw[e]at h1
 have h2:zdf p n=s:=h1.1
 rw[h2]
 have:=zj0 Section.id (zeB (zkx hs)) hs1
 rw[e]at this
 exact ⟨hs1,e,this⟩
theorem zkp {s:Section} (h:s∈p.sections):zbv s=true:=((zgA _).1 hs).one s h |>.2.2
theorem join_0 {s:Section} (h:s∈p.sections) {e:Nat} (he:e<s.ends.length):(nth s.ends e).to=0↔nth s.ends e=⟨0,0⟩:=by
 constructor
 ·intro h0
  rcases ((zgA _).1 hs).join s h e he with h1|⟨_,_,s',hs',e1,_⟩
  ·cases hj:nth s.ends e with
   |mk a b =>
    rw[hj]at h1
    obtain ⟨h2,h3⟩:=h1
    dsimp only at h2 h3
    rw[h2,h3]
  ·have:=(zbf hs s' hs').1
   omega
 ·intro h0;rw[h0]
end
theorem zoL {p:Pln} (h:SgsP p):(p.signals.map Sgn.id).Nodup:=by
 rw[List.nodup_iff_pairwise_ne,List.pairwise_map,zfx]
 intro i hi m hm
 have:=h.up i hi m hm
 omega
theorem zmN (n:Int):∀ (l:List Sgn) (o:Sgn),(∀ x∈l,x.id≠n)→znz n o l=o
 |[],_,_=>rfl
 |x::r,o,h=>by rw[znz,if_neg (h x (by simp))];exact zmN n r o fun y hy=>h y (by simp[hy])
theorem zlL (n:Int):∀ (l:List Sgn) (o:Sgn),(l.map Sgn.id).Nodup→∀ x∈l,x.id=n→znz n o l=x
 |[],_,_,x,hx,_=>by cases hx
 |y::r,o,hn,x,hx,e=>by
  simp only[List.map_cons,List.nodup_cons]at hn
  rw[znz]
  rcases List.mem_cons.1 hx with rfl|hx
  ·rw[if_pos e]
   exact zmN n r x fun z hz e2=>hn.1 (by rw[e,←e2];exact List.mem_map_of_mem hz)
  ·split
   ·exact zlL n r _ hn.2 x hx e
   ·exact zlL n r _ hn.2 x hx e
theorem zmM {p:Pln} (h:SgsP p) {x:Sgn} (hx:x∈p.signals):sig p x.id=x:=zlL _ _ _ (zoL h) x hx rfl
theorem znc (x:Sgn):∀ (l:List Section) (j:Join),(∀ s∈l,s.id≠x.sec)→ziQ x j l=j
 |[],_,_=>rfl
 |s::r,j,h=>by rw[ziQ,if_neg (h s (by simp))];exact znc x r j fun y hy=>h y (by simp[hy])
theorem zpO (x:Sgn):∀ (l:List Section) (j:Join),(l.map Section.id).Nodup→∀ s∈l,s.id=x.sec→ziQ x j l=nth s.ends x.ed.toNat
 |[],_,_,s,hs,_=>by cases hs
 |t::r,j,hn,s,hs,e=>by
  simp only[List.map_cons,List.nodup_cons]at hn
  rw[ziQ]
  rcases List.mem_cons.1 hs with rfl|hs
  ·rw[if_pos e]
   exact znc x r _ fun z hz e2=>hn.1 (by rw[e,←e2];exact List.mem_map_of_mem hz)
  ·exact zpO x r _ hn.2 s hs e
theorem zmQ {p:Pln} (h:SgsP p) {a b n:Int} (hn:¬n=0):znB p a b=n↔∃ x∈p.signals,x.id=n∧x.sec=a∧x.ed=b:=by
 unfold znB
 constructor
 ·intro e
  cases hf:p.signals.find? (fun x=>decide (x.sec=a)&&decide (x.ed=b)) with
  |none=>rw[hf]at e;exact absurd e.symm hn
  |some x =>
   rw[hf]at e
   have h1:=List.find?_some hf
   simp only[Bool.and_eq_true,decide_eq_true_eq]at h1
   exact ⟨x,List.mem_of_find?_eq_some hf,e,h1⟩
 ·rintro ⟨x,hx,e1,e2,e3⟩
  cases hf:p.signals.find? (fun x=>decide (x.sec=a)&&decide (x.ed=b)) with
  |none =>
   have:=List.find?_eq_none.1 hf x hx
   simp[e2,e3]at this
  |some z =>
   have h1:=List.find?_some hf
   simp only[Bool.and_eq_true,decide_eq_true_eq]at h1
   obtain ⟨i,hi,rfl⟩:=zb2 hx
   obtain ⟨k,hk,rfl⟩:=zb2 (List.mem_of_find?_eq_some hf)
   show (nth p.signals k).id=n
   rcases Nat.lt_trichotomy i k with hlt|rfl|hlt
   ·exact absurd ⟨e2.trans h1.1.symm,e3.trans h1.2.symm⟩ (h.apart k hk i hlt)
   ·exact e1
   ·exact absurd ⟨h1.1.trans e2.symm,h1.2.trans e3.symm⟩ (h.apart i hi k hlt)
theorem zoM {p:Pln} (h:SgsP p) {a b:Int}:znB p a b=0↔∀ x∈p.signals,¬(x.sec=a∧x.ed=b):=by
 unfold znB
 cases hf:p.signals.find? (fun x=>decide (x.sec=a)&&decide (x.ed=b)) with
 |none =>
  refine ⟨fun _ x hx e=>?_,fun _=>rfl⟩
  have:=List.find?_eq_none.1 hf x hx
  simp[e.1,e.2]at this
 |some z =>
  have h1:=List.find?_some hf
  simp only[Bool.and_eq_true,decide_eq_true_eq]at h1
  have hz:=List.mem_of_find?_eq_some hf
  refine ⟨fun e=>?_,fun e=>absurd h1 (e z hz)⟩
  have:=h.id z hz
  have e:z.id=0:=e
  omega
end Go.Lev
