/-
  A part of the engine that walks the functions' codes, and of the functions' contracts. Conditions: those that each theorem names.
-/
import Derived.Test.YtibpmipffibbpaaGreatV6
import Derived.IntWalk
set_option linter.unusedSimpArgs false
set_option linter.unusedVariables false
set_option linter.unusedSectionVars false
namespace Go.Lev
open Go.Eng
theorem zlq:∀ (l:List AskR) (m:List Bool),m.length=100->(∀ a∈l,0<=a.pnt/\a.pnt<=99)->(zlr m l=true↔(∀ a∈l,nth m a.pnt.toNat=false)/\(l.map AskR.pnt).Nodup)
 |[],m,_,_=>by simp[zlr]
 |a::r,m,hm,hr=>by
  have h0:=hr a (by simp)
  have ih:=zlq r (m.set a.pnt.toNat true) (by simpa using hm) fun b hb=>hr b (by simp[hb])
  rw[zlr,Bool.and_eq_true,ih]
  simp only[List.map_cons,List.nodup_cons,List.mem_cons,forall_eq_or_imp,Bool.not_eq_true',List.mem_map,not_exists,not_and]
  have key:∀ b∈r,nth (m.set a.pnt.toNat true) b.pnt.toNat=false↔(nth m b.pnt.toNat=false/\b.pnt≠a.pnt):=fun b hb=>by
   have hb':=hr b (by simp[hb])
   rw[za7 _ _ _ _ (by omega)]
   by_cases e:b.pnt=a.pnt
   ·rw[e,if_pos rfl];simp
   ·rw[if_neg (by omega)];simp[e]
  constructor
  ·rintro ⟨h1,h2,h3⟩
   exact ⟨⟨h1,fun b hb=>((key b hb).1 (h2 b hb)).1⟩,fun b hb=>((key b hb).1 (h2 b hb)).2,h3⟩
  ·rintro ⟨⟨h1,h2⟩,h3,h4⟩
   exact ⟨h1,fun b hb=>(key b hb).2 ⟨h2 b hb,h3 b hb⟩,h4⟩
theorem znJ {l:List AskR} (h:∀ a∈l,0<=a.pnt/\a.pnt<=99):once l=true↔(l.map AskR.pnt).Nodup:=by
 unfold once
 rw[zlq l _ (by simp) h]
 constructor
 ·exact fun h=>h.2
 ·intro h2
  exact ⟨fun a ha=>by have:=h a ha;exact zdz _ _ _ (by omega),h2⟩
theorem zgN {p:Pln} (ho:zbd p=true) {r:Rte} (hr:r∈p.routes):((zah p r).1.asks.map AskR.pnt).Nodup:=by
 obtain ⟨hok,_,h3⟩:=zaH ho
 have:=h3 r hr
 simp only[zbF,Bool.and_eq_true]at this
 exact (znJ fun a ha=>by have:=zbC hok hr ha;omega).1 this.1
def zfe (l:List Switch) (n:Int):Int:=zgj (zgk [] l) n
theorem zo7 (l:List Switch) {n m:Int} (v:Int) (h:m≠n):zfe (zdU Switch.id n (fun t=>⟨t.id,t.lie,v⟩) l) m=zfe l m:=zkp n v m h l [] [] rfl
theorem zrz {l:List Switch} (hn:(l.map Switch.id).Nodup) {n:Int} (v:Int) (h:n∈l.map Switch.id):zfe (zdU Switch.id n (fun t=>⟨t.id,t.lie,v⟩) l) n=v:=by
 obtain ⟨x,hx,e⟩:=List.mem_map.1 h
 have h1:(⟨x.id,x.lie,v⟩:Switch)∈zdU Switch.id n (fun t=>⟨t.id,t.lie,v⟩) l:=by
  unfold zdU
  exact List.mem_map.2 ⟨x,hx,by rw[if_pos e]⟩
 have:=zmE (zdU Switch.id n (fun t=>⟨t.id,t.lie,v⟩) l) [] (by rw[zjN Switch.id n (fun t=>⟨t.id,t.lie,v⟩) (fun _=>rfl)];exact hn) _ h1
 dsimp only at this
 rw[e]at this
 exact this
theorem zgJ:∀ (q:List AskR) (l:List Switch) {n:Int},(∀ a∈q,a.pnt≠n)->zfe (zaZ q l) n=zfe l n
 |[],_,_,_=>rfl
 |a::q,l,n,h=>by
  show zfe (zaZ q (zdU Switch.id a.pnt (fun t=>⟨t.id,t.lie,a.lie⟩) l)) n=_
  rw[zgJ q _ fun b hb=>h b (by simp[hb]),zo7 l a.lie (fun e=>h a (by simp) e.symm)]
theorem zgd:∀ (q:List AskR) (l:List Switch),(l.map Switch.id).Nodup->(q.map AskR.pnt).Nodup->∀ a∈q,a.pnt∈l.map Switch.id->zfe (zaZ q l) a.pnt=a.lie
 |[],_,_,_,a,ha,_=>by cases ha
 |b::q,l,hl,hq,a,ha,hi=>by
  simp only[List.map_cons,List.nodup_cons]at hq
  show zfe (zaZ q (zdU Switch.id b.pnt (fun t=>⟨t.id,t.lie,b.lie⟩) l)) a.pnt=_
  rcases List.mem_cons.1 ha with rfl|ha
  ·rw[zgJ q _ fun c hc e=>hq.1 (by rw[<-e];exact List.mem_map_of_mem hc),zrz hl _ hi]
  ·refine zgd q _ (by rw[zjN Switch.id b.pnt (fun t=>⟨t.id,t.lie,b.lie⟩) (fun _=>rfl)];exact hl) hq.2 a ha ?_
   rw[zjN Switch.id b.pnt (fun t=>⟨t.id,t.lie,b.lie⟩) (fun _=>rfl)];exact hi
theorem zpn {p:Pln} {s:State} (h:zaj p s=true):(zof p s).length=s.locks.length:=by
 have:=zak h
 simp only[zof,List.length_zip,zaP,List.length_map]
 omega
theorem zgm {p:Pln} {s:State} (h:zaj p s=true) {i:Nat} (hi:i<(zof p s).length):(zof p s)[i]=((zah p (nth p.routes i)).1,nth s.locks i):=by
 have h1:=zpn h
 have h2:=zak h
 simp[zof,zaP,zaK (show i<p.routes.length by omega),zaK (show i<s.locks.length by omega)]
theorem zl3 {p:Pln} {s:State} (h:zaj p s=true):znf (zof p s)↔∀ i j,i<s.locks.length->j<s.locks.length->i≠j->∀ m∈zc4 p s i,m∉zc4 p s j:=by
 have hl:=zpn h
 unfold znf
 rw[List.pairwise_iff_getElem]
 constructor
 ·intro hp i j hi hj hne m hm hm'
  rcases Nat.lt_trichotomy i j with hlt|e|hlt
  ·have:=hp i j (by omega) (by omega) hlt
   rw[zgm h,zgm h]at this
   exact this m hm hm'
  ·exact hne e
  ·have:=hp j i (by omega) (by omega) hlt
   rw[zgm h,zgm h]at this
   exact this m hm' hm
 ·intro hp i j hi hj hlt
  rw[zgm h,zgm h]
  exact hp i j (by omega) (by omega) (by omega)
theorem zg5 {p:Pln} {s:State} (h:zaj p s=true):zoi s (zof p s)↔∀ i,i<s.locks.length->∀ a∈zdj p s i,za9 s a.pnt=a.lie:=by
 have h2:=zak h
 constructor
 ·intro hp i hi a ha
  exact hp _ (zof_at h (by omega)) a ha
 ·intro hp z hz a ha
  obtain ⟨i,r,_,hi,e1,e2,_,e3,_⟩:=zgl h hz
  refine hp i (by omega) a ?_
  unfold zdj
  rw[e1,e2,<-e3]
  exact ha
theorem zeo {p:Pln} {s:State}:zad p s=0↔zbd p=true/\zaj p s=true/\(∀ i j,i<s.locks.length->j<s.locks.length->i≠j->∀ m∈zc4 p s i,m∉zc4 p s j)/\∀ i,i<s.locks.length->∀ a∈zdj p s i,za9 s a.pnt=a.lie:=by
 rw[zeD]
 constructor
 ·rintro ⟨h1,h2,h3,h4⟩;exact ⟨h1,h2,(zl3 h2).1 h3,(zg5 h2).1 h4⟩
 ·rintro ⟨h1,h2,h3,h4⟩;exact ⟨h1,h2,(zl3 h2).2 h3,(zg5 h2).2 h4⟩
theorem zge (s:State) (n:Int):za9 s n=zfe s.switches n:=rfl
theorem zjG (q:List AskR):∀ (l:List Switch) (k:Nat),k<l.length->(nth (zaZ q l) k).id=(nth l k).id/\(nth (zaZ q l) k).lie=(nth l k).lie/\((nth (zaZ q l) k).call=(nth l k).call\/∃ a∈q,a.pnt=(nth l k).id/\(nth (zaZ q l) k).call=a.lie):=by
 induction q with
 |nil=>intro l k _;exact ⟨rfl,rfl,.inl rfl⟩
 |cons b q ih =>
  intro l k hk
  have h1:=ih (zdU Switch.id b.pnt (fun t=>⟨t.id,t.lie,b.lie⟩) l) k (by rw[za1];exact hk)
  have h2:nth (zdU Switch.id b.pnt (fun t=>(⟨t.id,t.lie,b.lie⟩:Switch)) l) k=if (nth l k).id=b.pnt then ⟨(nth l k).id,(nth l k).lie,b.lie⟩ else nth l k:=by
   unfold zdU
   exact znK (fun x=>if Switch.id x=b.pnt then (⟨x.id,x.lie,b.lie⟩:Switch) else x) hk
  rw[show zaZ (b::q) l=zaZ q (zdU Switch.id b.pnt (fun t=>⟨t.id,t.lie,b.lie⟩) l) from rfl]
  rw[h2]at h1
  by_cases e:(nth l k).id=b.pnt
  ·rw[if_pos e]at h1
   dsimp only at h1
   refine ⟨h1.1,h1.2.1,.inr ?_⟩
   rcases h1.2.2 with h3|⟨a,ha,h3,h4⟩
   ·exact ⟨b,by simp,e.symm,h3⟩
   ·exact ⟨a,by simp[ha],h3,h4⟩
  ·rw[if_neg e]at h1
   refine ⟨h1.1,h1.2.1, ?_⟩
   rcases h1.2.2 with h3|⟨a,ha,h3,h4⟩
   ·exact .inl h3
   ·exact .inr ⟨a,by simp[ha],h3,h4⟩
section
variable {p:Pln} {s:State} {i:Nat} (h:zad p s=0) (hi:i<s.locks.length) (hph:(nth s.locks i).phase=0)
include h hi
theorem zfL {n:Int} (hid:(nth s.locks i).id=n) (q:List AskR) {j:Nat} (hj:j<s.locks.length):nth (zft s n q).locks j=if j=i then ⟨n,1,(nth s.locks i).gone,(nth s.locks i).left⟩ else nth s.locks j:=by
 show nth (zdU Lock.id n (fun l=>⟨l.id,1,l.gone,l.left⟩) s.locks) j=_
 have h2:nth (zdU Lock.id n (fun l=>(⟨l.id,1,l.gone,l.left⟩:Lock)) s.locks) j=if (nth s.locks j).id=n then ⟨(nth s.locks j).id,1,(nth s.locks j).gone,(nth s.locks j).left⟩ else nth s.locks j:=by
  unfold zdU
  exact znK (fun x=>if Lock.id x=n then (⟨x.id,1,x.gone,x.left⟩:Lock) else x) hj
 rw[h2]
 by_cases e:j=i
 ·subst e;rw[if_pos hid,if_pos rfl,hid]
 ·rw[if_neg e,if_neg (fun e2=>e (zmJ h hj hi (e2.trans hid.symm)))]
include hph
theorem zfN:(nth s.locks i).gone=0/\(nth s.locks i).left=0:=by
 have:=zcV (zac h).2.1 hi
 simp only[zbR,zax,hph,Bool.and_eq_true]at this
 simpa using this.2
theorem zow {n:Int} (hid:(nth s.locks i).id=n):zaj p (zft s n (zah p (nth p.routes i)).1.asks)=true:=by
 have hpa:=(zac h).2.1
 have hok:=zai h
 have hl:=zak hpa
 have hp2:=hpa
 unfold zaj at hpa |-
 simp only[Bool.and_eq_true,zbH]at hpa |-
 refine ⟨hpa.1,⟨by show (zaZ _ _).length=_;rw[zb0];exact hpa.2.1.1,fun k hk=>?_⟩,by show (zdU _ _ _ _).length=_;rw[za1];exact hpa.2.2.1,fun k hk=>?_⟩
 ·have hk':k<s.switches.length:=by have:k<(zaZ (zah p (nth p.routes i)).1.asks s.switches).length:=hk;rw[zb0]at this;exact this
  have h1:=hpa.2.1.2 k hk'
  have h2:=zjG (zah p (nth p.routes i)).1.asks s.switches k hk'
  show zfz (nth (zaZ _ s.switches) k) _=true
  simp only[zfz,zfo,Bool.and_eq_true,decide_eq_true_eq]at h1 |-
  refine ⟨h2.1.trans h1.1,by rw[h2.2.1];exact h1.2.1, ?_⟩
  rcases h2.2.2 with e|⟨a,ha,_,e⟩
  ·rw[e];exact h1.2.2
  ·have:=(zbC hok (zab (show i<p.routes.length by omega)) ha).2.2
   rw[e];omega
 ·have hk':k<s.locks.length:=by have:k<(zdU Lock.id n (fun l=>(⟨l.id,1,l.gone,l.left⟩:Lock)) s.locks).length:=hk;rw[za1]at this;exact this
  rw[zfL h hi hid _ hk']
  have h1:=hpa.2.2.2 k hk'
  split
  ·rename_i e
   subst e
   have hr:=zfN h hi hph
   simp only[zbR,zax,Bool.and_eq_true,decide_eq_true_eq]at h1 |-
   refine ⟨hid▸h1.1, ?_⟩
   simp[hr.1,hr.2]
  ·exact h1
theorem zpR {n:Int} (hid:(nth s.locks i).id=n) (hf:∀ m∈(zah p (nth p.routes i)).1.path++(zah p (nth p.routes i)).1.over,nth (zas p s).1 m.toNat=0)
  (hk:∀ a∈(zah p (nth p.routes i)).1.asks,za9 s a.pnt=a.lie\/nth (zas p s).2.1 a.pnt.toNat=0):zad p (zft s n (zah p (nth p.routes i)).1.asks)=0:=by
 have h':=zeo.1 h
 obtain ⟨h1,h2,h3,h4⟩:=h'
 have hok:=zai h
 have hl:=zak h2
 have hr:=zfN h hi hph
 have hsl:(zft s n (zah p (nth p.routes i)).1.asks).locks.length=s.locks.length:=za1 _ _ _ _
 have hwr:nth p.routes i∈p.routes:=zab (by omega)
 have hd:∀ j,j<s.locks.length->zc4 p (zft s n (zah p (nth p.routes i)).1.asks) j=if j=i then (zah p (nth p.routes i)).1.path++(zah p (nth p.routes i)).1.over else zc4 p s j:=fun j hj=>by
  unfold zc4
  rw[zfL h hi hid _ hj]
  by_cases e:j=i
  ·subst e
   rw[if_pos rfl,if_pos rfl]
   unfold zbq
   rw[if_neg (by dsimp only;omega)]
   dsimp only
   rw[hr.1];rfl
  ·rw[if_neg e,if_neg e]
 have ha:∀ j,j<s.locks.length->zdj p (zft s n (zah p (nth p.routes i)).1.asks) j=if j=i then (zah p (nth p.routes i)).1.asks else zdj p s j:=fun j hj=>by
  unfold zdj
  rw[zfL h hi hid _ hj]
  by_cases e:j=i
  ·subst e
   rw[if_pos rfl,if_pos rfl]
   unfold zbJ
   rw[if_neg (by dsimp only;omega)]
   refine List.filter_eq_self.2 fun a _=>?_
   simp only[zb4,hr.1,Bool.or_eq_true,decide_eq_true_eq]
   omega
  ·rw[if_neg e,if_neg e]
 have hnd:(s.switches.map Switch.id).Nodup:=by rw[zcl h2];exact zbI hok
 refine zeo.2 ⟨h1,zow h hi hph hid,fun a b ha' hb' hne m hm hm'=>?_,fun j hj a haj=>?_⟩
 ·rw[hsl]at ha' hb'
  rw[hd a ha']at hm
  rw[hd b hb']at hm'
  have free:∀ j,j<s.locks.length->∀ m∈(zah p (nth p.routes i)).1.path++(zah p (nth p.routes i)).1.over,m∉zc4 p s j:=fun j hj m hm hm'=>by
   have e1:=hf m hm
   have e2:=zmT h (zfR h hj) hm'
   have:=zmI h hj
   rw[e1]at e2
   dsimp only at e2
   omega
  by_cases e:a=i
  ·rw[if_pos e]at hm
   rw[if_neg (fun e2=>hne (e.trans e2.symm))]at hm'
   exact free b hb' m hm hm'
  ·rw[if_neg e]at hm
   by_cases e2:b=i
   ·rw[if_pos e2]at hm'
    exact free a ha' m hm' hm
   ·rw[if_neg e2]at hm'
    exact h3 a b ha' hb' hne m hm hm'
 ·rw[hsl]at hj
  rw[ha j hj]at haj
  rw[zge]
  show zfe (zaZ _ s.switches) a.pnt=_
  by_cases e:j=i
  ·rw[if_pos e]at haj
   refine zgd _ _ hnd (zgN h1 hwr) a haj ?_
   obtain ⟨x,hx,ex⟩:=(zbC hok hwr haj).1
   rw[zcl h2,<-ex]
   exact List.mem_map_of_mem hx
  ·rw[if_neg e]at haj
   have h5:=h4 j hj a haj
   rcases Classical.em (∃ b∈(zah p (nth p.routes i)).1.asks,b.pnt=a.pnt) with ⟨b,hb,eb⟩|hno
   ·have h6:=zgd _ s.switches hnd (zgN h1 hwr) b hb (by
     obtain ⟨x,hx,ex⟩:=(zbC hok hwr hb).1
     rw[zcl h2,<-ex]
     exact List.mem_map_of_mem hx)
    rw[<-eb,h6]
    rcases hk b hb with h7|h7
    ·rw[<-h7,eb];exact h5
    ·rw[eb,zrI h hj haj]at h7
     have:=zqD h hj haj
     omega
   ·rw[zgJ _ _ fun b hb e=>hno ⟨b,hb,e⟩]
    exact h5
end
theorem zjx {p:Pln} {s:State} (ho:OkP p) (h:zaj p s=true) (n:Int):frT s n=decide (zcF s n=0):=by
 rw[Bool.eq_iff_iff,decide_eq_true_eq]
 constructor
 ·intro h1
  obtain ⟨x,hx,e⟩:=List.any_eq_true.1 h1
  simp only[Bool.and_eq_true,decide_eq_true_eq]at e
  obtain ⟨k,hk,rfl⟩:=zbN hx
  rw[e.1,zqO ho h hk];exact e.2.symm
 ·intro h1
  unfold zcF at h1
  cases e:s.tracks.find? fun t=>decide (t.id=n) with
  |none=>rw[e]at h1;exact absurd h1 (by decide)
  |some t =>
   rw[e]at h1
   have h2:=List.find?_some e
   exact List.any_eq_true.2 ⟨t,List.mem_of_find?_eq_some e,by
    simp only[Bool.and_eq_true,decide_eq_true_eq]
    exact ⟨(show t.id=n by simpa using h2).symm,h1.symm⟩⟩
theorem zmH {p:Pln} {s:State} (h:zad p s=0) {i:Nat} (hi:i<s.locks.length) {n:Int} (hid:(nth s.locks i).id=n):zeR s n=(i:Int):=by
 unfold zeR
 rcases zat Lock.id n s.locks with ⟨_,h4⟩|⟨k,hk,h4,h5⟩
 ·exact absurd hid (h4 _ (zab hi))
 ·rw[h4,zmJ h hk hi (h5.trans hid.symm)]
theorem znQ {p:Pln} {s:State} (h:zad p s=0) {i:Nat} (hi:i<s.locks.length) {n:Int} (hid:(nth s.locks i).id=n):lkC p s n=if (nth s.locks i).phase=0 then setE p s i else 180:=by
 unfold lkC
 rw[if_pos h,zmH h hi hid,if_neg (by omega),Int.toNat_natCast]
theorem lkC_no {p:Pln} {s:State} (h:zad p s=0) {n:Int} (hid:∀ x∈s.locks,x.id≠n):lkC p s n=6:=by
 unfold lkC
 rw[if_pos h,if_pos]
 unfold zeR
 rcases zat Lock.id n s.locks with ⟨h3,_⟩|⟨k,hk,h4,h5⟩
 ·rw[h3];decide
 ·exact absurd h5 (hid _ (zab hk))
def leF (p:Pln) (s:State) (n e:Int) (w:WayR) (H A:Int->Int):Bool :=
 zaL (fun i _ za5=>cond (!decide ((nth s.locks i).id=n)) (za5 ())
   (cond (!decide ((nth s.locks i).phase=0)) (decide (e=180))
    (zaL (fun k _ next2=>cond (!decide (H (nth (w.path++w.over) k)=0)) (decide (e=181)) (cond (!decide (zcF s (nth (w.path++w.over) k)=0)) (decide (e=182)) (next2 ())))
     (fun _=>zaL (fun k _ next3 =>
       zaL (fun m _ next4=>cond (decide ((nth s.switches m).id=(nth w.asks k).pnt)&&!decide ((nth s.switches m).call=(nth w.asks k).lie)&&(!decide (A (nth s.switches m).id=0)||!decide (zcF s (nth p.points m).sec=0))) (decide (e=183)) (next4 ()))
        (fun _=>next3 ()) s.switches.length 0 ())
      (fun _=>decide (e=0)) w.asks.length 0 ()) (w.path++w.over).length 0 ())))
  (fun _=>decide (e=6)) s.locks.length 0 ()
theorem zjT {p:Pln} {s:State} (h:zaj p s=true) {k:Nat} (hk:k<s.switches.length):(nth s.switches k).id=(nth p.points k).id:=by
 have:=(zbH _ _ _).1 (by simp only[zaj,Bool.and_eq_true]at h;exact h.2.1)
 have:=this.2 k hk
 simp only[zfz,Bool.and_eq_true,decide_eq_true_eq]at this
 exact this.1
set_option maxRecDepth 10000
set_option maxHeartbeats 4000000
variable {P:Program} {inv:Nat->Option Nat} {w0:World} {M:Nat->Prop}
section
variable {L:List Lock} {k:Nat} (h:k<L.length)
include h
theorem zcq (v:Int):(L.map Lock.c).flatten.set (k*4) (.i .i64 v)=((L.set k ⟨v,(nth L k).phase,(nth L k).gone,(nth L k).left⟩).map Lock.c).flatten:=by
 have:=zbS (c:=Lock.c) (l:=L) (k:=k) (i:=0) h (by omega) (.i .i64 v) ⟨v,(nth L k).phase,(nth L k).gone,(nth L k).left⟩ rfl
 simpa using this
theorem lk_set1 (v:Int):(L.map Lock.c).flatten.set (k*4+1) (.i .u8 v)=((L.set k ⟨(nth L k).id,v,(nth L k).gone,(nth L k).left⟩).map Lock.c).flatten :=
 zbS (c:=Lock.c) (l:=L) (k:=k) (i:=1) h (by omega) (.i .u8 v) ⟨(nth L k).id,v,(nth L k).gone,(nth L k).left⟩ rfl
theorem lk_set2 (v:Int):(L.map Lock.c).flatten.set (k*4+2) (.i .i64 v)=((L.set k ⟨(nth L k).id,(nth L k).phase,v,(nth L k).left⟩).map Lock.c).flatten :=
 zbS (c:=Lock.c) (l:=L) (k:=k) (i:=2) h (by omega) (.i .i64 v) ⟨(nth L k).id,(nth L k).phase,v,(nth L k).left⟩ rfl
theorem zmF (v:Int):(L.map Lock.c).flatten.set (k*4+3) (.i .i64 v)=((L.set k ⟨(nth L k).id,(nth L k).phase,(nth L k).gone,v⟩).map Lock.c).flatten :=
 zbS (c:=Lock.c) (l:=L) (k:=k) (i:=3) h (by omega) (.i .i64 v) ⟨(nth L k).id,(nth L k).phase,(nth L k).gone,v⟩ rfl
theorem zmG:(L.map Lock.c).flatten[k*4]?=some (.i .i64 (nth L k).id):=fget0 (c:=Lock.c) (l:=L) h (by omega)
theorem zgB:(L.map Lock.c).flatten[k*4+1]?=some (.i .u8 (nth L k).phase):=zf5 (c:=Lock.c) (l:=L) (i:=1) h (by omega)
theorem zgA:(L.map Lock.c).flatten[k*4+2]?=some (.i .i64 (nth L k).gone):=zf5 (c:=Lock.c) (l:=L) (i:=2) h (by omega)
theorem zks:(L.map Lock.c).flatten[k*4+3]?=some (.i .i64 (nth L k).left):=zf5 (c:=Lock.c) (l:=L) (i:=3) h (by omega)
theorem zev (x:Lock):nth (L.set k x) k=x:=by rw[za7 _ _ _ _ h,if_pos rfl]
end
theorem zj2 (L:List Lock) (k:Nat) (x y:Lock):(L.set k x).set k y=L.set k y:=by rw[List.set_set]
section
variable {L:List Lock} {k:Nat} (h:k<L.length) (x:Lock)
include h
theorem zhr (v:Int):((L.set k x).map Lock.c).flatten.set (k*4) (.i .i64 v)=((L.set k ⟨v,x.phase,x.gone,x.left⟩).map Lock.c).flatten:=by rw[zcq (by simpa using h),zev h,zj2]
theorem zbA (v:Int):((L.set k x).map Lock.c).flatten.set (k*4+1) (.i .u8 v)=((L.set k ⟨x.id,v,x.gone,x.left⟩).map Lock.c).flatten:=by rw[lk_set1 (by simpa using h),zev h,zj2]
theorem zbz (v:Int):((L.set k x).map Lock.c).flatten.set (k*4+2) (.i .i64 v)=((L.set k ⟨x.id,x.phase,v,x.left⟩).map Lock.c).flatten:=by rw[lk_set2 (by simpa using h),zev h,zj2]
theorem zby (v:Int):((L.set k x).map Lock.c).flatten.set (k*4+3) (.i .i64 v)=((L.set k ⟨x.id,x.phase,x.gone,v⟩).map Lock.c).flatten:=by rw[zmF (by simpa using h),zev h,zj2]
theorem znP:((L.set k x).map Lock.c).flatten[k*4]?=some (.i .i64 x.id):=by rw[zmG (by simpa using h),zev h]
theorem znO:((L.set k x).map Lock.c).flatten[k*4+3]?=some (.i .i64 x.left):=by rw[zks (by simpa using h),zev h]
end
def zcb (l:Lock):Lock:=if l.left=0 then l else if l.left-1=0 then ⟨l.id,0,0,0⟩ else ⟨l.id,l.phase,l.gone,l.left-1⟩
def ze7 (s:State):State:=⟨s.tracks,s.switches,s.locks.map zcb⟩
theorem zg1 {α:Type} (f:α->α) (l:List α):l.mapIdx (fun _ x=>f x)=l.map f:=by
 refine List.ext_getElem (by simp) fun i h1 h2=>by simp
theorem zpr {α:Type} [Inhabited α] (f:Nat->α->α) {k:Nat} {l:List α} (h:k<l.length) (e:f k (nth l k)=nth l k):zdT f k l=zdT f (k+1) l:=by
 have e1:=zeC f h
 rw[e,<-zdm f h,zaK (by rw[zbX];exact h),List.set_getElem_self]at e1
 exact e1
theorem tick_po (hH:HasAll P inv) (hI:HasIds P inv) (p:Pln) (hp:Sm p) (s:State) (hs:SmS s) (he:zad p s=0):PO P inv 163 [.agg p.c,.agg s.c] (.tup [zdD 5 (ze7 s),.n 0]) (zdE 5 (ze7 s)):=by
 have c0:=zbP hH hI p hp s hs
 rw[he]at c0
 have c1:=zb6 hH s hs
 have hlf:∀ k,k<s.locks.length->0<=(nth s.locks k).left/\(nth s.locks k).left<=9:=fun k hk=>by
  have hpa:=(zac he).2.1
  have hpl:=zak hpa
  have h1:=zqG (zcV hpa hk)
  have h2:=zfy (zai he) (zab (show k<p.routes.length by omega))
  omega
 obtain ⟨h1,h2,h3⟩:=hs
 unfold stV stR at c1
 refine PO.fn hH cd163 fun w0 M Q hM hE hQ hR=>?_;dsimp only[cd163,qm,ql,qf,qi,qb,qc,qN,qt]at hQ |-
 (repeat' first|refine zaa [0,1,2,3,4,5,6,7,8,13,20,21,22,32,44] fun K hK=>?_|(refine hK.go ?_;clear hK K)|with_reducible exact wT|refine wA ?_|(refine wB (fun h=>?_) (fun h=>?_)<;>first|exact wN h|subst (h:(_:Bool)=_)|skip)|(refine wR ?_;clear hQ hR hE hM)|refine wC c0 ?_|refine wO c1 ?_|fail)
 all_goals first|(exfalso;contradiction)|skip
 refine zam (ι:=Nat) [3,4,5,20,21] (fun z=>[(21,.n z)]) (fun z=>[(7,.cells ((zdT (fun _ l=>zcb l) z s.locks).map Lock.c).flatten (decide (0<s.locks.length)))]) (fun z=>z) (s.locks.length) (fun _=>True) (0) ?_;rintro k ⟨hk,-⟩;(try dsimp only at hk |-);rcases Nat.lt_or_ge k s.locks.length with hlt|hge
 ·have e1:=zeC (fun _ l=>zcb l) hlt
  have en:=zdm (fun _ l=>zcb l) hlt
  have hlen:(zdT (fun _ l=>zcb l) k s.locks).length=s.locks.length:=zbX _ _ _
  have hl9:=hlf k hlt
  have eid:=zpr (fun _ l=>zcb l) hlt
  (try dsimp only at e1);(try dsimp only at eid)
  generalize hU:zdT (fun _ l=>zcb l) k s.locks=U at *
  have hk:k<U.length:=by omega
  by_cases h0:(nth s.locks k).left=0
  ·have eid:=eid (by unfold zcb;rw[if_pos h0])
   have hd:decide ((nth s.locks k).left=0)=true:=decide_eq_true h0
   (have hX:=zA (zks hk) (zA @en (zA @hlen @hd));(repeat' first|refine zaa [0,1,2,3,4,5,6,7,8,13,20,21,22,32,44] fun K hK=>?_|(refine hK.go ?_;clear hK K)|with_reducible exact wT|refine wA ?_|(refine wB (fun h=>?_) (fun h=>?_)<;>first|exact wN h|subst (h:(_:Bool)=_)|skip)|(refine wR ?_;clear hQ hR hE hM)|fail);all_goals clear hX)
   all_goals first|(exfalso;contradiction)|exact ⟨k+1,by omega,by omega,by omega,by rw[eid]⟩
  ·have hd:decide ((nth s.locks k).left=0)=false:=decide_eq_false h0
   by_cases hl1:(nth s.locks k).left-1=0
   ·rw[show zcb (nth s.locks k)=⟨(nth s.locks k).id,0,0,0⟩ by unfold zcb;rw[if_neg h0,if_pos hl1]]at e1
    have hd1:decide ((nth s.locks k).left-1=0)=true:=decide_eq_true hl1
    (have hX:=zA (zmG hk) (zA (zks hk) (zA (znP hk) (zA (znO hk) (zA (zmF hk) (zA (zhr hk) (zA (zbA hk) (zA (zbz hk) (zA (zby hk) (zA @en (zA @hlen (zA @hd @hd1)))))))))));(repeat' first|refine zaa [0,1,2,3,4,5,6,7,8,13,20,21,22,32,44] fun K hK=>?_|(refine hK.go ?_;clear hK K)|with_reducible exact wT|refine wA ?_|(refine wB (fun h=>?_) (fun h=>?_)<;>first|exact wN h|subst (h:(_:Bool)=_)|skip)|(refine wR ?_;clear hQ hR hE hM)|fail);all_goals clear hX)
    all_goals first|(exfalso;contradiction)|exact ⟨k+1,by omega,by omega,by omega,by rw[<-e1]⟩
   ·rw[show zcb (nth s.locks k)=⟨(nth s.locks k).id,(nth s.locks k).phase,(nth s.locks k).gone,(nth s.locks k).left-1⟩ by unfold zcb;rw[if_neg h0,if_neg hl1]]at e1
    have hd1:decide ((nth s.locks k).left-1=0)=false:=decide_eq_false hl1
    (have hX:=zA (zmG hk) (zA (zks hk) (zA (znP hk) (zA (znO hk) (zA (zmF hk) (zA (zhr hk) (zA (zbA hk) (zA (zbz hk) (zA (zby hk) (zA @en (zA @hlen (zA @hd @hd1)))))))))));(repeat' first|refine zaa [0,1,2,3,4,5,6,7,8,13,20,21,22,32,44] fun K hK=>?_|(refine hK.go ?_;clear hK K)|with_reducible exact wT|refine wA ?_|(refine wB (fun h=>?_) (fun h=>?_)<;>first|exact wN h|subst (h:(_:Bool)=_)|skip)|(refine wR ?_;clear hQ hR hE hM)|fail);all_goals clear hX)
    all_goals first|(exfalso;contradiction)|exact ⟨k+1,by omega,by omega,by omega,by rw[<-e1]⟩
 ·rw[zfx _ hge,zg1]
  (repeat' first|refine zaa [0,1,2,3,4,5,6,7,8,13,20,21,22,32,44] fun K hK=>?_|(refine hK.go ?_;clear hK K)|with_reducible exact wT|refine wA ?_|(refine wB (fun h=>?_) (fun h=>?_)<;>first|exact wN h|subst (h:(_:Bool)=_)|skip)|(refine wR ?_;clear hQ hR hE hM)|fail)
  all_goals (left;unfold zdD zdE ze7;dsimp only;rw[List.length_map];constructor)
  all_goals (refine wD ?_;try with_reducible exact wT)
def zgo (p:Pln) (s:State):State:=if zad p s=0 then ze7 s else State.z
theorem zpt (hH:HasAll P inv) (hI:HasIds P inv) (p:Pln) (hp:Sm p) (s:State) (hs:SmS s):PC P inv 163 [.agg p.c,.agg s.c] (·=.tup [.agg (zgo p s).c,.n (zad p s)]):=by
 unfold zgo
 by_cases he:zad p s=0
 ·have:=(tick_po hH hI p hp s hs he).pc
  rw[zbi]at this
  rw[if_pos he,he]
  exact this
 ·have c0:=zbP hH hI p hp s hs
  rw[if_neg he]
  generalize zad p s=e at c0 he |-
  refine PC.fn hH cd163 fun w0 M Q hM hE hQ hR=>?_;dsimp only[cd163,qm,ql,qf,qi,qb,qc,qN,qt]at hQ |-
  (repeat' first|refine zaa [0,1,2,3,4,5,6,7,8,13,20,21,22,32,44] fun K hK=>?_|(refine hK.go ?_;clear hK K)|with_reducible exact wT|refine wA ?_|(refine wB (fun h=>?_) (fun h=>?_)<;>first|exact wN h|subst (h:(_:Bool)=_)|skip)|(refine wQ ?_;clear hQ hR hE hM)|refine wC c0 ?_|fail)
  all_goals first|rfl|(exfalso;contradiction)|skip
theorem znU (hH:HasAll P inv) (n:Int) (x:Lock):PC P inv 174 ([.agg x.c]++[.ip 1 [[.n n]] 0 0]) (·=.b (decide (x.id=n))):=by
 refine PC.fn hH cd174 fun w0 M Q hM hE hQ hR=>?_;dsimp only[cd174,qm,ql,qf,qb,qN,qt]at hQ |-
 (repeat' first|refine zaa [0,1,2,3] fun K hK=>?_|(refine hK.go ?_;clear hK K)|with_reducible exact wT|refine wA ?_|(refine wB (fun h=>?_) (fun h=>?_)<;>first|exact wN h|subst (h:(_:Bool)=_)|skip)|(refine wQ ?_;clear hQ hR hE hM)|fail)
theorem cn175 (hH:HasAll P inv) (s:State) (hs:s.tracks.length<=1000000000) (m:Int):PC P inv 175 ([.n m]++[.ip 3 [s.c] 0 0]) (·=.b (frT s m)):=by
 have c1:=zq1 hH s.tracks ⟨m,0⟩ hs
 rw[show (s.tracks.any fun x=>decide ((⟨m,0⟩:Track).id=x.id)&&decide ((⟨m,0⟩:Track).is=x.is))=frT s m from rfl]at c1
 refine PC.fn hH cd175 fun w0 M Q hM hE hQ hR=>?_;dsimp only[cd175,qm,ql,qf,qN,qt]at hQ |-
 (repeat' first|refine zaa [0,1,3] fun K hK=>?_|(refine hK.go ?_;clear hK K)|with_reducible exact wT|refine wA ?_|(refine wB (fun h=>?_) (fun h=>?_)<;>first|exact wN h|subst (h:(_:Bool)=_)|skip)|(refine wQ ?_;clear hQ hR hE hM)|refine wC c1 ?_|fail)
theorem cn178 (hH:HasAll P inv) (s:State) (hs:s.tracks.length<=1000000000) (m:Int):PC P inv 178 ([.n m]++[.ip 1 [[.fn 175 [.ip 3 [s.c] 0 0]]] 0 0]) (·=.b (!frT s m)):=by
 have c1:=cn175 hH s hs m
 refine PC.fn hH cd178 fun w0 M Q hM hE hQ hR=>?_;dsimp only[cd178,qm,ql,qN,qt]at hQ |-
 (repeat' first|refine zaa [0,1,3] fun K hK=>?_|(refine hK.go ?_;clear hK K)|with_reducible exact wT|refine wA ?_|(refine wB (fun h=>?_) (fun h=>?_)<;>first|exact wN h|subst (h:(_:Bool)=_)|skip)|(refine wQ ?_;clear hQ hR hE hM)|refine wC c1 ?_|fail)
def zdh (s:State) (w:WayR) (l:Lock):Bool:=!((w.path.drop l.gone.toNat).any fun m=>!frT s m)
def cnC0 (s:State) (w:WayR) (l:Lock):Int:=if l.phase=0 then 220 else if l.phase=1 then 0 else if l.phase=2/\zdh s w l=true then 0 else 221
def cnL (s:State) (w:WayR) (r:Rte) (l:Lock) (n:Int):Lock:=if l.phase=1/\frT s w.near=false then ⟨n,4,0,r.timer⟩ else ⟨n,0,0,0⟩
def cnC (p:Pln) (s:State) (n:Int):Int:=if zad p s=0 then (if zeR s n<0 then 6 else cnC0 s (zah p (nth p.routes (zeR s n).toNat)).1 (nth s.locks (zeR s n).toNat)) else zad p s
def cnS (p:Pln) (s:State) (n:Int):State:=⟨s.tracks,s.switches,s.locks.set (zeR s n).toNat (cnL s (zah p (nth p.routes (zeR s n).toNat)).1 (nth p.routes (zeR s n).toNat) (nth s.locks (zeR s n).toNat) n)⟩
def cnR (p:Pln) (s:State) (n:Int):State:=if cnC p s n=0 then cnS p s n else State.z
theorem zrv (hH:HasAll P inv) (hI:HasIds P inv) (p:Pln) (hp:Sm p) (s:State) (hs:SmS s) (n:Int) (he:cnC p s n=0):PO P inv 162 [.agg p.c,.agg s.c,.n n] (.tup [zdD 7 (cnS p s n),.n 0]) (zdE 7 (cnS p s n)):=by
 have c0:=zoO hH hI p hp s hs
 have hRl:=zfl p s
 have c1:=zb6 hH s hs
 have c2:=zmR hH s.locks (fun x _=>znU hH n x) (by have:=hs.2.2;omega)
 have hst:zad p s=0:=by
  unfold cnC at he
  split at he
  ·assumption
  ·rename_i h;exact absurd he h
 have hok:=zai hst
 have hpa:=(zac hst).2.1
 have hpl:=zak hpa
 have hR:ofR p s=⟨(zas p s).1,(zas p s).2.1,zaP p,0⟩:=by unfold ofR;rw[if_pos hst]
 rw[hR]at c0 hRl
 dsimp only at c0 hRl
 unfold cnC at he
 rw[if_pos hst]at he
 unfold cnS
 rcases zat Lock.id n s.locks with ⟨h4,_⟩|⟨i,hi,h4,h5⟩
 ·rw[show zeR s n=-1 from h4,if_pos (by decide)]at he
  cases he
 ·rw[show zeR s n=(i:Int) from h4,if_neg (by omega),Int.toNat_natCast]at he
  rw[show zeR s n=(i:Int) from h4,Int.toNat_natCast]
  rw[h4]at c2
  have hri:i<p.routes.length:=by omega
  have hwat:nth (zaP p) i=(zah p (nth p.routes i)).1:=znK _ hri
  have hwlen:(zaP p).length=p.routes.length:=by simp[zaP]
  have hwl:=zbf hok (zab hri)
  have hwp:=zbv ((zaH (zac hst).1).2.1 _ (zab hri))
  have hgn:=zeS hok (zab hri) (zcV hpa hi)
  rw[<-hwp.1]at hgn
  have h3:=hs.2.2
  have c4:=fun m=>cn175 hH s (by have:=hs.1;omega) m
  have c5:=zq2 hH ((zah p (nth p.routes i)).1.path.drop (nth s.locks i).gone.toNat) (fun x _=>cn178 hH s (by have:=hs.1;omega) x) (by simp;omega)
  rw[show (((zah p (nth p.routes i)).1.path.drop (nth s.locks i).gone.toNat).any fun m=>!frT s m)=!zdh s (zah p (nth p.routes i)).1 (nth s.locks i) by simp[zdh]]at c5
  unfold cnC0 at he
  generalize (zah p (nth p.routes i)).1=w at *
  generalize zaP p=ws at *
  generalize zas p s=GR at *
  obtain ⟨H,A,B⟩:=GR
  dsimp only at *
  obtain ⟨G,Z,hg⟩:=GC.ex
  rw[<-hg.eq]at c0
  have hfold:=hg.fold
  have hlen0:=hg.len (.s0 4) hg.zl hg.zl
  have hlen:=hg.len (.sl 4 (ws.map Way.c)) hRl.1 hRl.2
  have hov:=hg.ov (.s0 4) (.sl 4 (ws.map Way.c)) hg.zl hg.zl hRl.1 hRl.2
  have hbd0:=hg.bd0 Z Z
  have hbd:=hg.bd H A (ws.map Way.c)
  have hba:=hg.ba H A (ws.map Way.c)
  have hgw:=hg.get (.sl 4 (ws.map Way.c)) hRl.1 hRl.2
  clear hg hR hok hpa hst hwp
  unfold stV stR at c1
  have c6:=c4 w.near
  unfold cnL
  by_cases hp1:(nth s.locks i).phase=1
  ·cases hf:frT s w.near with
   |true =>
    rw[if_neg (fun h=>by cases h.2)]
    rw[hf]at c6
    refine PO.fn hH cd162 fun w0 M Q hM hE hQ hR=>?_;dsimp only[cd162,qm,ql,qf,qi,qc,qp,qv,qN,qT,qF,qt]at hQ |-
    (have hX:=zA @hfold (zA @hlen0 (zA @hlen (zA @hov (zA @hbd0 (zA @hbd (zA @hba (zA @hgw (zA @hwat (zA @hp1 (zA (zgB hi) (zA (zgA hi) (zA (zcq hi) (zA (zbA hi) (zA (zbz hi) (zby hi)))))))))))))));(repeat' first|refine zaa [0,1,2,3,4,5,6,7,8,9,10,11,12,13,14,15,23,33,54,71,80,84,86,88,97] fun K hK=>?_|(refine hK.go ?_;clear hK K)|with_reducible exact wT|refine wA ?_|(refine wB (fun h=>?_) (fun h=>?_)<;>first|exact wN h|subst (h:(_:Bool)=_)|skip)|(refine wR ?_;clear hQ hR hE hM)|refine wC c0 ?_|refine wO c1 ?_|refine wS c2 ?_|refine wS c6 ?_|fail);all_goals clear hX)
    all_goals first|(exfalso;contradiction)|(exfalso;omega)|skip
    all_goals (left;unfold zdD zdE;dsimp only;rw[List.length_set];constructor)
    all_goals (refine wD ?_;try with_reducible exact wT)
   |false =>
    rw[if_pos ⟨hp1,rfl⟩]
    rw[hf]at c6
    refine PO.fn hH cd162 fun w0 M Q hM hE hQ hR=>?_;dsimp only[cd162,qm,ql,qf,qi,qc,qp,qv,qN,qT,qF,qt]at hQ |-
    (have hX:=zA @hfold (zA @hlen0 (zA @hlen (zA @hov (zA @hbd0 (zA @hbd (zA @hba (zA @hgw (zA @hwat (zA @hp1 (zA (zgB hi) (zA (zgA hi) (zA (zcq hi) (zA (zbA hi) (zA (zbz hi) (zby hi)))))))))))))));(repeat' first|refine zaa [0,1,2,3,4,5,6,7,8,9,10,11,12,13,14,15,23,33,54,71,80,84,86,88,97] fun K hK=>?_|(refine hK.go ?_;clear hK K)|with_reducible exact wT|refine wA ?_|(refine wB (fun h=>?_) (fun h=>?_)<;>first|exact wN h|subst (h:(_:Bool)=_)|skip)|(refine wR ?_;clear hQ hR hE hM)|refine wC c0 ?_|refine wO c1 ?_|refine wS c2 ?_|refine wS c6 ?_|fail);all_goals clear hX)
    all_goals first|(exfalso;contradiction)|(exfalso;omega)|skip
    all_goals (left;unfold zdD zdE;dsimp only;rw[List.length_set];constructor)
    all_goals (refine wD ?_;try with_reducible exact wT)
  ·rw[if_neg (fun h=>hp1 h.1)]
   rw[if_neg hp1]at he
   by_cases hp0:(nth s.locks i).phase=0
   ·rw[if_pos hp0]at he;cases he
   ·rw[if_neg hp0]at he
    by_cases hp2:(nth s.locks i).phase=2/\zdh s w (nth s.locks i)=true
    ·obtain ⟨hp1,hem⟩:=hp2
     rw[hem,List.map_drop]at c5
     refine PO.fn hH cd162 fun w0 M Q hM hE hQ hR=>?_;dsimp only[cd162,qm,ql,qf,qi,qc,qp,qv,qN,qT,qF,qt]at hQ |-
     (have hX:=zA @hfold (zA @hlen0 (zA @hlen (zA @hov (zA @hbd0 (zA @hbd (zA @hba (zA @hgw (zA @hwat (zA @hp1 (zA (zgB hi) (zA (zgA hi) (zA (zcq hi) (zA (zbA hi) (zA (zbz hi) (zby hi)))))))))))))));(repeat' first|refine zaa [0,1,2,3,4,5,6,7,8,9,10,11,12,13,14,15,23,33,54,71,80,84,86,88,97] fun K hK=>?_|(refine hK.go ?_;clear hK K)|with_reducible exact wT|refine wA ?_|(refine wB (fun h=>?_) (fun h=>?_)<;>first|exact wN h|subst (h:(_:Bool)=_)|skip)|(refine wR ?_;clear hQ hR hE hM)|refine wC c0 ?_|refine wO c1 ?_|refine wS c2 ?_|refine wS c5 ?_|fail);all_goals clear hX)
     all_goals first|(exfalso;contradiction)|(exfalso;omega)|skip
     all_goals (left;unfold zdD zdE;dsimp only;rw[List.length_set];constructor)
     all_goals (refine wD ?_;try with_reducible exact wT)
    ·rw[if_neg hp2]at he;cases he
def zcm (r:Rte) (is:Int->Int) (l:Lock):Lock :=
 if l.phase=1\/l.phase=4 then (if (r.path.any fun n=>decide (is n=1))=true then ⟨l.id,2,0,0⟩ else l)
 else if l.phase=2 then
  (if l.gone<(r.path.length:Int)-1/\is (nth r.path l.gone.toNat)=0/\is (nth r.path (l.gone.toNat+1))=1 then ⟨l.id,l.phase,l.gone+1,l.left⟩
   else if l.gone=(r.path.length:Int)-1/\is (nth r.path (r.path.length-1))=1 then ⟨l.id,3,(r.path.length:Int)-1,r.timer⟩
   else if l.gone=(r.path.length:Int)-1/\is (nth r.path (r.path.length-1))=0 then ⟨l.id,0,0,0⟩
   else l)
 else if l.phase=3 then (if is (nth r.path (r.path.length-1))=0 then ⟨l.id,0,0,0⟩ else l)
 else l
theorem is187_pc (hH:HasAll P inv) (n:Int) (x:Track):PC P inv 187 ([.agg x.c]++[.ip 1 [[.n n]] 0 0]) (·=.b (decide (x.id=n))):=by
 refine PC.fn hH cd187 fun w0 M Q hM hE hQ hR=>?_;dsimp only[cd187,qm,ql,qf,qb,qN,qt]at hQ |-
 (repeat' first|refine zaa [0,1,2,3] fun K hK=>?_|(refine hK.go ?_;clear hK K)|with_reducible exact wT|refine wA ?_|(refine wB (fun h=>?_) (fun h=>?_)<;>first|exact wN h|subst (h:(_:Bool)=_)|skip)|(refine wQ ?_;clear hQ hR hE hM)|fail)
theorem is_pc (hH:HasAll P inv) (s:State) (hs:s.tracks.length<=1000000000) {m:Nat} (hm:m<s.tracks.length) {n:Int} (he:za3 (fun x=>decide (Track.id x=n)) 0 s.tracks=(m:Int)):PC P inv 186 ([.n n]++[.ip 3 [s.c] 0 0]) (·=.i .u8 (nth s.tracks m).is):=by
 have c1:=zkx hH s.tracks (fun x _=>is187_pc hH n x) hs
 rw[he]at c1
 refine PC.fn hH cd186 fun w0 M Q hM hE hQ hR=>?_;dsimp only[cd186,qm,ql,qf,qi,qN,qt]at hQ |-
 (repeat' first|refine zaa [0,1,2,3] fun K hK=>?_|(refine hK.go ?_;clear hK K)|with_reducible exact wT|refine wA ?_|(refine wB (fun h=>?_) (fun h=>?_)<;>first|exact wN h|subst (h:(_:Bool)=_)|skip)|(refine wQ ?_;clear hQ hR hE hM)|refine wS c1 ?_|fail)
theorem zjR (hH:HasAll P inv) {jc:Nat} {caps:List AV} {n v:Int} (hc:PC P inv jc ([.n n]++caps) (·=.i .u8 v)):PC P inv 190 ([.n n]++[.ip 1 [[.fn jc caps]] 0 0]) (·=.b (decide (v=1))):=by
 refine PC.fn hH cd190 fun w0 M Q hM hE hQ hR=>?_;dsimp only[cd190,qm,ql,qN,qt]at hQ |-
 (repeat' first|refine zaa [0,1,3] fun K hK=>?_|(refine hK.go ?_;clear hK K)|with_reducible exact wT|refine wA ?_|(refine wB (fun h=>?_) (fun h=>?_)<;>first|exact wN h|subst (h:(_:Bool)=_)|skip)|(refine wQ ?_;clear hQ hR hE hM)|refine wC hc ?_|fail)
theorem step_pc (hH:HasAll P inv) (r:Rte) (l:Lock) (is:Int->Int) {jc:Nat} {caps:List AV} (hpl:zaC caps=true) (hc:∀ n∈r.path,PC P inv jc ([.n n]++caps) (·=.i .u8 (is n))) (h0:0<r.path.length) (h1:r.path.length<=1000) (hg:0<=l.gone/\l.gone<=(r.path.length:Int)-1):PC P inv 188 [.agg r.c,.agg l.c,.fn jc caps] (·=.agg (zcm r is l).c):=by
 have c1:=zq2 hH r.path (fun x hx=>zjR hH (hc x hx)) (by omega)
 have d1:=hc _ (zab (show r.path.length-1<r.path.length by omega))
 have d2:=hc _ (zab (show l.gone.toNat<r.path.length by omega))
 have t1:=zjR hH d1
 have hb:=zcc caps hpl
 have hbd:zae caps=0:=zbn _ hb
 have hsn:∀ (k:Nat) (σ:AS),zb3 k σ caps=caps:=fun k σ=>zfE k σ hpl
 unfold zcm
 generalize (r.path.any fun n=>decide (is n=1))=anyT at *
 by_cases hp:l.phase=1\/l.phase=4
 ·rw[if_pos hp]
  rcases hp with hp|hp
  all_goals cases anyT
  all_goals refine PC.fn hH cd188 fun w0 M Q hM hE hQ hR=>?_;dsimp only[cd188,qm,ql,qf,qi,qb,qc,qp,qN,qT,qt]at hQ |-
  all_goals (have hX:=zA @hp (zA @hb (zA @hbd @hsn));(repeat' first|refine zaa [0,1,2,3,4,5,6,7,8,15,16,22,26,28,41,53,59,79,91,97,105,106] fun K hK=>?_|(refine hK.go ?_;clear hK K)|with_reducible exact wT|refine wA ?_|(refine wB (fun h=>?_) (fun h=>?_)<;>first|exact wN h|subst (h:(_:Bool)=_)|skip)|(refine wQ ?_;clear hQ hR hE hM)|refine wS c1 ?_|fail);all_goals clear hX)
  all_goals first|rfl|(exfalso;contradiction)
 ·rw[if_neg hp]
  have hp1:¬l.phase=1:=fun h=>hp (.inl h)
  have hp4:¬l.phase=4:=fun h=>hp (.inr h)
  have e1:decide (l.phase=1)=false:=decide_eq_false hp1
  have e4:decide (l.phase=4)=false:=decide_eq_false hp4
  by_cases hp2:l.phase=2
  ·rw[if_pos hp2]
   by_cases hgl:l.gone<(r.path.length:Int)-1
   ·have d3:=hc _ (zab (show l.gone.toNat+1<r.path.length by omega))
    have t3:=zjR hH d3
    have hn1:(l.gone+1).toNat=l.gone.toNat+1:=by omega
    have hge:¬l.gone=(r.path.length:Int)-1:=by omega
    simp only[hgl,hge,true_and,false_and,if_false]
    generalize is (nth r.path l.gone.toNat)=v1 at *
    generalize is (nth r.path (l.gone.toNat+1))=v2 at *
    have egl:decide (l.gone<(r.path.length:Int)-1)=true:=decide_eq_true hgl
    have ege:decide (l.gone=(r.path.length:Int)-1)=false:=decide_eq_false hge
    refine PC.fn hH cd188 fun w0 M Q hM hE hQ hR=>?_;dsimp only[cd188,qm,ql,qf,qi,qb,qc,qp,qN,qT,qt]at hQ |-
    (have hX:=zA @hp2 (zA @hb (zA @hbd (zA @hsn (zA @hn1 (zA @egl @ege)))));(repeat' first|refine zaa [0,1,2,3,4,5,6,7,8,15,16,22,26,28,41,53,59,79,91,97,105,106] fun K hK=>?_|(refine hK.go ?_;clear hK K)|with_reducible exact wT|refine wA ?_|(refine wB (fun h=>?_) (fun h=>?_)<;>first|exact wN h|subst (h:(_:Bool)=_)|skip)|(refine wQ ?_;clear hQ hR hE hM)|refine wC d2 ?_|refine wS t3 ?_|fail);all_goals clear hX)
    all_goals first|(exfalso;contradiction)|rfl|(simp[*];done)
   ·have hge:l.gone=(r.path.length:Int)-1:=by omega
    have hn2:((r.path.length:Int)-1).toNat=r.path.length-1:=by omega
    simp only[hgl,hge,true_and,false_and,if_false]
    generalize is (nth r.path (r.path.length-1))=v1 at *
    have egl:decide (l.gone<(r.path.length:Int)-1)=false:=decide_eq_false hgl
    have ege:decide (l.gone=(r.path.length:Int)-1)=true:=decide_eq_true hge
    refine PC.fn hH cd188 fun w0 M Q hM hE hQ hR=>?_;dsimp only[cd188,qm,ql,qf,qi,qb,qc,qp,qN,qT,qt]at hQ |-
    (have hX:=zA @hp2 (zA @hb (zA @hbd (zA @hsn (zA @hn2 (zA @egl @ege)))));(repeat' first|refine zaa [0,1,2,3,4,5,6,7,8,15,16,22,26,28,41,53,59,79,91,97,105,106] fun K hK=>?_|(refine hK.go ?_;clear hK K)|with_reducible exact wT|refine wA ?_|(refine wB (fun h=>?_) (fun h=>?_)<;>first|exact wN h|subst (h:(_:Bool)=_)|skip)|(refine wQ ?_;clear hQ hR hE hM)|refine wC d1 ?_|refine wS t1 ?_|fail);all_goals clear hX)
    all_goals first|(exfalso;contradiction)|rfl|(simp[*];done)
  ·rw[if_neg hp2]
   have e2:decide (l.phase=2)=false:=decide_eq_false hp2
   have hn2:((r.path.length:Int)-1).toNat=r.path.length-1:=by omega
   by_cases hp3:l.phase=3
   ·rw[if_pos hp3]
    generalize is (nth r.path (r.path.length-1))=v1 at *
    refine PC.fn hH cd188 fun w0 M Q hM hE hQ hR=>?_;dsimp only[cd188,qm,ql,qf,qi,qb,qc,qp,qN,qT,qt]at hQ |-
    (have hX:=zA @hp3 (zA @hb (zA @hbd (zA @hsn @hn2)));(repeat' first|refine zaa [0,1,2,3,4,5,6,7,8,15,16,22,26,28,41,53,59,79,91,97,105,106] fun K hK=>?_|(refine hK.go ?_;clear hK K)|with_reducible exact wT|refine wA ?_|(refine wB (fun h=>?_) (fun h=>?_)<;>first|exact wN h|subst (h:(_:Bool)=_)|skip)|(refine wQ ?_;clear hQ hR hE hM)|refine wC d1 ?_|fail);all_goals clear hX)
    all_goals first|(exfalso;contradiction)|rfl|(simp[*];done)
   ·rw[if_neg hp3]
    have e3:decide (l.phase=3)=false:=decide_eq_false hp3
    refine PC.fn hH cd188 fun w0 M Q hM hE hQ hR=>?_;dsimp only[cd188,qm,ql,qf,qi,qb,qc,qp,qN,qT,qt]at hQ |-
    (have hX:=zA @e1 (zA @e2 (zA @e3 (zA @e4 (zA @hb (zA @hbd @hsn)))));(repeat' first|refine zaa [0,1,2,3,4,5,6,7,8,15,16,22,26,28,41,53,59,79,91,97,105,106] fun K hK=>?_|(refine hK.go ?_;clear hK K)|with_reducible exact wT|refine wA ?_|(refine wB (fun h=>?_) (fun h=>?_)<;>first|exact wN h|subst (h:(_:Bool)=_)|skip)|(refine wQ ?_;clear hQ hR hE hM)|fail);all_goals clear hX)
    all_goals first|(exfalso;contradiction)|rfl|(simp[*];done)
end Go.Lev
namespace Go.Eng
section
variable {P:Program} {inv:Nat->Option Nat} {w0:World} {M:Nat->Prop} {n N:Nat} {φ φ0:AF} {σ σ0:AS}
theorem zph {x:ACode} {Q:Exit->AF->AS->Prop} (l:Nat) (hf:ziW (.seq (.label l) x) l=some (.seq .skip x)) (I:Nat->AF->AS->Prop) (m0:Nat) (h0:I m0 φ0 σ0) (h1:zhf φ0 φ) (h2:zfA σ0 σ)
  (pass:∀ m φ σ,I m φ σ->AWp P inv w0 M N n x (zg8 l (fun φ' σ'=>∃ m' φ2 σ2,m'<m/\I m' φ2 σ2/\zhf φ2 φ'/\zfA σ2 σ') Q) φ σ):AWp P inv w0 M N n (.scope (.seq (.label l) x)) Q φ σ:=by
 refine AWp.scope l hf I ?_ fun m φ σ h=>AWp.seq fun K hK=>AWp.skip (hK _ _ (pass m φ σ h))
 refine AWp.sub (AWp.seq fun K hK=>AWp.label (hK _ _ (AWp.mono ?_ (pass m0 φ0 σ0 h0)))) h1 h2
 intro e φ' σ' q
 cases e with
 |goto l'=>obtain ⟨rfl,m',φ2,σ2,_,q1,q2,q3⟩:=q;exact ⟨rfl,m',φ2,σ2,q1,q2,q3⟩
 |normal=>exact q
 |exit id=>exact q
 |ret=>exact q
 |panic ch=>exact q
 |outgrown=>exact q
end
end Go.Eng
namespace Go.Lev
open Go.Eng
set_option maxRecDepth 10000
set_option maxHeartbeats 4000000
variable {P:Program} {inv:Nat->Option Nat} {w0:World} {M:Nat->Prop}
def zet (r:Rte) (l:Lock):Nat:=if l.phase=1\/l.phase=4 then r.path.length+3 else if l.phase=2 then 2+((r.path.length:Int)-1-l.gone).toNat else if l.phase=3 then 1 else 0
theorem zhn {r:Rte} {is:Int->Int} {l:Lock} (h:zax l r=true) (h0:0<r.path.length) (ht:1<=r.timer):zax (zcm r is l) r=true/\(zcm r is l≠l->zet r (zcm r is l)<zet r l):=by
 unfold zcm
 by_cases h1:l.phase=1\/l.phase=4
 ·rw[if_pos h1]
  split
  ·refine ⟨by simp[zax];omega,fun _=>?_⟩
   unfold zet
   rw[if_neg (by simp),if_pos rfl,if_pos h1]
   simp;omega
  ·exact ⟨h,fun e=>absurd rfl e⟩
 ·rw[if_neg h1]
  by_cases h2:l.phase=2
  ·rw[if_pos h2]
   simp only[zax,h2]at h
   simp at h
   split
   ·rename_i h3
    refine ⟨by simp[zax,h2];omega,fun _=>?_⟩
    unfold zet
    rw[if_neg h1,if_pos h2,if_neg h1,if_pos h2]
    dsimp only
    omega
   ·split
    ·refine ⟨by simp[zax];omega,fun _=>?_⟩
     unfold zet
     rw[if_neg (by simp),if_neg (by simp),if_pos rfl,if_neg h1,if_pos h2]
     omega
    ·split
     ·refine ⟨by simp[zax],fun _=>?_⟩
      unfold zet
      rw[if_neg (by simp),if_neg (by simp),if_neg (by simp),if_neg h1,if_pos h2]
      omega
     ·exact ⟨by simp[zax,h2];omega,fun e=>absurd rfl e⟩
  ·rw[if_neg h2]
   by_cases h3:l.phase=3
   ·rw[if_pos h3]
    split
    ·refine ⟨by simp[zax],fun _=>?_⟩
     unfold zet
     rw[if_neg (by simp),if_neg (by simp),if_neg (by simp),if_neg h1,if_neg h2,if_pos h3]
     omega
    ·exact ⟨h,fun e=>absurd rfl e⟩
   ·rw[if_neg h3]
    exact ⟨h,fun e=>absurd rfl e⟩
def zc2 (r:Rte) (is:Int->Int):Nat->Lock->Lock
 |0,l=>l
 |m+1,l=>if zcm r is l=l then l else zc2 r is m (zcm r is l)
def zdX (r:Rte) (is:Int->Int) (l:Lock):Lock:=zc2 r is (zet r l) l
theorem zgP {r:Rte} {is:Int->Int} (h0:0<r.path.length) (ht:1<=r.timer):∀ (m:Nat) (l:Lock),zax l r=true->zet r l<=m->zc2 r is m l=zc2 r is (zet r l) l:=by
 intro m
 induction m using Nat.strongRecOn with
 |ind m ih =>
  intro l hl hm
  obtain ⟨k1,k2⟩:=zhn (is:=is) hl h0 ht
  cases m with
  |zero=>rw[show zet r l=0 by omega]
  |succ m =>
   cases hr:zet r l with
   |zero =>
    have:zcm r is l=l:=Classical.byContradiction fun e=>by have:=k2 e;omega
    rw[zc2,zc2,if_pos this]
   |succ q =>
    rw[zc2,zc2]
    split
    ·rfl
    ·rename_i e
     have:=k2 e
     rw[ih m (by omega) _ k1 (by omega),ih q (by omega) _ k1 (by omega)]
theorem zk5 {r:Rte} {is:Int->Int} {l:Lock} (hl:zax l r=true) (h0:0<r.path.length) (ht:1<=r.timer):zdX r is (zcm r is l)=zdX r is l:=by
 obtain ⟨k1,k2⟩:=zhn (is:=is) hl h0 ht
 by_cases e:zcm r is l=l
 ·rw[e]
 ·have:=k2 e
  unfold zdX
  cases hr:zet r l with
  |zero=>omega
  |succ q=>rw[zc2,if_neg e,zgP h0 ht q _ k1 (by omega)]
theorem zmo {r:Rte} {is:Int->Int} {l:Lock} (e:zcm r is l=l):zdX r is l=l:=by
 unfold zdX
 cases zet r l with
 |zero=>rfl
 |succ q=>rw[zc2,if_pos e]
def zj1 (p:Pln) (s:State) (i:Nat) (l:Lock):Lock:=zdX (nth p.routes i) (zcF s) l
def zdl (p:Pln) (s:State):State:=⟨s.tracks,s.switches,s.locks.mapIdx (zj1 p s)⟩
theorem isOf_at2 {p:Pln} {s:State} (ho:OkP p) (h:zaj p s=true) {k:Nat} (hk:k<s.tracks.length):zcF s (nth s.tracks k).id=(nth s.tracks k).is:=by
 unfold zcF
 rw[zeW Track.id (by rw[zff h];exact zer ho) hk rfl]
theorem zln {l:Lock} {r:Rte} (h0:0<r.path.length) (h:zax l r=true):0<=l.gone/\l.gone<=(r.path.length:Int)-1:=by
 unfold zax at h
 repeat' split at h
 all_goals (simp at h;try omega)
theorem zk4 (hH:HasAll P inv) (hI:HasIds P inv) (p:Pln) (hp:Sm p) (s:State) (hs:SmS s) (he:zad p s=0):PO P inv 179 [.agg p.c,.agg s.c] (.tup [zdD 5 (zdl p s),.n 0]) (zdE 5 (zdl p s)):=by
 have c0:=zbP hH hI p hp s hs
 rw[he]at c0
 have c1:=zb6 hH s hs
 have hok:=zai he
 have hpa:=(zac he).2.1
 have hpl:=zak hpa
 have hph:∀ k,k<s.locks.length->zax (nth s.locks k) (nth p.routes k)=true:=fun k hk=>by
  have:=zcV hpa hk
  simp only[zbR,Bool.and_eq_true]at this
  exact this.2
 have hrt:∀ k,k<p.routes.length->0<(nth p.routes k).path.length/\(nth p.routes k).path.length<=1000/\1<=(nth p.routes k).timer:=fun k hk=>by
  have hr:=zab hk
  have h1:=zc3 hok hr
  have h2:=zfy hok hr
  exact ⟨by omega,by omega,h2.1⟩
 have hcl:∀ (L:List Lock) (k:Nat),k<p.routes.length->∀ n∈(nth p.routes k).path,PC P inv 186 ([.n n]++[.ip 3 [State.c ⟨s.tracks,s.switches,L⟩] 0 0]) (·=.i .u8 (zcF s n)):=fun L k hk n hn=>by
  obtain ⟨q,hq,e⟩:=(zb8 hok (zab hk)).1 n (List.mem_append_left _ hn)
  obtain ⟨t,ht,et⟩:=trk_of hpa ⟨q,hq,e⟩
  rcases zat Track.id n s.tracks with ⟨_,q1⟩|⟨m,hm,q1,q2⟩
  ·exact absurd et (q1 t ht)
  ·have:=is_pc hH ⟨s.tracks,s.switches,L⟩ (by have:=hs.1;dsimp only;omega) (m:=m) hm q1
   dsimp only at this
   rw[<-isOf_at2 hok hpa hm,q2]at this
   exact this
 obtain ⟨h1,h2,h3⟩:=hs
 have hrl:=hp.rte
 unfold stV stR at c1
 refine PO.fn hH cd179 fun w0 M Q hM hE hQ hR=>?_;dsimp only[cd179,qm,ql,qf,qi,qb,qc,qN,qt]at hQ |-
 (repeat' first|refine zaa [0,1,2,3,4,5,6,7,8,9,10,15,22,23,24,25,43] fun K hK=>?_|(refine hK.go ?_;clear hK K)|with_reducible exact wT|refine wA ?_|(refine wB (fun h=>?_) (fun h=>?_)<;>first|exact wN h|subst (h:(_:Bool)=_)|skip)|(refine wR ?_;clear hQ hR hE hM)|refine wC c0 ?_|refine wO c1 ?_|fail)
 all_goals first|(exfalso;contradiction)|skip
 refine zam (ι:=Nat) [3,4,5,7,22,23,24] (fun z=>[(24,.n z)]) (fun z=>[(7,.cells ((zdT (zj1 p s) z s.locks).map Lock.c).flatten (decide (0<s.locks.length)))]) (fun z=>z) (p.routes.length) (fun _=>True) (0) ?_;rintro k ⟨hk,-⟩;(try dsimp only at hk |-);rcases Nat.lt_or_ge k p.routes.length with hlt|hge
 ·have hk2:k<s.locks.length:=by omega
  have e1:=zeC (zj1 p s) hk2
  have en:=zdm (zj1 p s) hk2
  have hlen:(zdT (zj1 p s) k s.locks).length=s.locks.length:=zbX _ _ _
  generalize hU:zdT (zj1 p s) k s.locks=U at *
  have hkU:k<U.length:=by omega
  have hid:U.set k (nth s.locks k)=U:=by rw[<-en,zaK hkU,List.set_getElem_self]
  obtain ⟨hr0,hr1,hrt1⟩:=hrt k hlt
  have hcl2:=fun L=>hcl L k hlt
  have hdec:decide (0<s.locks.length)=decide (0<s.locks.length):=rfl
  (repeat' first|refine zaa [0,1,2,3,4,5,6,7,8,9,10,15,22,23,24,25,43] fun K hK=>?_|(refine hK.go ?_;clear hK K)|with_reducible exact wT|refine wA ?_|(refine wB (fun h=>?_) (fun h=>?_)<;>first|exact wN h|subst (h:(_:Bool)=_)|skip)|(refine wR ?_;clear hQ hR hE hM)|fail)
  refine zph 0 rfl (fun m φ σ=>∃ l':Lock,(zet (nth p.routes k) l'=m/\zax l' (nth p.routes k)=true/\zdX (nth p.routes k) (zcF s) l'=zj1 p s k (nth s.locks k)) /\
    φ=[(3,.ptr 1 3 0),(4,.ptr 2 3 0),(5,.n 0),(7,.fn 186 [.ptr 1 3 0]),(8,.n k),(9,.ptr 8 7 0),(22,.sl 7 (p.routes.map Rte.c)),(23,.n p.routes.length),(24,.n k)] /\
    σ=[(0,.cells p.c true),(1,.cells [.sm 5 (s.tracks.length*2) 0 s.tracks.length 2,.sm 6 (s.switches.length*3) 0 s.switches.length 3,.sm 7 (s.locks.length*4) 0 s.locks.length 4] true),(2,.cells [.s0 2,.s0 3,.s0 4] true),
     (5,.cells (s.tracks.map Track.c).flatten (decide (0<s.tracks.length))),(6,.cells (s.switches.map Switch.c).flatten (decide (0<s.switches.length))),(7,.cells ((U.set k l').map Lock.c).flatten (decide (0<s.locks.length))),(8,.cells (nth p.routes k).c true)])
   (zet (nth p.routes k) (nth s.locks k)) ⟨nth s.locks k,⟨rfl,hph k hk2,rfl⟩,rfl,rfl⟩ (by (refine wD ?_;try with_reducible exact wT)) (by rw[hid];(refine wD ?_;try with_reducible exact wT)) ?_
  rintro m φ σ ⟨l',⟨hm,hl',hset⟩,rfl,rfl⟩
  have cs:=step_pc hH (nth p.routes k) l' (zcF s) (jc:=186) (caps:=[.ip 3 [State.c ⟨s.tracks,s.switches,U.set k l'⟩] 0 0]) rfl (hcl2 _) hr0 hr1 (zln hr0 hl')
  have fa:zcx ((U.set k l').map Lock.c).flatten (k*4) (some 4)=some (.agg l'.c):=by
   rw[zeV (c:=Lock.c) (l:=U.set k l') (k:=k) (by simpa using hkU) (by omega),zev hkU]
  have fc:zb2 4 s.locks.length ((U.set k l').map Lock.c).flatten=(U.set k l').map Lock.c:=by
   have:=zcI (c:=Lock.c) (U.set k l')
   rw[List.length_set,hlen]at this
   exact this
  obtain ⟨k1,k2⟩:=zhn (is:=zcF s) hl' hr0 hrt1
  have k3:=zk5 (is:=zcF s) hl' hr0 hrt1
  by_cases hx:zcm (nth p.routes k) (zcF s) l'=l'
  ·rw[hx]at cs
   have hfin:U.set k l'=zdT (zj1 p s) (k+1) s.locks:=by rw[<-e1,<-hset,zmo hx]
   (have hX:=zA @fa (zA @fc @hlen);(repeat' first|refine zaa [0,1,2,3,4,5,6,7,8,9,10,15,22,23,24,25,43] fun K hK=>?_|(refine hK.go ?_;clear hK K)|with_reducible exact wT|refine wA ?_|(refine wB (fun h=>?_) (fun h=>?_)<;>first|exact wN h|subst (h:(_:Bool)=_)|skip)|(refine wR ?_;clear hQ hR hE hM)|refine wP cs ?_|fail);all_goals clear hX)
   all_goals first|(exfalso;contradiction)|exact ⟨k+1,by omega,by omega,by omega,by rw[hfin]⟩
  ·have k2:=k2 hx
   rw[hset]at k3
   generalize zcm (nth p.routes k) (zcF s) l'=nx at *
   have hne:(decide (nx.id=l'.id)&&(decide (nx.phase=l'.phase)&&(decide (nx.gone=l'.gone)&&decide (nx.left=l'.left))))=false:=by
    rw[Bool.eq_false_iff]
    intro h
    simp only[Bool.and_eq_true,decide_eq_true_eq]at h
    exact hx ((zfs _ _).2 h)
   (have hX:=zA @fa (zA @fc (zA @hlen (zA @hne (zA (zhr hkU) (zA (zbA hkU) (zA (zbz hkU) (zby hkU)))))));(repeat' first|refine zaa [0,1,2,3,4,5,6,7,8,9,10,15,22,23,24,25,43] fun K hK=>?_|(refine hK.go ?_;clear hK K)|with_reducible exact wT|refine wA ?_|(refine wB (fun h=>?_) (fun h=>?_)<;>first|exact wN h|subst (h:(_:Bool)=_)|skip)|(refine wR ?_;clear hQ hR hE hM)|refine wP cs ?_|fail);all_goals clear hX)
   all_goals first|(exfalso;contradiction)|skip
   refine ⟨_,_,_, ?_,⟨nx,⟨rfl,k1,k3⟩,rfl,rfl⟩, ?_, ?_⟩
   ·rw[<-hm];exact k2
   ·(refine wD ?_;try with_reducible exact wT)
   ·(refine wD ?_;try with_reducible exact wT)
 ·rw[zfx _ (by omega)]
  (repeat' first|refine zaa [0,1,2,3,4,5,6,7,8,9,10,15,22,23,24,25,43] fun K hK=>?_|(refine hK.go ?_;clear hK K)|with_reducible exact wT|refine wA ?_|(refine wB (fun h=>?_) (fun h=>?_)<;>first|exact wN h|subst (h:(_:Bool)=_)|skip)|(refine wR ?_;clear hQ hR hE hM)|fail)
  all_goals (left;unfold zdD zdE zdl;dsimp only;rw[List.length_mapIdx];constructor)
  all_goals (refine wD ?_;try with_reducible exact wT)
def zha (p:Pln) (s:State):State:=if zad p s=0 then zdl p s else State.z
theorem zpL (hH:HasAll P inv) (hI:HasIds P inv) (p:Pln) (hp:Sm p) (s:State) (hs:SmS s):PC P inv 179 [.agg p.c,.agg s.c] (·=.tup [.agg (zha p s).c,.n (zad p s)]):=by
 unfold zha
 by_cases he:zad p s=0
 ·have:=(zk4 hH hI p hp s hs he).pc
  rw[zbi]at this
  rw[if_pos he,he]
  exact this
 ·have c0:=zbP hH hI p hp s hs
  rw[if_neg he]
  generalize zad p s=e at c0 he |-
  refine PC.fn hH cd179 fun w0 M Q hM hE hQ hR=>?_;dsimp only[cd179,qm,ql,qf,qi,qb,qc,qN,qt]at hQ |-
  (repeat' first|refine zaa [0,1,2,3,4,5,6,7,8,9,10,15,22,23,24,25,43] fun K hK=>?_|(refine hK.go ?_;clear hK K)|with_reducible exact wT|refine wA ?_|(refine wB (fun h=>?_) (fun h=>?_)<;>first|exact wN h|subst (h:(_:Bool)=_)|skip)|(refine wQ ?_;clear hQ hR hE hM)|refine wC c0 ?_|fail)
  all_goals first|rfl|(exfalso;contradiction)|skip
def lkS (p:Pln) (s:State) (n:Int):State:=if lkC p s n=0 then zft s n (lkW p s n).asks else State.z
theorem zoU (hH:HasAll P inv) (hI:HasIds P inv) (p:Pln) (hp:Sm p) (s:State) (hs:SmS s) (n:Int):PC P inv 156 [.agg p.c,.agg s.c,.n n] (·=.tup [.agg (lkS p s n).c,.n (lkC p s n)]):=by
 unfold lkS
 by_cases he:lkC p s n=0
 ·have:=(zoT hH hI p hp s hs n he).pc
  rw[zbi]at this
  rw[if_pos he,he]
  exact this
 ·have c0:=zjp hH hI p hp s hs n
  rw[if_neg he]
  generalize lkC p s n=e at c0 he |-
  generalize lkW p s n=w at c0
  refine PC.fn hH cd156 fun w0 M Q hM hE hQ hR=>?_;dsimp only[cd156,qm,ql,qf,qi,qb,qc,qN,qt]at hQ |-
  (repeat' first|refine zaa [0,1,2,3,4,6,7,8,9,11,12,21,27,28,29,30,43,44,45,54] fun K hK=>?_|(refine hK.go ?_;clear hK K)|with_reducible exact wT|refine wA ?_|(refine wB (fun h=>?_) (fun h=>?_)<;>first|exact wN h|subst (h:(_:Bool)=_)|skip)|(refine wQ ?_;clear hQ hR hE hM)|refine wC c0 ?_|fail)
  all_goals first|rfl|(exfalso;contradiction)|skip
theorem zrw (hH:HasAll P inv) (hI:HasIds P inv) (p:Pln) (hp:Sm p) (s:State) (hs:SmS s) (n:Int):PC P inv 162 [.agg p.c,.agg s.c,.n n] (·=.tup [.agg (cnR p s n).c,.n (cnC p s n)]):=by
 unfold cnR
 by_cases he:cnC p s n=0
 ·have:=(zrv hH hI p hp s hs n he).pc
  rw[zbi]at this
  rw[if_pos he,he]
  exact this
 ·rw[if_neg he]
  have c0:=zoO hH hI p hp s hs
  have hRl:=zfl p s
  have hRe:=zif p s
  have c1:=zb6 hH s hs
  have c2:=zmR hH s.locks (fun x _=>znU hH n x) (by have:=hs.2.2;omega)
  unfold stV stR at c1
  by_cases hst:zad p s=0
  ·have hok:=zai hst
   have hpa:=(zac hst).2.1
   have hpl:=zak hpa
   have hR:ofR p s=⟨(zas p s).1,(zas p s).2.1,zaP p,0⟩:=by unfold ofR;rw[if_pos hst]
   rw[hR]at c0 hRl
   dsimp only at c0 hRl
   unfold cnC at he |-
   rw[if_pos hst]at he |-
   have h3:=hs.2.2
   rcases zat Lock.id n s.locks with ⟨h4,_⟩|⟨i,hi,h4,h5⟩
   ·rw[show zeR s n=-1 from h4,if_pos (by decide)]
    rw[h4]at c2
    generalize zaP p=ws at *
    generalize zas p s=GR at *
    obtain ⟨H,A,B⟩:=GR
    dsimp only at *
    obtain ⟨G,Z,hg⟩:=GC.ex
    rw[<-hg.eq]at c0
    have hfold:=hg.fold
    have hlen0:=hg.len (.s0 4) hg.zl hg.zl
    have hlen:=hg.len (.sl 4 (ws.map Way.c)) hRl.1 hRl.2
    have hov:=hg.ov (.s0 4) (.sl 4 (ws.map Way.c)) hg.zl hg.zl hRl.1 hRl.2
    have hbd0:=hg.bd0 Z Z
    have hbd:=hg.bd H A (ws.map Way.c)
    have hba:=hg.ba H A (ws.map Way.c)
    clear hg hR
    refine PC.fn hH cd162 fun w0 M Q hM hE hQ hR=>?_;dsimp only[cd162,qm,ql,qf,qi,qc,qp,qv,qN,qT,qF,qt]at hQ |-
    (have hX:=zA @hfold (zA @hlen0 (zA @hlen (zA @hov (zA @hbd0 (zA @hbd @hba)))));(repeat' first|refine zaa [0,1,2,3,4,5,6,7,8,9,10,11,12,13,14,15,23,33,54,71,80,84,86,88,97] fun K hK=>?_|(refine hK.go ?_;clear hK K)|with_reducible exact wT|refine wA ?_|(refine wB (fun h=>?_) (fun h=>?_)<;>first|exact wN h|subst (h:(_:Bool)=_)|skip)|(refine wQ ?_;clear hQ hR hE hM)|refine wC c0 ?_|refine wO c1 ?_|refine wS c2 ?_|fail);all_goals clear hX)
    all_goals first|rfl|(exfalso;contradiction)|skip
   ·rw[show zeR s n=(i:Int) from h4,if_neg (show ¬((i:Nat):Int)<0 by omega),Int.toNat_natCast]at he |-
    rw[h4]at c2
    have hri:i<p.routes.length:=by omega
    have hwat:nth (zaP p) i=(zah p (nth p.routes i)).1:=znK _ hri
    have hwlen:(zaP p).length=p.routes.length:=by simp[zaP]
    have hwl:=zbf hok (zab hri)
    have hwp:=zbv ((zaH (zac hst).1).2.1 _ (zab hri))
    have hgn:=zeS hok (zab hri) (zcV hpa hi)
    rw[<-hwp.1]at hgn
    have c5:=zq2 hH ((zah p (nth p.routes i)).1.path.drop (nth s.locks i).gone.toNat) (fun x _=>cn178 hH s (by have:=hs.1;omega) x) (by simp;omega)
    rw[show (((zah p (nth p.routes i)).1.path.drop (nth s.locks i).gone.toNat).any fun m=>!frT s m)=!zdh s (zah p (nth p.routes i)).1 (nth s.locks i) by simp[zdh]]at c5
    unfold cnC0 at he |-
    generalize (zah p (nth p.routes i)).1=w at *
    generalize zaP p=ws at *
    generalize zas p s=GR at *
    obtain ⟨H,A,B⟩:=GR
    dsimp only at *
    obtain ⟨G,Z,hg⟩:=GC.ex
    rw[<-hg.eq]at c0
    have hfold:=hg.fold
    have hlen0:=hg.len (.s0 4) hg.zl hg.zl
    have hlen:=hg.len (.sl 4 (ws.map Way.c)) hRl.1 hRl.2
    have hov:=hg.ov (.s0 4) (.sl 4 (ws.map Way.c)) hg.zl hg.zl hRl.1 hRl.2
    have hbd0:=hg.bd0 Z Z
    have hbd:=hg.bd H A (ws.map Way.c)
    have hba:=hg.ba H A (ws.map Way.c)
    have hgw:=hg.get (.sl 4 (ws.map Way.c)) hRl.1 hRl.2
    clear hg hR hwp hRe
    by_cases hp0:(nth s.locks i).phase=0
    ·rw[if_pos hp0]
     refine PC.fn hH cd162 fun w0 M Q hM hE hQ hR=>?_;dsimp only[cd162,qm,ql,qf,qi,qc,qp,qv,qN,qT,qF,qt]at hQ |-
     (have hX:=zA @hfold (zA @hlen0 (zA @hlen (zA @hov (zA @hbd0 (zA @hbd (zA @hba (zA @hgw (zA @hwat (zA (zgB hi) (zA (zgA hi) (zA (zcq hi) (zA (zbA hi) (zA (zbz hi) (zA (zby hi) @hp0))))))))))))));(repeat' first|refine zaa [0,1,2,3,4,5,6,7,8,9,10,11,12,13,14,15,23,33,54,71,80,84,86,88,97] fun K hK=>?_|(refine hK.go ?_;clear hK K)|with_reducible exact wT|refine wA ?_|(refine wB (fun h=>?_) (fun h=>?_)<;>first|exact wN h|subst (h:(_:Bool)=_)|skip)|(refine wQ ?_;clear hQ hR hE hM)|refine wC c0 ?_|refine wO c1 ?_|refine wS c2 ?_|fail);all_goals clear hX)
     all_goals first|rfl|(exfalso;contradiction)|(exfalso;omega)|skip
    ·rw[if_neg hp0]at he |-
     by_cases hp1:(nth s.locks i).phase=1
     ·rw[if_pos hp1]at he;exact absurd rfl he
     ·rw[if_neg hp1]at he |-
      have e0:decide ((nth s.locks i).phase=0)=false:=decide_eq_false hp0
      have e1:decide ((nth s.locks i).phase=1)=false:=decide_eq_false hp1
      by_cases hp2:(nth s.locks i).phase=2
      ·have hem:zdh s w (nth s.locks i)=false:=by
        cases h:zdh s w (nth s.locks i) with
        |false=>rfl
        |true=>rw[if_pos ⟨hp2,h⟩]at he;exact absurd rfl he
       rw[if_neg (fun h=>by rw[hem]at h;cases h.2)]
       rw[hem,List.map_drop]at c5
       refine PC.fn hH cd162 fun w0 M Q hM hE hQ hR=>?_;dsimp only[cd162,qm,ql,qf,qi,qc,qp,qv,qN,qT,qF,qt]at hQ |-
       (have hX:=zA @hfold (zA @hlen0 (zA @hlen (zA @hov (zA @hbd0 (zA @hbd (zA @hba (zA @hgw (zA @hwat (zA (zgB hi) (zA (zgA hi) (zA (zcq hi) (zA (zbA hi) (zA (zbz hi) (zA (zby hi) @hp2))))))))))))));(repeat' first|refine zaa [0,1,2,3,4,5,6,7,8,9,10,11,12,13,14,15,23,33,54,71,80,84,86,88,97] fun K hK=>?_|(refine hK.go ?_;clear hK K)|with_reducible exact wT|refine wA ?_|(refine wB (fun h=>?_) (fun h=>?_)<;>first|exact wN h|subst (h:(_:Bool)=_)|skip)|(refine wQ ?_;clear hQ hR hE hM)|refine wC c0 ?_|refine wO c1 ?_|refine wS c2 ?_|refine wS c5 ?_|fail);all_goals clear hX)
       all_goals first|rfl|(exfalso;contradiction)|(exfalso;omega)|skip
      ·rw[if_neg (fun h=>hp2 h.1)]
       have e2:decide ((nth s.locks i).phase=2)=false:=decide_eq_false hp2
       refine PC.fn hH cd162 fun w0 M Q hM hE hQ hR=>?_;dsimp only[cd162,qm,ql,qf,qi,qc,qp,qv,qN,qT,qF,qt]at hQ |-
       (have hX:=zA @hfold (zA @hlen0 (zA @hlen (zA @hov (zA @hbd0 (zA @hbd (zA @hba (zA @hgw (zA @hwat (zA (zgB hi) (zA (zgA hi) (zA (zcq hi) (zA (zbA hi) (zA (zbz hi) (zA (zby hi) (zA @e0 (zA @e1 @e2))))))))))))))));(repeat' first|refine zaa [0,1,2,3,4,5,6,7,8,9,10,11,12,13,14,15,23,33,54,71,80,84,86,88,97] fun K hK=>?_|(refine hK.go ?_;clear hK K)|with_reducible exact wT|refine wA ?_|(refine wB (fun h=>?_) (fun h=>?_)<;>first|exact wN h|subst (h:(_:Bool)=_)|skip)|(refine wQ ?_;clear hQ hR hE hM)|refine wC c0 ?_|refine wO c1 ?_|refine wS c2 ?_|fail);all_goals clear hX)
       all_goals first|rfl|(exfalso;contradiction)|(exfalso;omega)|skip
  ·rw[show cnC p s n=zad p s by unfold cnC;rw[if_neg hst]]
   rw[<-hRe]at hst |-
   revert c0 hRl hst
   generalize ofR p s=R
   obtain ⟨G,Z,hg⟩:=GC.ex
   rw[<-hg.eq]
   intro c0 hRl hst
   have hfold:=hg.fold
   have hlen0:=hg.len (.s0 4) hg.zl hg.zl
   have hlen:=hg.len (.sl 4 (R.ways.map Way.c)) hRl.1 hRl.2
   have hov:=hg.ov (.s0 4) (.sl 4 (R.ways.map Way.c)) hg.zl hg.zl hRl.1 hRl.2
   have hbd0:=hg.bd0 Z Z
   have hbd:=hg.bd R.hold R.ask (R.ways.map Way.c)
   have hba:=hg.ba R.hold R.ask (R.ways.map Way.c)
   refine PC.fn hH cd162 fun w0 M Q hM hE hQ hR=>?_;dsimp only[cd162,qm,ql,qf,qi,qc,qp,qv,qN,qT,qF,qt]at hQ |-
   (have hX:=zA @hfold (zA @hlen0 (zA @hlen (zA @hov (zA @hbd0 (zA @hbd @hba)))));(repeat' first|refine zaa [0,1,2,3,4,5,6,7,8,9,10,11,12,13,14,15,23,33,54,71,80,84,86,88,97] fun K hK=>?_|(refine hK.go ?_;clear hK K)|with_reducible exact wT|refine wA ?_|(refine wB (fun h=>?_) (fun h=>?_)<;>first|exact wN h|subst (h:(_:Bool)=_)|skip)|(refine wQ ?_;clear hQ hR hE hM)|refine wC c0 ?_|fail);all_goals clear hX)
   all_goals first|rfl|(exfalso;contradiction)|skip
theorem zkr {H:List Int} {fr:Int->Bool}:∀ {l:List Int},zcU H fr l=0↔∀ x∈l,nth H x.toNat=0/\fr x=true
 |[]=>by simp[zcU]
 |x::r=>by
  rw[zcU]
  constructor
  ·intro h
   split at h
   ·rename_i h1
    split at h
    ·rename_i h2
     intro y hy
     rcases List.mem_cons.1 hy with rfl|hy
     ·exact ⟨h1,h2⟩
     ·exact zkr.1 h y hy
    ·cases h
   ·cases h
  ·intro h
   obtain ⟨h1,h2⟩:=h x (by simp)
   rw[if_pos h1,if_pos h2]
   exact zkr.2 fun y hy=>h y (by simp[hy])
def zbO (p:Pln) (i:Nat):List Int:=(zah p (nth p.routes i)).1.path++(zah p (nth p.routes i)).1.over
def zaU (p:Pln) (i:Nat):List AskR:=(zah p (nth p.routes i)).1.asks
structure MaySet (p:Pln) (s:State) (n:Int) (i:Nat):Prop where
 st:zad p s=0
 lt:i<s.locks.length
 id:(nth s.locks i).id=n
 ph:(nth s.locks i).phase=0
 sec:∀ x∈zbO p i,nth (zas p s).1 x.toNat=0/\zcF s x=0
 ask:∀ a∈zaU p i,za9 s a.pnt=a.lie\/(nth (zas p s).2.1 a.pnt.toNat=0/\zcF s (zcw p a.pnt)=0)
theorem ziN {p:Pln} {s:State} (ho:OkP p) (h:zaj p s=true) {A:List Int} {a:AskR}:ziO p s A a=true↔za9 s a.pnt=a.lie\/(nth A a.pnt.toNat=0/\zcF s (zcw p a.pnt)=0):=by
 unfold ziO
 rw[zjx ho h]
 simp
theorem zij {p:Pln} {s:State} {n:Int}:lkC p s n=0↔∃ i,MaySet p s n i:=by
 constructor
 ·intro h
  have hst:zad p s=0:=by
   unfold lkC at h
   split at h
   ·assumption
   ·exact h
  rcases zat Lock.id n s.locks with ⟨_,hno⟩|⟨i,hi,_,hid⟩
  ·rw[lkC_no hst hno]at h;cases h
  ·rw[znQ hst hi hid]at h
   split at h
   ·rename_i hph
    unfold setE at h
    have ho:=zai hst
    have hpa:=(zac hst).2.1
    split at h
    ·rename_i h1
     split at h
     ·rename_i h2
      refine ⟨i,hst,hi,hid,hph,fun x hx=>?_,fun a ha=>(ziN ho hpa).1 (List.all_eq_true.1 h2 a ha)⟩
      have:=zkr.1 h1 x hx
      rw[zjx ho hpa,decide_eq_true_eq]at this
      exact this
     ·cases h
    ·rename_i h1;exact absurd h h1
   ·cases h
 ·rintro ⟨i,hst,hi,hid,hph,h1,h2⟩
  have ho:=zai hst
  have hpa:=(zac hst).2.1
  rw[znQ hst hi hid,if_pos hph]
  unfold setE
  have h3:zcU (zas p s).1 (frT s) ((zah p (nth p.routes i)).1.path++(zah p (nth p.routes i)).1.over)=0:=zkr.2 fun x hx=>by
   rw[zjx ho hpa,decide_eq_true_eq];exact h1 x hx
  have h4:(zah p (nth p.routes i)).1.asks.all (ziO p s (zas p s).2.1)=true:=List.all_eq_true.2 fun a ha=>(ziN ho hpa).2 (h2 a ha)
  rw[if_pos h3,if_pos h4]
theorem zqM {p:Pln} {n:Int} (h:∃ x∈p.points,x.id=n):zc7 p n=true:=by
 obtain ⟨x,hx,e⟩:=h
 exact List.any_eq_true.2 ⟨x,hx,by simpa using e⟩
theorem zqN {p:Pln} (h:OkP p) {r:Rte} (hr:r∈p.routes) {a:AskR} (ha:a∈(zah p r).1.asks):zc7 p a.pnt=true:=zqM (zbC h hr ha).1
section
variable {p:Pln} {s:State} {n:Int} {i:Nat} (h:MaySet p s n i)
include h
theorem MaySet.lkW:lkW p s n=(zah p (nth p.routes i)).1:=by
 unfold Go.Lev.lkW
 rw[if_pos h.st,zmH h.st h.lt h.id,if_neg (by omega),Int.toNat_natCast,if_pos h.ph]
theorem MaySet.lkS:lkS p s n=zft s n (zaU p i):=by
 unfold Go.Lev.lkS
 rw[if_pos (zij.2 ⟨i,h⟩),h.lkW]
 rfl
theorem MaySet.code:zad p (zft s n (zaU p i))=0:=zpR h.st h.lt h.ph h.id (fun m hm=>(h.sec m hm).1) fun a ha=>by
 rcases h.ask a ha with h1|h1
 ·exact .inl h1
 ·exact .inr h1.1
theorem MaySet.lock {j:Nat} (hj:j<s.locks.length):nth (zft s n (zaU p i)).locks j=if j=i then ⟨n,1,0,0⟩ else nth s.locks j:=by
 rw[zfL h.st h.lt h.id _ hj,(zfN h.st h.lt h.ph).1,(zfN h.st h.lt h.ph).2]
theorem zj3 (q:List AskR):(zft s n q).locks.length=s.locks.length:=za1 _ _ _ _
theorem MaySet.hd {j:Nat} (hj:j<s.locks.length):zc4 p (zft s n (zaU p i)) j=if j=i then zbO p i else zc4 p s j:=by
 unfold zc4
 rw[h.lock hj]
 by_cases e:j=i
 ·subst e
  rw[if_pos rfl,if_pos rfl]
  unfold zbq
  rw[if_neg (by dsimp only;omega)]
  rfl
 ·rw[if_neg e,if_neg e]
theorem MaySet.as {j:Nat} (hj:j<s.locks.length):zdj p (zft s n (zaU p i)) j=if j=i then zaU p i else zdj p s j:=by
 unfold zdj
 rw[h.lock hj]
 by_cases e:j=i
 ·subst e
  rw[if_pos rfl,if_pos rfl]
  unfold zbJ
  rw[if_neg (by dsimp only;omega)]
  refine List.filter_eq_self.2 fun a _=>?_
  simp only[zb4,Bool.or_eq_true,decide_eq_true_eq]
  omega
 ·rw[if_neg e,if_neg e]
theorem MaySet.rt:nth p.routes i∈p.routes:=by
 have:=zak (zac h.st).2.1
 have:=h.lt
 exact zab (by omega)
theorem MaySet.secR {x:Int} (hx:x∈zbO p i):zkw p x=true/\0<=x:=by
 have ho:=zai h.st
 have hwp:=zbv ((zaH (zac h.st).1).2.1 _ h.rt)
 unfold zbO at hx
 rw[hwp.1,hwp.2.1]at hx
 obtain ⟨q,hq,e⟩:=(zb8 ho h.rt).1 x hx
 have:=zcQ ho hq
 exact ⟨List.any_eq_true.2 ⟨q,hq,by simpa using e⟩,by omega⟩
theorem MaySet.holds {x:Int} (hx:x∈zbO p i):nth (zas p (zft s n (zaU p i))).1 x.toNat=n:=by
 have hi':i<(zft s n (zaU p i)).locks.length:=by rw[zj3 h];exact h.lt
 have:=(znX h.code hi' (h.secR hx).2).2 (by rw[h.hd h.lt,if_pos rfl];exact hx)
 rw[this,h.lock h.lt,if_pos rfl]
theorem MaySet.asks {a:AskR} (ha:a∈zaU p i):nth (zas p (zft s n (zaU p i))).2.1 a.pnt.toNat=a.lie:=by
 have hi':i<(zft s n (zaU p i)).locks.length:=by rw[zj3 h];exact h.lt
 exact zrI h.code hi' (by rw[h.as h.lt,if_pos rfl];exact ha)
theorem MaySet.callsIn {a:AskR} (ha:a∈zaU p i):za9 (zft s n (zaU p i)) a.pnt=a.lie:=by
 have ho:=zai h.st
 have hpa:=(zac h.st).2.1
 rw[zge]
 refine zgd _ _ (by rw[zcl hpa];exact zbI ho) (zgN (zac h.st).1 h.rt) a ha ?_
 obtain ⟨x,hx,ex⟩:=(zbC ho h.rt ha).1
 rw[zcl hpa,<-ex]
 exact List.mem_map_of_mem hx
end
def On (l l':Lock):Prop:=l'=l\/(l'.id=l.id/\(l'.phase=0\/(¬l.phase=0/\¬l'.phase=0/\l.gone<=l'.gone)))
theorem On.held {l l':Lock} (h:On l l') (w:WayR):∀ m∈zbq w l',m∈zbq w l:=by
 intro m hm
 rcases h with rfl|⟨_,h|⟨h1,h2,h3⟩⟩
 ·exact hm
 ·unfold zbq at hm;rw[if_pos h]at hm;cases hm
 ·unfold zbq at hm |-
  rw[if_neg h2]at hm
  rw[if_neg h1]
  rcases List.mem_append.1 hm with h4|h4
  ·refine List.mem_append.2 (.inl ?_)
   obtain ⟨k,hk,e⟩:=List.mem_iff_getElem.1 h4
   rw[List.getElem_drop]at e
   rw[List.length_drop]at hk
   have:l.gone.toNat<=l'.gone.toNat:=by omega
   refine List.mem_iff_getElem.2 ⟨l'.gone.toNat-l.gone.toNat+k,by rw[List.length_drop];omega, ?_⟩
   rw[List.getElem_drop,<-e]
   congr 1
   omega
  ·exact List.mem_append.2 (.inr h4)
theorem On.asks {l l':Lock} (h:On l l') (w:WayR):∀ a∈(zbJ w l').filter (zb4 l'),a∈(zbJ w l).filter (zb4 l):=by
 intro a ha
 rcases h with rfl|⟨_,h|⟨h1,h2,h3⟩⟩
 ·exact ha
 ·unfold zbJ at ha;rw[if_pos h]at ha;cases ha
 ·unfold zbJ at ha |-
  rw[if_neg h2]at ha
  rw[if_neg h1]
  obtain ⟨h4,h5⟩:=List.mem_filter.1 ha
  refine List.mem_filter.2 ⟨h4, ?_⟩
  simp only[zb4,Bool.or_eq_true,decide_eq_true_eq]at h5 |-
  omega
theorem On.id {l l':Lock} (h:On l l'):l'.id=l.id:=by
 rcases h with rfl|h
 ·rfl
 ·exact h.1
theorem On.trans {a b c:Lock} (h:On a b) (g:On b c):On a c:=by
 rcases h with rfl|⟨h1,h2⟩
 ·exact g
 ·rcases g with rfl|⟨g1,g2⟩
  ·exact .inr ⟨h1,h2⟩
  ·refine .inr ⟨g1.trans h1, ?_⟩
   rcases g2 with g2|⟨g2,g3,g4⟩
   ·exact .inl g2
   ·rcases h2 with h2|⟨h2,h3,h4⟩
    ·exact absurd h2 g2
    ·exact .inr ⟨h2,g3,by omega⟩
structure OnS (p:Pln) (s t:State):Prop where
 trk:t.tracks=s.tracks
 swt:t.switches=s.switches
 len:t.locks.length=s.locks.length
 on:∀ i,i<s.locks.length->On (nth s.locks i) (nth t.locks i)
 ok:∀ i,i<s.locks.length->zbR (nth t.locks i) (nth p.routes i)=true
section
variable {p:Pln} {s t:State} (h:zad p s=0) (g:OnS p s t)
include h g
theorem OnS.parts:zaj p t=true:=by
 have h2:=(zac h).2.1
 have hl:=zak h2
 unfold zaj at h2 |-
 simp only[Bool.and_eq_true,zbH]at h2 |-
 rw[g.trk,g.swt,g.len]
 exact ⟨h2.1,h2.2.1,h2.2.2.1,g.ok⟩
theorem OnS.code:zad p t=0:=by
 obtain ⟨h1,_,h3,h4⟩:=zeo.1 h
 refine zeo.2 ⟨h1,g.parts h,fun i j hi hj hne m hm hm'=>?_,fun i hi a ha=>?_⟩
 ·rw[g.len]at hi hj
  exact h3 i j hi hj hne m ((g.on i hi).held _ m hm) ((g.on j hj).held _ m hm')
 ·rw[g.len]at hi
  have:za9 t a.pnt=za9 s a.pnt:=by rw[zge,zge,g.swt]
  rw[this]
  exact h4 i hi a ((g.on i hi).asks _ a ha)
theorem OnS.sm (hs:SmS s):SmS t:=⟨by rw[g.trk];exact hs.1,by rw[g.swt];exact hs.2.1,by rw[g.len];exact hs.2.2⟩
end
theorem OnS.trans {p:Pln} {a b c:State} (h:OnS p a b) (g:OnS p b c):OnS p a c :=
 ⟨g.trk.trans h.trk,g.swt.trans h.swt,g.len.trans h.len,fun i hi=>(h.on i hi).trans (g.on i (by rw[h.len];exact hi)),fun i hi=>g.ok i (by rw[h.len];exact hi)⟩
theorem znh {l:Lock} {r:Rte} (h:zbR l r=true):On l (zcb l)/\zbR (zcb l) r=true:=by
 simp only[zbR,Bool.and_eq_true,decide_eq_true_eq]at h
 unfold zcb
 by_cases h1:l.left=0
 ·rw[if_pos h1]
  exact ⟨.inl rfl,by simp only[zbR,Bool.and_eq_true,decide_eq_true_eq];exact h⟩
 ·rw[if_neg h1]
  have hph:l.phase=3\/l.phase=4:=by
   have h2:=h.2
   unfold zax at h2
   split at h2
   ·simp at h2;omega
   ·split at h2
    ·simp at h2;omega
    ·split at h2
     ·exact .inl (by assumption)
     ·split at h2
      ·exact .inr (by assumption)
      ·cases h2
  split
  ·refine ⟨.inr ⟨rfl,.inl rfl⟩, ?_⟩
   simp only[zbR,zax,Bool.and_eq_true,decide_eq_true_eq]
   exact ⟨h.1,by simp⟩
  ·refine ⟨.inr ⟨rfl,.inr ⟨by omega,by dsimp only;omega,Int.le_refl _⟩⟩, ?_⟩
   have h2:=h.2
   simp only[zbR,Bool.and_eq_true,decide_eq_true_eq]
   refine ⟨h.1, ?_⟩
   rcases hph with e|e
   ·simp only[zax,e]at h2 |-
    simp at h2 |-
    omega
   ·simp only[zax,e]at h2 |-
    simp at h2 |-
    omega
theorem zjO {p:Pln} {s:State} (h:zad p s=0):OnS p s (ze7 s):=by
 refine ⟨rfl,rfl,by show (s.locks.map zcb).length=_;simp,fun i hi=>?_,fun i hi=>?_⟩
 ·show On _ (nth (s.locks.map zcb) i)
  rw[znK zcb hi]
  exact (znh (zcV (zac h).2.1 hi)).1
 ·show zbR (nth (s.locks.map zcb) i) _=true
  rw[znK zcb hi]
  exact (znh (zcV (zac h).2.1 hi)).2
theorem stepL_on {r:Rte} {is:Int->Int} {l:Lock} (h:zax l r=true):On l (zcm r is l):=by
 unfold zcm
 by_cases h1:l.phase=1\/l.phase=4
 ·rw[if_pos h1]
  have hg:l.gone=0:=by
   rcases h1 with e|e
   ·simp only[zax,e]at h;simp at h;exact h.1
   ·simp only[zax,e]at h;simp at h;exact h.1
  split
  ·exact .inr ⟨rfl,.inr ⟨by omega,by dsimp only;omega,by dsimp only;omega⟩⟩
  ·exact .inl rfl
 ·rw[if_neg h1]
  by_cases h2:l.phase=2
  ·rw[if_pos h2]
   simp only[zax,h2]at h
   simp at h
   split
   ·exact .inr ⟨rfl,.inr ⟨by omega,by dsimp only;omega,by dsimp only;omega⟩⟩
   ·split
    ·exact .inr ⟨rfl,.inr ⟨by omega,by dsimp only;omega,by dsimp only;omega⟩⟩
    ·split
     ·exact .inr ⟨rfl,.inl rfl⟩
     ·exact .inl rfl
  ·rw[if_neg h2]
   by_cases h3:l.phase=3
   ·rw[if_pos h3]
    split
    ·exact .inr ⟨rfl,.inl rfl⟩
    ·exact .inl rfl
   ·rw[if_neg h3]
    exact .inl rfl
section
variable {p:Pln} {s:State} {n m:Int} {i j:Nat} (h:MaySet p s n i)
include h
theorem MaySet.again:lkC p (zft s n (zaU p i)) n=180:=by
 have hi':i<(zft s n (zaU p i)).locks.length:=by rw[zj3 h];exact h.lt
 have hl:=h.lock h.lt
 rw[if_pos rfl]at hl
 rw[znQ h.code hi' (by rw[hl]),hl,if_neg (show ¬(1:Int)=0 by decide)]
theorem MaySet.two (g:MaySet p (zft s n (zaU p i)) m j):(∀ x∈zbO p i,x∉zbO p j)/\∀ a∈zaU p i,∀ b∈zaU p j,a.pnt=b.pnt->a.lie=b.lie:=by
 have hn:=zmI h.st h.lt
 rw[h.id]at hn
 refine ⟨fun x hx hx2=>?_,fun a ha b hb e=>?_⟩
 ·have h1:=h.holds hx
  rw[(g.sec x hx2).1]at h1
  omega
 ·rcases g.ask b hb with h1|h1
  ·rw[<-e,h.callsIn ha]at h1
   exact h1
  ·have h2:=h.asks ha
   rw[e,h1.1]at h2
   have:=(zbC (zai h.st) h.rt ha).2.2
   omega
end
def othF (q r:List AskR):Bool :=
 zaL (fun i (t:Bool) za5=>zaL (fun k (t:Bool) next2=>next2 (t||decide ((nth q i).pnt=(nth r k).pnt)&&!decide ((nth q i).lie=(nth r k).lie))) (fun t=>za5 t) r.length 0 t) (fun t=>t) q.length 0 false
def shrs (a b:List Int):Bool:=a.any fun x=>b.any fun y=>decide (x=y)
def tickN:Nat->State->State
 |0,s=>s
 |k+1,s=>ze7 (tickN k s)
theorem cnC_at {p:Pln} {s:State} (h:zad p s=0) {i:Nat} (hi:i<s.locks.length):cnC p s (nth s.locks i).id=cnC0 s (zah p (nth p.routes i)).1 (nth s.locks i):=by
 unfold cnC
 rw[if_pos h,zmH h hi rfl,if_neg (by omega),Int.toNat_natCast]
theorem cnS_len (p:Pln) (s:State) (n:Int):(cnS p s n).locks.length=s.locks.length:=by unfold cnS;simp
theorem near_sec {p:Pln} {s:State} (h:zad p s=0) {i:Nat} (hi:i<p.routes.length):frT s (zah p (nth p.routes i)).1.near=decide (zcF s (zah p (nth p.routes i)).1.near=0):=zjx (zai h) (zac h).2.1 _
theorem zrj {p:Pln} {s:State} (h:zad p s=0) (w:WayR) (l:Lock):zdh s w l=(w.path.drop l.gone.toNat).all fun m=>decide (zcF s m=0):=by
 unfold zdh
 rw[Bool.eq_iff_iff]
 simp only[Bool.not_eq_true',List.any_eq_false,List.all_eq_true,zjx (zai h) (zac h).2.1,Bool.not_eq_true',Bool.not_eq_false,decide_eq_true_eq,decide_eq_false_iff_not]
 exact ⟨fun g x hx=>Classical.byContradiction fun e=>g x hx e,fun g x hx e=>e (g x hx)⟩
def setLk (s:State) (n:Int):Bool:=s.locks.any fun x=>decide (n=x.id)&&(decide (1=x.phase)&&(decide (0=x.gone)&&decide (0=x.left)))
def lieT (s:State) (a:AskR):Bool:=s.switches.any fun x=>decide (x.id=a.pnt)&&decide (x.lie=a.lie)
def provedS (s:State) (n:Int) (w:WayR):Bool:=setLk s n&&(!(w.path.any fun m=>!frT s m)&&(!(w.over.any fun m=>!frT s m)&&!(w.asks.any fun a=>!lieT s a)))
section
variable (hH:HasAll P inv) (s:State) (hs:SmS s)
include hH hs
end
def bool1 (b:Bool):List AV:=[.b b]
instance:Cells bool1 1:=⟨fun _=>rfl,fun _=>rfl⟩
theorem chunks_b (l:List Bool):zb2 1 l.length (l.map AV.b)=l.map bool1:=by
 induction l with
 |nil=>rfl
 |cons x l ih =>
  simp only[List.length_cons,List.map_cons,zb2,List.take_succ_cons,List.take_zero,List.drop_succ_cons,List.drop_zero,ih]
  rfl
attribute [go_sem] bool1 chunks_b
def prvOf (p:Pln) (s:State) (r:Rte):Bool:=provedS s r.id (zah p r).1
def provL (p:Pln) (s:State):List Bool:=p.routes.map (prvOf p s)
def provR (p:Pln) (s:State):List Bool:=if zad p s=0 then provL p s else []
def rtIx (p:Pln) (n:Int):Int:=za3 (fun x=>decide (Rte.id x=n)) 0 p.routes
def isSgn (p:Pln) (n:Int):Bool:=p.signals.any fun x=>decide (x.id=n)
def prR (p:Pln) (s:State) (n:Int):Bool:=if rtIx p n<0 then false else prvOf p s (nth p.routes (rtIx p n).toNat)
def prC (p:Pln) (s:State) (n:Int):Int:=if zad p s=0 then (if rtIx p n<0 then 6 else 0) else zad p s
def goB (p:Pln) (s:State) (n:Int):Bool:=p.routes.any fun r=>decide (r.entry=n)&&prvOf p s r
def sgC (p:Pln) (s:State) (n:Int):Int:=if zad p s=0 then (if isSgn p n=true then 0 else 6) else zad p s
structure Prvd (p:Pln) (s:State) (i:Nat):Prop where
 ph:(nth s.locks i).phase=1
 sec:∀ x∈zbO p i,zcF s x=0
 ask:∀ a∈zaU p i,∀ k,k<s.switches.length->(nth s.switches k).id=a.pnt->(nth s.switches k).lie=a.lie
def pjF (s:State) (secs:List Int) (asks:List AskR) (b0:Bool):Bool :=
 zaL (fun i (t:Bool) za5=>zaL (fun k (t:Bool) next2=>next2 (t&&(!decide ((nth s.tracks k).id=nth secs i)||decide ((nth s.tracks k).is=0)))) (fun t=>za5 t) s.tracks.length 0 t)
  (fun t=>zaL (fun i (t:Bool) za5=>zaL (fun k (t:Bool) next2=>next2 (t&&(!decide ((nth s.switches k).id=(nth asks i).pnt)||decide ((nth s.switches k).lie=(nth asks i).lie)))) (fun t=>za5 t) s.switches.length 0 t)
   (fun t=>t) asks.length 0 t)
  secs.length 0 b0
structure Shw where
 sig:Int
 asp:Int
 deriving DecidableEq,Inhabited
def Shw.c (x:Shw):List AV:=[.n x.sig,.i .u8 x.asp]
instance:Cells Shw.c 2:=⟨fun _=>rfl,fun _=>rfl⟩
attribute [go_sem] Shw.c
def goX (p:Pln) (f:Rte->Bool) (n:Int):Int:=za3 (fun r=>decide (r.entry=n)&&f r) 0 p.routes
def aspS (p:Pln) (f:Rte->Bool) (n:Int):Int:=if goX p f n<0 then 0 else if (nth p.routes (goX p f n).toNat).exit≠0/\0<=goX p f (nth p.routes (goX p f n).toNat).exit then 2 else 1
def shwL (p:Pln) (s:State):List Shw:=p.signals.map fun x=>⟨x.id,aspS p (prvOf p s) x.id⟩
def shwR (p:Pln) (s:State):List Shw:=if zad p s=0 then shwL p s else []
def callL (s:State):List Flk:=(s.switches.filter fun x=>!decide (x.call=0)).map fun x=>⟨x.id,x.call⟩
def callLR (p:Pln) (s:State):List Flk:=if zad p s=0 then callL s else []
def inOf (p:Pln) (n:Int):Join:=zjs (sig p n) ⟨0,0⟩ p.sections
theorem Prvd.hd {p:Pln} {s:State} {i:Nat} (h:zad p s=0) (hi:i<p.routes.length) (g:Prvd p s i):zc4 p s i=zbO p i:=by
 have hpa:=(zac h).2.1
 have hl:=zcV hpa (show i<s.locks.length by have:=zak hpa;omega)
 simp only[zbR,zax,g.ph,Bool.and_eq_true]at hl
 have h3:=hl.2
 simp at h3
 unfold zc4 zbq zbO
 rw[g.ph,h3.1,if_neg (by decide)]
 rfl
structure Giv (r:Rte) (is:Int->Int) (l l':Lock):Prop where
 same:l'.phase=1\/l'.phase=4->l'=l
 rest:l.phase=0->l'=l
 gone:¬l'.phase=0->l.gone<=l'.gone
 free:¬l'.phase=0->∀ m∈r.path.drop l.gone.toNat,m∉r.path.drop l'.gone.toNat->is m=0
theorem Giv.refl (r:Rte) (is:Int->Int) (l:Lock):Giv r is l l:=⟨fun _=>rfl,fun _=>rfl,fun _=>Int.le_refl _,fun _ _ h h'=>absurd h h'⟩
theorem Giv.trans {r:Rte} {is:Int->Int} {a b c:Lock} (h:Giv r is a b) (g:Giv r is b c):Giv r is a c:=by
 have hb:¬c.phase=0->¬b.phase=0:=fun h1 h2=>h1 (by rw[g.rest h2];exact h2)
 refine ⟨fun e=>?_,fun e=>?_,fun e=>Int.le_trans (h.gone (hb e)) (g.gone e),fun e m hm hm'=>?_⟩
 ·have h1:=g.same e
  rw[h1]at e |-
  exact h.same e
 ·have h1:=h.rest e
  rw[h1]at g
  exact g.rest e
 ·by_cases h1:m∈r.path.drop b.gone.toNat
  ·exact g.free e m h1 hm'
  ·exact h.free (hb e) m hm h1
section
variable {p:Pln} {s:State} (h:zad p s=0) {i:Nat} (hi:i<s.locks.length)
include h hi
theorem setl_at:nth (zdl p s).locks i=zdX (nth p.routes i) (zcF s) (nth s.locks i):=by
 show nth (s.locks.mapIdx (zj1 p s)) i=_
 rw[zjn _ hi]
 rfl
theorem zj0:nth p.routes i∈p.routes/\0<(nth p.routes i).path.length/\1<=(nth p.routes i).timer/\zax (nth s.locks i) (nth p.routes i)=true:=by
 have hpa:=(zac h).2.1
 have hr:nth p.routes i∈p.routes:=zab (by have:=zak hpa;omega)
 have h1:=zcV hpa hi
 simp only[zbR,Bool.and_eq_true,decide_eq_true_eq]at h1
 exact ⟨hr,by have:=(zc3 (zai h) hr).1;omega,(zfy (zai h) hr).1,h1.2⟩
end
theorem zns (p:Pln) (s:State):(zdl p s).locks.length=s.locks.length:=by simp[zdl]
theorem zpM {p:Pln} {s:State} (hs:SmS s):SmS (zdl p s):=⟨hs.1,hs.2.1,by rw[zns];exact hs.2.2⟩
def pgvB (a b:Lock) (was now is:Int):Bool :=
 (decide (b.phase=1)&&!decide (a.phase=1))||((decide (b.phase=4)&&!decide (a=b))||((decide (a.phase=0)&&!decide (a=b))||((decide (b.gone<a.gone)&&!decide (b.phase=0)) ||
  (decide (a.id=was)&&(decide (now=0)&&(!decide (was=0)&&(!decide (is=0)&&!decide (b.phase=0))))))))
section
variable {p:Pln} {s:State} (h:zad p s=0) {n:Int}
include h
end
end Go.Lev
namespace Go.Eng
structure ActD where
 kind:Int
 id:Int
 value:Int
 data:List Int
 deriving DecidableEq,Inhabited
def byte1 (x:Int):List AV:=[.i .u8 x]
instance:Cells byte1 1:=⟨fun _=>rfl,fun _=>rfl⟩
def ActD.c (x:ActD):List AV:=[.i .u8 x.kind,.n x.id,.n x.value,.sl 1 (x.data.map byte1)]
instance:Cells ActD.c 4:=⟨fun _=>rfl,fun _=>rfl⟩
theorem rep7 {α:Type} (a:α):List.replicate 7 a=[a,a,a,a,a,a,a]:=rfl
attribute [go_sem] byte1 ActD.c rep7
end Go.Eng
namespace Go.Lev
open Go.Eng
set_option maxRecDepth 10000
set_option maxHeartbeats 2000000
variable {P:Program} {inv:Nat->Option Nat} {w0:World} {M:Nat->Prop}
def zcX (p:Pln) (s:State) (a:ActD):Int :=
 if a.kind=1 then zbj p s a.id a.value else if a.kind=2 then zbl p s a.id a.value else if a.kind=3 then zad p s
 else if a.kind=4 then zcd p s a.id a.value else if a.kind=5 then lkC p s a.id else if a.kind=6 then cnC p s a.id else 2
def zei (p:Pln) (s:State) (a:ActD):State :=
 if a.kind=1 then secR p s a.id a.value else if a.kind=2 then zm1 p s a.id a.value else if a.kind=3 then zgo p s
 else if a.kind=4 then zhl p s a.id a.value else if a.kind=5 then lkS p s a.id else if a.kind=6 then cnR p s a.id else State.z
def doC (p:Pln) (s:State) (a:ActD):Int:=if zad p s=0 then (if zcX p s a=0 then zad p (zei p s a) else zcX p s a) else zad p s
def doR (p:Pln) (s:State) (a:ActD):State:=if zad p s=0 then (if zcX p s a=0 then zha p (zei p s a) else State.z) else State.z
theorem smZ:SmS State.z:=⟨by decide,by decide,by decide⟩
theorem znb (p:Pln) {s:State} (h:SmS s) (a:ActD):SmS (zei p s a):=by
 have h1:∀ c:Prop,[Decidable c]->∀ t:State,SmS t->SmS (if c then t else State.z):=fun c _ t ht=>by split;exact ht;exact smZ
 unfold zei
 repeat' split
 ·exact h1 _ _ ⟨by unfold znt;dsimp only;rw[za1];exact h.1,h.2⟩
 ·exact h1 _ _ ⟨h.1,by unfold znu;dsimp only;rw[za1];exact h.2.1,h.2.2⟩
 ·exact h1 _ _ ⟨h.1,h.2.1,by unfold ze7;dsimp only;rw[List.length_map];exact h.2.2⟩
 ·exact h1 _ _ ⟨h.1,by unfold zmq;dsimp only;rw[za1];exact h.2.1,h.2.2⟩
 ·exact h1 _ _ ⟨h.1,by unfold zft;dsimp only;rw[zb0];exact h.2.1,by unfold zft;dsimp only;rw[za1];exact h.2.2⟩
 ·exact h1 _ _ ⟨h.1,h.2.1,by unfold cnS;dsimp only;rw[List.length_set];exact h.2.2⟩
 ·exact smZ
theorem do_pc (hH:HasAll P inv) (hI:HasIds P inv) (p:Pln) (hp:Sm p) (s:State) (hs:SmS s) (h8:∀ t∈s.tracks,0<=t.is) (a:ActD) (ha:0<=a.kind/\a.kind<=255):PC P inv 207 [.agg p.c,.agg s.c,.agg a.c] (·=.tup [.agg (doR p s a).c,.n (doC p s a)]):=by
 have c0:=zbP hH hI p hp s hs
 unfold doR doC
 by_cases hst:zad p s=0
 ·rw[hst]at c0
  simp only[hst,if_true]
  have c1:=sec_pc hH hI p hp s hs a.id a.value
  have c2:=det_pc hH hI p hp s hs a.id a.value
  have c3:=zpt hH hI p hp s hs
  have c4:=callP_pc hH hI p hp s hs h8 a.id a.value
  have c5:=zoU hH hI p hp s hs a.id
  have c6:=zrw hH hI p hp s hs a.id
  have c7:=zpL hH hI p hp (zei p s a) (znb p hs a)
  obtain ⟨kd,id,v,dt⟩:=a
  dsimp only at *
  have key:∀ (n:Int),kd=n->True:=fun _ _=>trivial
  by_cases h6:kd<=6
  ·obtain rfl|rfl|rfl|rfl|rfl|rfl|rfl:kd=0\/kd=1\/kd=2\/kd=3\/kd=4\/kd=5\/kd=6:=by omega
   ·rw[show zcX p s ⟨0,id,v,dt⟩=2 by simp[zcX],if_neg (by decide),if_neg (by decide)]
    refine PC.fn hH cd207 fun w0 M Q hM hE hQ hR=>?_;dsimp only[cd207,qm,ql,qf,qc,qv,qN,qF,qt]at hQ |-
    (repeat' first|refine zaa [0,1,2,3,4,5,6,7,8,9,10,11,16,36,47] fun K hK=>?_|(refine hK.go ?_;clear hK K)|with_reducible exact wT|refine wA ?_|(refine wB (fun h=>?_) (fun h=>?_)<;>first|exact wN h|subst (h:(_:Bool)=_)|skip)|(refine wQ ?_;clear hQ hR hE hM)|refine wC c0 ?_|fail)
    all_goals first|rfl|(exfalso;contradiction)|(exfalso;omega)|skip
   ·rw[show zcX p s ⟨1,id,v,dt⟩=zbj p s id v by simp[zcX]]
    rw[show zei p s ⟨1,id,v,dt⟩=secR p s id v by simp[zei]]at c7 |-
    generalize secR p s id v=T at *
    generalize he:zbj p s id v=e at *
    clear he
    generalize zha p T=U at *
    generalize zad p T=f at *
    by_cases he:e=0
    ·rw[if_pos he,if_pos he]
     subst he
     refine PC.fn hH cd207 fun w0 M Q hM hE hQ hR=>?_;dsimp only[cd207,qm,ql,qf,qc,qv,qN,qF,qt]at hQ |-
     skip
     (repeat' first|refine zaa [0,1,2,3,4,5,6,7,8,9,10,11,16,36,47] fun K hK=>?_|(refine hK.go ?_;clear hK K)|with_reducible exact wT|refine wA ?_|(refine wB (fun h=>?_) (fun h=>?_)<;>first|exact wN h|subst (h:(_:Bool)=_)|skip)|(refine wQ ?_;clear hQ hR)|refine wC c0 ?_|(refine AC.callK 40 (by omega) (by first|omega|exact wF|((refine wD ?_;try with_reducible exact wT);omega)) (zao (F:=cd219) (hH.has _ _ rfl) (Nat.le_of_ble_eq_true rfl) fun Q hQ hR=>?_);dsimp only[cd219,qm,ql,qf,qN,qt]at hQ |-;try refine wD ?_)|refine wC c1 ?_|refine wC c7 ?_|fail)
     all_goals first|rfl|(exfalso;contradiction)|(exfalso;omega)|skip
    ·rw[if_neg he,if_neg he]
     refine PC.fn hH cd207 fun w0 M Q hM hE hQ hR=>?_;dsimp only[cd207,qm,ql,qf,qc,qv,qN,qF,qt]at hQ |-
     skip
     (repeat' first|refine zaa [0,1,2,3,4,5,6,7,8,9,10,11,16,36,47] fun K hK=>?_|(refine hK.go ?_;clear hK K)|with_reducible exact wT|refine wA ?_|(refine wB (fun h=>?_) (fun h=>?_)<;>first|exact wN h|subst (h:(_:Bool)=_)|skip)|(refine wQ ?_;clear hQ hR)|refine wC c0 ?_|(refine AC.callK 40 (by omega) (by first|omega|exact wF|((refine wD ?_;try with_reducible exact wT);omega)) (zao (F:=cd219) (hH.has _ _ rfl) (Nat.le_of_ble_eq_true rfl) fun Q hQ hR=>?_);dsimp only[cd219,qm,ql,qf,qN,qt]at hQ |-;try refine wD ?_)|refine wC c1 ?_|refine wC c7 ?_|fail)
     all_goals first|rfl|(exfalso;contradiction)|(exfalso;omega)|skip
   ·rw[show zcX p s ⟨2,id,v,dt⟩=zbl p s id v by simp[zcX]]
    rw[show zei p s ⟨2,id,v,dt⟩=zm1 p s id v by simp[zei]]at c7 |-
    generalize zm1 p s id v=T at *
    generalize he:zbl p s id v=e at *
    clear he
    generalize zha p T=U at *
    generalize zad p T=f at *
    by_cases he:e=0
    ·rw[if_pos he,if_pos he]
     subst he
     refine PC.fn hH cd207 fun w0 M Q hM hE hQ hR=>?_;dsimp only[cd207,qm,ql,qf,qc,qv,qN,qF,qt]at hQ |-
     skip
     (repeat' first|refine zaa [0,1,2,3,4,5,6,7,8,9,10,11,16,36,47] fun K hK=>?_|(refine hK.go ?_;clear hK K)|with_reducible exact wT|refine wA ?_|(refine wB (fun h=>?_) (fun h=>?_)<;>first|exact wN h|subst (h:(_:Bool)=_)|skip)|(refine wQ ?_;clear hQ hR)|refine wC c0 ?_|(refine AC.callK 40 (by omega) (by first|omega|exact wF|((refine wD ?_;try with_reducible exact wT);omega)) (zao (F:=cd220) (hH.has _ _ rfl) (Nat.le_of_ble_eq_true rfl) fun Q hQ hR=>?_);dsimp only[cd220,qm,ql,qf,qN,qt]at hQ |-;try refine wD ?_)|refine wC c2 ?_|refine wC c7 ?_|fail)
     all_goals first|rfl|(exfalso;contradiction)|(exfalso;omega)|skip
    ·rw[if_neg he,if_neg he]
     refine PC.fn hH cd207 fun w0 M Q hM hE hQ hR=>?_;dsimp only[cd207,qm,ql,qf,qc,qv,qN,qF,qt]at hQ |-
     skip
     (repeat' first|refine zaa [0,1,2,3,4,5,6,7,8,9,10,11,16,36,47] fun K hK=>?_|(refine hK.go ?_;clear hK K)|with_reducible exact wT|refine wA ?_|(refine wB (fun h=>?_) (fun h=>?_)<;>first|exact wN h|subst (h:(_:Bool)=_)|skip)|(refine wQ ?_;clear hQ hR)|refine wC c0 ?_|(refine AC.callK 40 (by omega) (by first|omega|exact wF|((refine wD ?_;try with_reducible exact wT);omega)) (zao (F:=cd220) (hH.has _ _ rfl) (Nat.le_of_ble_eq_true rfl) fun Q hQ hR=>?_);dsimp only[cd220,qm,ql,qf,qN,qt]at hQ |-;try refine wD ?_)|refine wC c2 ?_|refine wC c7 ?_|fail)
     all_goals first|rfl|(exfalso;contradiction)|(exfalso;omega)|skip
   ·rw[show zcX p s ⟨3,id,v,dt⟩=zad p s by simp[zcX]]
    rw[show zei p s ⟨3,id,v,dt⟩=zgo p s by simp[zei]]at c7 |-
    generalize zgo p s=T at *
    generalize zha p T=U at *
    generalize zad p T=f at *
    rw[hst]at c3 |-
    ·rw[if_pos rfl,if_pos rfl]
     refine PC.fn hH cd207 fun w0 M Q hM hE hQ hR=>?_;dsimp only[cd207,qm,ql,qf,qc,qv,qN,qF,qt]at hQ |-
     skip
     (repeat' first|refine zaa [0,1,2,3,4,5,6,7,8,9,10,11,16,36,47] fun K hK=>?_|(refine hK.go ?_;clear hK K)|with_reducible exact wT|refine wA ?_|(refine wB (fun h=>?_) (fun h=>?_)<;>first|exact wN h|subst (h:(_:Bool)=_)|skip)|(refine wQ ?_;clear hQ hR)|refine wC c0 ?_|(refine AC.callK 40 (by omega) (by first|omega|exact wF|((refine wD ?_;try with_reducible exact wT);omega)) (zao (F:=cd221) (hH.has _ _ rfl) (Nat.le_of_ble_eq_true rfl) fun Q hQ hR=>?_);dsimp only[cd221,qm,qN,qt]at hQ |-;try refine wD ?_)|refine wC c3 ?_|refine wC c7 ?_|fail)
     all_goals first|rfl|(exfalso;contradiction)|(exfalso;omega)|skip
   ·rw[show zcX p s ⟨4,id,v,dt⟩=zcd p s id v by simp[zcX]]
    rw[show zei p s ⟨4,id,v,dt⟩=zhl p s id v by simp[zei]]at c7 |-
    generalize zhl p s id v=T at *
    generalize he:zcd p s id v=e at *
    clear he
    generalize zha p T=U at *
    generalize zad p T=f at *
    by_cases he:e=0
    ·rw[if_pos he,if_pos he]
     subst he
     refine PC.fn hH cd207 fun w0 M Q hM hE hQ hR=>?_;dsimp only[cd207,qm,ql,qf,qc,qv,qN,qF,qt]at hQ |-
     skip
     (repeat' first|refine zaa [0,1,2,3,4,5,6,7,8,9,10,11,16,36,47] fun K hK=>?_|(refine hK.go ?_;clear hK K)|with_reducible exact wT|refine wA ?_|(refine wB (fun h=>?_) (fun h=>?_)<;>first|exact wN h|subst (h:(_:Bool)=_)|skip)|(refine wQ ?_;clear hQ hR)|refine wC c0 ?_|(refine AC.callK 40 (by omega) (by first|omega|exact wF|((refine wD ?_;try with_reducible exact wT);omega)) (zao (F:=cd222) (hH.has _ _ rfl) (Nat.le_of_ble_eq_true rfl) fun Q hQ hR=>?_);dsimp only[cd222,qm,ql,qf,qN,qt]at hQ |-;try refine wD ?_)|refine wC c4 ?_|refine wC c7 ?_|fail)
     all_goals first|rfl|(exfalso;contradiction)|(exfalso;omega)|skip
    ·rw[if_neg he,if_neg he]
     refine PC.fn hH cd207 fun w0 M Q hM hE hQ hR=>?_;dsimp only[cd207,qm,ql,qf,qc,qv,qN,qF,qt]at hQ |-
     skip
     (repeat' first|refine zaa [0,1,2,3,4,5,6,7,8,9,10,11,16,36,47] fun K hK=>?_|(refine hK.go ?_;clear hK K)|with_reducible exact wT|refine wA ?_|(refine wB (fun h=>?_) (fun h=>?_)<;>first|exact wN h|subst (h:(_:Bool)=_)|skip)|(refine wQ ?_;clear hQ hR)|refine wC c0 ?_|(refine AC.callK 40 (by omega) (by first|omega|exact wF|((refine wD ?_;try with_reducible exact wT);omega)) (zao (F:=cd222) (hH.has _ _ rfl) (Nat.le_of_ble_eq_true rfl) fun Q hQ hR=>?_);dsimp only[cd222,qm,ql,qf,qN,qt]at hQ |-;try refine wD ?_)|refine wC c4 ?_|refine wC c7 ?_|fail)
     all_goals first|rfl|(exfalso;contradiction)|(exfalso;omega)|skip
   ·rw[show zcX p s ⟨5,id,v,dt⟩=lkC p s id by simp[zcX]]
    rw[show zei p s ⟨5,id,v,dt⟩=lkS p s id by simp[zei]]at c7 |-
    generalize lkS p s id=T at *
    generalize he:lkC p s id=e at *
    clear he
    generalize zha p T=U at *
    generalize zad p T=f at *
    by_cases he:e=0
    ·rw[if_pos he,if_pos he]
     subst he
     refine PC.fn hH cd207 fun w0 M Q hM hE hQ hR=>?_;dsimp only[cd207,qm,ql,qf,qc,qv,qN,qF,qt]at hQ |-
     skip
     (repeat' first|refine zaa [0,1,2,3,4,5,6,7,8,9,10,11,16,36,47] fun K hK=>?_|(refine hK.go ?_;clear hK K)|with_reducible exact wT|refine wA ?_|(refine wB (fun h=>?_) (fun h=>?_)<;>first|exact wN h|subst (h:(_:Bool)=_)|skip)|(refine wQ ?_;clear hQ hR)|refine wC c0 ?_|(refine AC.callK 40 (by omega) (by first|omega|exact wF|((refine wD ?_;try with_reducible exact wT);omega)) (zao (F:=cd223) (hH.has _ _ rfl) (Nat.le_of_ble_eq_true rfl) fun Q hQ hR=>?_);dsimp only[cd223,qm,ql,qf,qN,qt]at hQ |-;try refine wD ?_)|refine wC c5 ?_|refine wC c7 ?_|fail)
     all_goals first|rfl|(exfalso;contradiction)|(exfalso;omega)|skip
    ·rw[if_neg he,if_neg he]
     refine PC.fn hH cd207 fun w0 M Q hM hE hQ hR=>?_;dsimp only[cd207,qm,ql,qf,qc,qv,qN,qF,qt]at hQ |-
     skip
     (repeat' first|refine zaa [0,1,2,3,4,5,6,7,8,9,10,11,16,36,47] fun K hK=>?_|(refine hK.go ?_;clear hK K)|with_reducible exact wT|refine wA ?_|(refine wB (fun h=>?_) (fun h=>?_)<;>first|exact wN h|subst (h:(_:Bool)=_)|skip)|(refine wQ ?_;clear hQ hR)|refine wC c0 ?_|(refine AC.callK 40 (by omega) (by first|omega|exact wF|((refine wD ?_;try with_reducible exact wT);omega)) (zao (F:=cd223) (hH.has _ _ rfl) (Nat.le_of_ble_eq_true rfl) fun Q hQ hR=>?_);dsimp only[cd223,qm,ql,qf,qN,qt]at hQ |-;try refine wD ?_)|refine wC c5 ?_|refine wC c7 ?_|fail)
     all_goals first|rfl|(exfalso;contradiction)|(exfalso;omega)|skip
   ·rw[show zcX p s ⟨6,id,v,dt⟩=cnC p s id by simp[zcX]]
    rw[show zei p s ⟨6,id,v,dt⟩=cnR p s id by simp[zei]]at c7 |-
    generalize cnR p s id=T at *
    generalize he:cnC p s id=e at *
    clear he
    generalize zha p T=U at *
    generalize zad p T=f at *
    by_cases he:e=0
    ·rw[if_pos he,if_pos he]
     subst he
     refine PC.fn hH cd207 fun w0 M Q hM hE hQ hR=>?_;dsimp only[cd207,qm,ql,qf,qc,qv,qN,qF,qt]at hQ |-
     skip
     (repeat' first|refine zaa [0,1,2,3,4,5,6,7,8,9,10,11,16,36,47] fun K hK=>?_|(refine hK.go ?_;clear hK K)|with_reducible exact wT|refine wA ?_|(refine wB (fun h=>?_) (fun h=>?_)<;>first|exact wN h|subst (h:(_:Bool)=_)|skip)|(refine wQ ?_;clear hQ hR)|refine wC c0 ?_|(refine AC.callK 40 (by omega) (by first|omega|exact wF|((refine wD ?_;try with_reducible exact wT);omega)) (zao (F:=cd224) (hH.has _ _ rfl) (Nat.le_of_ble_eq_true rfl) fun Q hQ hR=>?_);dsimp only[cd224,qm,ql,qf,qN,qt]at hQ |-;try refine wD ?_)|refine wC c6 ?_|refine wC c7 ?_|fail)
     all_goals first|rfl|(exfalso;contradiction)|(exfalso;omega)|skip
    ·rw[if_neg he,if_neg he]
     refine PC.fn hH cd207 fun w0 M Q hM hE hQ hR=>?_;dsimp only[cd207,qm,ql,qf,qc,qv,qN,qF,qt]at hQ |-
     skip
     (repeat' first|refine zaa [0,1,2,3,4,5,6,7,8,9,10,11,16,36,47] fun K hK=>?_|(refine hK.go ?_;clear hK K)|with_reducible exact wT|refine wA ?_|(refine wB (fun h=>?_) (fun h=>?_)<;>first|exact wN h|subst (h:(_:Bool)=_)|skip)|(refine wQ ?_;clear hQ hR)|refine wC c0 ?_|(refine AC.callK 40 (by omega) (by first|omega|exact wF|((refine wD ?_;try with_reducible exact wT);omega)) (zao (F:=cd224) (hH.has _ _ rfl) (Nat.le_of_ble_eq_true rfl) fun Q hQ hR=>?_);dsimp only[cd224,qm,ql,qf,qN,qt]at hQ |-;try refine wD ?_)|refine wC c6 ?_|refine wC c7 ?_|fail)
     all_goals first|rfl|(exfalso;contradiction)|(exfalso;omega)|skip
  ·rw[show zcX p s ⟨kd,id,v,dt⟩=2 by unfold zcX;rw[if_neg (by dsimp only;omega),if_neg (by dsimp only;omega),if_neg (by dsimp only;omega),if_neg (by dsimp only;omega),if_neg (by dsimp only;omega),if_neg (by dsimp only;omega)],if_neg (by decide),if_neg (by decide)]
   refine PC.fn hH cd207 fun w0 M Q hM hE hQ hR=>?_;dsimp only[cd207,qm,ql,qf,qc,qv,qN,qF,qt]at hQ |-
   (repeat' first|refine zaa [0,1,2,3,4,5,6,7,8,9,10,11,16,36,47] fun K hK=>?_|(refine hK.go ?_;clear hK K)|with_reducible exact wT|refine wA ?_|(refine wB (fun h=>?_) (fun h=>?_)<;>first|exact wN h|subst (h:(_:Bool)=_)|skip)|(refine wQ ?_;clear hQ hR hE hM)|refine wC c0 ?_|fail)
   all_goals first|rfl|(exfalso;contradiction)|(exfalso;omega)|skip
 ·simp only[if_neg hst]
  generalize zad p s=e at c0 hst |-
  refine PC.fn hH cd207 fun w0 M Q hM hE hQ hR=>?_;dsimp only[cd207,qm,ql,qf,qc,qv,qN,qF,qt]at hQ |-
  (repeat' first|refine zaa [0,1,2,3,4,5,6,7,8,9,10,11,16,36,47] fun K hK=>?_|(refine hK.go ?_;clear hK K)|with_reducible exact wT|refine wA ?_|(refine wB (fun h=>?_) (fun h=>?_)<;>first|exact wN h|subst (h:(_:Bool)=_)|skip)|(refine wQ ?_;clear hQ hR hE hM)|refine wC c0 ?_|fail)
  all_goals first|rfl|(exfalso;contradiction)|skip
end Go.Lev
