/-
  A part of the engine that walks the functions' codes, and of the functions' contracts. Conditions: those that each theorem names.
-/
import Derived.Test.YtjgelcegjmfgnaaGreatL8
import Derived.IntWalk
set_option linter.unusedSimpArgs false
set_option linter.unusedVariables false
set_option linter.unusedSectionVars false
namespace Go.Lev
open Go.Eng
theorem zjt {p:Pln} (h:OkP p) {k:Nat} (hk:k<p.points.length):zcK p (nth p.points k).id=(nth p.points k).sec:=by
 unfold zcK
 rw[zeM Pnt.id (zbF h) hk rfl]
end Go.Lev
namespace Go.Lev
open Go.Eng
section
variable {p:Pln} {s:State} {n:Int} {i:Nat} (h:MaySet p s n i)
include h
theorem MaySet.calm {k:Nat} (hk:k<s.switches.length) (hne:¬(nth s.switches k).call=(nth (zga s n (zbM p i)).switches k).call):nth (zav p s).2.1 (nth s.switches k).id.toNat=0∧zbB s (nth p.points k).sec=0:=by
 have ho:=zae h.st
 have hpa:=(zab h.st).2.1
 have hpl:=zag hpa
 have hk2:k<p.points.length:=by omega
 obtain ⟨_,_,h3⟩:=zjJ (zbM p i) s.switches k hk
 rcases h3 with h3|⟨a,ha,e1,e2⟩
 ·exact absurd h3.symm hne
 ·have hsw:=zjX hpa hk
  rcases h.ask a ha with h4|h4
  ·rw[e1,zl3 ho hpa (zad hk)]at h4
   exact absurd (h4.trans e2.symm) hne
  ·rw[e1,hsw,zjt ho hk2]at h4
   rw[hsw]
   exact h4
end
end Go.Lev
namespace Go.Lev
open Go.Eng
section
variable {p:Pln} {s t:State} (h:zac p s=0) (g:OnS p s t)
include h g
end
theorem zny {l:Lock} {r:Rte} (h:zbs l r=true):On l (zcQ l)∧zbs (zcQ l) r=true:=by
 simp only[zbs,Bool.and_eq_true,decide_eq_true_eq]at h
 unfold zcQ
 by_cases h1:l.left=0
 ·rw[if_pos h1]
  exact ⟨.inl rfl,by simp only[zbs,Bool.and_eq_true,decide_eq_true_eq];exact h⟩
 ·rw[if_neg h1]
  have hph:l.phase=3∨l.phase=4:=by
   have h2:=h.2
   unfold zaq at h2
   split at h2
   ·simp at h2;omega
   ·split at h2
    ·simp at h2;omega
    ·split at h2
     ·exact .inl (by assumption)
     ·split at h2
      ·exact .inr (by assumption)
      ·cases h2
  split
  ·refine ⟨.inr ⟨rfl,.inl rfl⟩, ?_⟩
   simp only[zbs,zaq,Bool.and_eq_true,decide_eq_true_eq]
   exact ⟨h.1,by simp⟩
  ·refine ⟨.inr ⟨rfl,.inr ⟨by omega,by dsimp only;omega,Int.le_refl _⟩⟩, ?_⟩
   have h2:=h.2
   simp only[zbs,Bool.and_eq_true,decide_eq_true_eq]
   refine ⟨h.1, ?_⟩
   rcases hph with e|e
   ·simp only[zaq,e]at h2 ⊢
    simp at h2 ⊢
    omega
   ·simp only[zaq,e]at h2 ⊢
    simp at h2 ⊢
    omega
theorem zpt {p:Pln} {s:State} (h:zac p s=0):OnS p s (zjT s):=by
 refine ⟨rfl,rfl,by show (s.locks.map zcQ).length=_;simp,fun i hi=>?_,fun i hi=>?_⟩
 ·show On _ (nth (s.locks.map zcQ) i)
  rw[zjw zcQ hi]
  exact (zny (zbR (zab h).2.1 hi)).1
 ·show zbs (nth (s.locks.map zcQ) i) _=true
  rw[zjw zcQ hi]
  exact (zny (zbR (zab h).2.1 hi)).2
end Go.Lev
namespace Go.Lev
open Go.Eng
end Go.Lev
namespace Go.Lev
open Go.Eng
set_option maxRecDepth 10000
set_option maxHeartbeats 4000000
variable {P:Program} {inv:Nat→Option Nat} {w0:World} {M:Nat→Prop}
theorem znw {α:Type} [Inhabited α] (f:α→Int) (n:Int) (g:α→α) {l:List α} {k:Nat} (h:k<l.length):nth (zcP f n g l) k=if f (nth l k)=n then g (nth l k) else nth l k:=by
 unfold zcP
 exact zjw (fun x=>if f x=n then g x else x) h
end Go.Lev
namespace Go.Lev
open Go.Eng
end Go.Lev
namespace Go.Lev
open Go.Eng
theorem zl2 {p:Pln} {s:State} {n:Int} (h:zac p s=0) (e:cnC p s n=0):OnS p s (cnS p s n):=by
 obtain ⟨i,hi,hid,hix,he⟩:=zro h e
 have hpa:=(zab h).2.1
 have hrt:nth p.routes i∈p.routes:=zad (by have:=zag hpa;omega)
 have ht:=zdm (zae h) hrt
 have key:∀ j,j<s.locks.length→nth (cnS p s n).locks j=if j=i then cnL s (zak p (nth p.routes i)).1 (nth p.routes i) (nth s.locks i) n else nth s.locks j:=fun j hj=>by
  unfold cnS
  rw[hix,Int.toNat_natCast]
  exact za7 _ _ _ _ hi
 have hli:=zbR hpa hi
 simp only[zbs,Bool.and_eq_true,decide_eq_true_eq]at hli
 have hL:On (nth s.locks i) (cnL s (zak p (nth p.routes i)).1 (nth p.routes i) (nth s.locks i) n)∧zbs (cnL s (zak p (nth p.routes i)).1 (nth p.routes i) (nth s.locks i) n) (nth p.routes i)=true:=by
  unfold cnL
  split
  ·rename_i h1
   have h2:=hli.2
   simp only[zaq,h1.1]at h2
   simp at h2
   refine ⟨.inr ⟨hid.symm,.inr ⟨by omega,by simp,by dsimp only;omega⟩⟩, ?_⟩
   simp only[zbs,zaq,Bool.and_eq_true,decide_eq_true_eq]
   refine ⟨by rw[←hid];exact hli.1, ?_⟩
   simp;omega
  ·refine ⟨.inr ⟨hid.symm,.inl rfl⟩, ?_⟩
   simp only[zbs,zaq,Bool.and_eq_true,decide_eq_true_eq]
   exact ⟨by rw[←hid];exact hli.1,by simp⟩
 refine ⟨rfl,rfl,zrn p s n,fun j hj=>?_,fun j hj=>?_⟩
 ·rw[key j hj]
  split
  ·rename_i e1;subst e1;exact hL.1
  ·exact .inl rfl
 ·rw[key j hj]
  split
  ·rename_i e1;subst e1;exact hL.2
  ·exact zbR hpa hj
end Go.Lev
namespace Go.Lev
open Go.Eng
theorem act_code {p:Pln} {s:State} {a:ActD} (h:zac p s=0) (ha:zge p s a=0):zac p (zhr p s a)=0:=by
 unfold zge at ha
 unfold zhr
 split at ha
 ·rename_i hk
  rw[if_pos hk]
  unfold secR
  rw[if_pos ha]
  have:=((zbO h).1 ha).2
  exact zcG h (by omega)
 ·rename_i hk1
  rw[if_neg hk1]
  split at ha
  ·rename_i hk
   rw[if_pos hk]
   unfold detR
   rw[if_pos ha]
   exact zhV h ((zdL h).1 ha).2
  ·rename_i hk2
   rw[if_neg hk2]
   split at ha
   ·rename_i hk
    rw[if_pos hk]
    unfold zmk
    rw[if_pos h]
    exact (zpt h).code h
   ·rename_i hk3
    rw[if_neg hk3]
    split at ha
    ·rename_i hk
     rw[if_pos hk]
     unfold znf
     rw[if_pos ha]
     have:=zl4.1 ha
     exact this.1.code this.2
    ·rename_i hk4
     rw[if_neg hk4]
     split at ha
     ·rename_i hk
      rw[if_pos hk]
      obtain ⟨i,hm⟩:=zmS.1 ha
      rw[hm.lkS]
      exact hm.code
     ·rename_i hk5
      rw[if_neg hk5]
      split at ha
      ·rename_i hk
       rw[if_pos hk]
       unfold cnR
       rw[if_pos ha]
       exact (zl2 h ha).code h
      ·cases ha
theorem doR_sm {p:Pln} {s:State} {a:ActD} (hs:SmS s):SmS (doR p s a):=by
 unfold doR zcS
 repeat' split
 ·exact zj5 (zkU p hs a)
 all_goals exact ⟨by decide,by decide,by decide⟩
theorem doR_u8 {p:Pln} {s:State} {a:ActD} (h8:∀ t∈s.tracks,0≤t.is) (h:doC p s a=0):∀ t∈(doR p s a).tracks,0≤t.is:=by
 obtain ⟨u,g,hu⟩:=zjY h
 rw[hu]
 intro t ht
 have ht:t∈u.tracks:=ht
 rcases g.all with ⟨_,h,_,hv⟩|⟨_,h,_⟩|⟨_,h⟩|⟨_,h,_⟩|⟨_,i,_,h⟩|⟨_,h,_⟩
 ·rw[h]at ht
  obtain ⟨x,hx,ex⟩:=List.mem_map.1 (show t∈s.tracks.map _ from ht)
  rw[←ex]
  split
  ·dsimp only;omega
  ·exact h8 x hx
 all_goals (rw[h]at ht;exact h8 t ht)
end Go.Lev
namespace Go.Lev
open Go.Eng
section
variable {p:Pln} {s u:State} {a:ActD} (g:StepS p s a u)
include g
theorem zjZ:u.locks.length=s.locks.length∧u.switches.length=s.switches.length∧u.tracks.length=s.tracks.length:=by
 have h1:=zag (zab g.st).2.1
 have h2:=zag (zab g.code).2.1
 omega
theorem zpA {k:Nat} (hk:k<s.switches.length) (hne:¬(nth u.switches k).call=(nth s.switches k).call):nth (zav p s).2.1 (nth s.switches k).id.toNat=0∧zbB s (nth p.points k).sec=0:=by
 have ho:=zae g.st
 have hpa:=(zab g.st).2.1
 have hpl:=zag hpa
 have hk2:k<p.points.length:=by omega
 rcases g.all with ⟨_,h,_⟩|⟨_,h,_⟩|⟨_,h⟩|⟨_,h,hm,_⟩|⟨_,i,hm,h⟩|⟨_,h,_⟩
 ·rw[h]at hne;exact absurd rfl hne
 ·rw[h]at hne
  refine absurd ?_ hne
  show (nth (zcP Switch.id _ _ s.switches) k).call=_
  rw[znw _ _ _ hk]
  split<;>rfl
 ·rw[h]at hne;exact absurd rfl hne
 ·rw[h]at hne
  have e:(nth s.switches k).id=a.id:=by
   by_cases e:(nth s.switches k).id=a.id
   ·exact e
   ·refine absurd ?_ hne
    show (nth (zcP Switch.id _ _ s.switches) k).call=_
    rw[znw _ _ _ hk,if_neg e]
  have h1:=hm.ask
  have h2:=hm.free
  rw[←e]at h1 h2
  rw[zjX hpa hk,zjt ho hk2]at h2
  exact ⟨h1,h2⟩
 ·rw[h]at hne
  exact hm.calm hk fun e=>hne e.symm
 ·rw[h]at hne;exact absurd rfl hne
theorem step_set {k:Nat} (hk:k<s.locks.length) (h1:(nth (zax p u).locks k).phase=1) (h0:¬(nth s.locks k).phase=1):(nth s.locks k).phase=0∧a.kind=5∧a.id=(nth s.locks k).id:=by
 have hl:=zjZ g
 have hk2:k<u.locks.length:=by omega
 rw[(znH g.code hk2).same (.inl h1)]at h1
 rcases g.all with ⟨_,h,_⟩|⟨_,h,_⟩|⟨_,h⟩|⟨_,h,hm,_⟩|⟨h5,i,hm,h⟩|⟨_,h,hc⟩
 ·rw[h]at h1;exact absurd h1 h0
 ·rw[h]at h1;exact absurd h1 h0
 ·rw[h,zpu _ hk]at h1
  exfalso
  unfold zcQ at h1
  split at h1
  ·exact h0 h1
  ·split at h1
   ·cases h1
   ·exact h0 h1
 ·rw[h]at h1;exact absurd h1 h0
 ·rw[h,hm.lock hk]at h1
  by_cases e:k=i
  ·subst e
   exact ⟨hm.ph,h5,hm.id.symm⟩
  ·rw[if_neg e]at h1;exact absurd h1 h0
 ·obtain ⟨i,hi,hid,hix,_⟩:=zro g.st hc
  rw[h]at h1
  exfalso
  unfold cnS at h1
  rw[hix,Int.toNat_natCast]at h1
  dsimp only at h1
  rw[za7 _ _ _ _ hi]at h1
  split at h1
  ·unfold cnL at h1
   split at h1<;>cases h1
  ·exact h0 h1
theorem zpz {n:Nat} (hne:¬nth (zav p (zax p u)).1 n=nth (zav p s).1 n) (h0:¬nth (zav p (zax p u)).1 n=0) :
  nth (zav p s).1 n=0∧a.kind=5∧a.id=nth (zav p (zax p u)).1 n∧zbB s n=0:=by
 have hl:=zjZ g
 have hT:=zcF g.code
 have hn:(0:Int)≤n:=by omega
 have hno:∀ i,i<s.locks.length→(n:Int)∈zgd p s i→nth (zav p (zax p u)).1 n=(nth s.locks i).id→False:=fun i hi h1 h2=>by
  have:=(zhz g.st hi hn).2 h1
  rw[Int.toNat_natCast]at this
  exact hne (h2.trans this.symm)
 rcases zgH hT hn with ⟨z,hz,hm,e2⟩|⟨_,e2⟩
 ·obtain ⟨i,hi,rfl⟩:=zfj hT hz
  rw[Int.toNat_natCast]at e2
  rw[zcw]at hi
  have hon:=(zpM g.code).on i hi
  have hu:(n:Int)∈zgd p u i:=hon.held _ _ hm
  have eid:nth (zav p (zax p u)).1 n=(nth u.locks i).id:=e2.trans hon.id
  have hi2:i<s.locks.length:=by omega
  have same:u.locks=s.locks→False:=fun e=>by
   unfold zgd at hu
   rw[e]at hu eid
   exact hno i hi2 hu eid
  have onS:OnS p s u→False:=fun o=>hno i hi2 ((o.on i hi2).held _ _ hu) (eid.trans (o.on i hi2).id)
  rcases g.all with ⟨_,h,_⟩|⟨_,h,_⟩|⟨_,h⟩|⟨_,h,_,_⟩|⟨h5,j,hm,h⟩|⟨_,h,hc⟩
  ·exact (same (by rw[h];rfl)).elim
  ·exact (same (by rw[h];rfl)).elim
  ·exact (onS (by rw[h];exact zpt g.st)).elim
  ·exact (same (by rw[h];rfl)).elim
  ·rw[h,hm.hd hi2]at hu
   have e4:nth u.locks i=if i=j then ⟨a.id,1,0,0⟩ else nth s.locks i:=by rw[h];exact hm.lock hi2
   rw[e4]at eid
   by_cases e:i=j
   ·subst e
    rw[if_pos rfl]at hu eid
    have:=hm.sec _ hu
    rw[Int.toNat_natCast]at this
    exact ⟨this.1,h5,eid.symm,this.2⟩
   ·rw[if_neg e]at hu eid
    exact (hno i hi2 hu eid).elim
  ·exact (onS (by rw[h];exact zl2 g.st hc)).elim
 ·rw[Int.toNat_natCast]at e2
  exact absurd e2 h0
end
theorem put1_len (o:List Int) (n v:Int):(put1 o n v).length=o.length:=by
 unfold put1
 split
 ·exact List.length_set
 ·rfl
theorem zbX (path:List Int) (gone v:Int):∀ (k:Nat) (o:List Int),(zeV path gone v k o).length=o.length
 |0,_=>rfl
 |k+1,o=>by
  rw[zeV]
  split
  ·rw[put1_len];exact zbX path gone v k o
  ·exact zbX path gone v k o
theorem zcy (p:Pln) (s:State):∀ i,(zhc p s i).length=100
 |0=>by simp[zhc]
 |i+1=>by
  rw[zhc]
  split
  ·exact zcy p s i
  ·rw[zbX,zbX];exact zcy p s i
theorem zkE (path:List Int) (gone v:Int) {n:Nat} (h0:0<n) (hn:n<100) {o:List Int} (ho:o.length=100):∀ m,(nth (zeV path gone v m o) n=v∧∃ k,k<m∧gone≤(k:Int)∧nth path k=n) ∨
  (nth (zeV path gone v m o) n=nth o n∧∀ k,k<m→gone≤(k:Int)→¬nth path k=n)
 |0=>.inr ⟨rfl,fun k hk=>absurd hk (Nat.not_lt_zero _)⟩
 |m+1=>by
  rw[zeV]
  have ih:=zkE path gone v h0 hn ho m
  have hl:n<(zeV path gone v m o).length:=by rw[zbX,ho];exact hn
  by_cases hg:gone≤(m:Int)
  ·rw[if_pos hg]
   unfold put1
   by_cases hr:0<nth path m∧nth path m<100
   ·rw[if_pos hr,za7 _ _ _ _ (by rw[zbX,ho];omega)]
    by_cases e:n=(nth path m).toNat
    ·rw[if_pos e]
     exact .inl ⟨rfl,m,by omega,hg,by omega⟩
    ·rw[if_neg e]
     rcases ih with ⟨h1,k,h2,h3,h4⟩|⟨h1,h2⟩
     ·exact .inl ⟨h1,k,by omega,h3,h4⟩
     ·refine .inr ⟨h1,fun k hk hk2=>?_⟩
      by_cases ek:k=m
      ·subst ek;omega
      ·exact h2 k (by omega) hk2
   ·rw[if_neg hr]
    rcases ih with ⟨h1,k,h2,h3,h4⟩|⟨h1,h2⟩
    ·exact .inl ⟨h1,k,by omega,h3,h4⟩
    ·refine .inr ⟨h1,fun k hk hk2=>?_⟩
     by_cases ek:k=m
     ·subst ek;omega
     ·exact h2 k (by omega) hk2
  ·rw[if_neg hg]
   rcases ih with ⟨h1,k,h2,h3,h4⟩|⟨h1,h2⟩
   ·exact .inl ⟨h1,k,by omega,h3,h4⟩
   ·refine .inr ⟨h1,fun k hk hk2=>?_⟩
    by_cases ek:k=m
    ·subst ek;exact absurd hk2 hg
    ·exact h2 k (by omega) hk2
theorem ziz (path:List Int) (gone v:Int) {o:List Int} (ho:o.length=100):∀ m,nth (zeV path gone v m o) 0=nth o 0
 |0=>rfl
 |m+1=>by
  rw[zeV]
  have ih:=ziz path gone v ho m
  split
  ·unfold put1
   split
   ·rename_i hr
    rw[za7 _ _ _ _ (by rw[zbX,ho];omega),if_neg (by omega)]
    exact ih
   ·exact ih
  ·exact ih
theorem zp7 {n m:Nat} (h:n<m):nth (List.replicate m (0:Int)) n=0:=by
 rw[zaK (by simpa using h),List.getElem_replicate]
theorem ziA (p:Pln) (s:State):∀ i,nth (zhc p s i) 0=0
 |0=>zp7 (by omega)
 |i+1=>by
  rw[zhc]
  split
  ·exact ziA p s i
  ·rw[ziz _ _ _ (by rw[zbX];exact zcy p s i),ziz _ _ _ (zcy p s i)];exact ziA p s i
theorem mem_at {l:List Int} {x:Int}:x∈l↔∃ k,k<l.length∧nth l k=x:=by
 constructor
 ·intro h
  obtain ⟨k,hk,e⟩:=List.getElem_of_mem h
  exact ⟨k,hk,by rw[zaK hk];exact e⟩
 ·rintro ⟨k,hk,rfl⟩
  exact zad hk
theorem zoP {l:List Int} {g:Nat} {x:Int}:x∈l.drop g↔∃ k,k<l.length∧g≤k∧nth l k=x:=by
 constructor
 ·intro h
  obtain ⟨k,hk,e⟩:=List.getElem_of_mem h
  rw[List.length_drop]at hk
  rw[List.getElem_drop]at e
  exact ⟨g+k,by omega,by omega,by rw[zaK (by omega)];exact e⟩
 ·rintro ⟨k,hk,hg,rfl⟩
  have h9:=List.getElem_mem (l:=l.drop g) (n:=k-g) (by rw[List.length_drop];omega)
  rw[List.getElem_drop]at h9
  rw[zaK hk]
  have e:g+(k-g)=k:=by omega
  simpa [e] using h9
theorem zn3 {p:Pln} {s:State} (h:zac p s=0) {n:Nat} (h0:0<n) (hn:n<100):∀ i,i≤s.locks.length →
  (nth (zhc p s i) n=0∧∀ j,j<i→(n:Int)∉zgd p s j)∨∃ j,j<i∧(n:Int)∈zgd p s j∧nth (zhc p s i) n=(nth s.locks j).id
 |0,_=>.inl ⟨zp7 (by omega),fun j hj=>absurd hj (Nat.not_lt_zero _)⟩
 |i+1,hi=>by
  have ih:=zn3 h h0 hn i (by omega)
  have hpa:=(zab h).2.1
  have hpl:=zag hpa
  have hri:i<p.routes.length:=by omega
  have hwp:=zbg ((zaU (zab h).1).2.1 _ (zad hri))
  have hgn:=zdI (zae h) (zad hri) (zbR hpa (show i<s.locks.length by omega))
  have hup:∀ {P:Nat→Prop},(∃ j,j<i∧P j)→∃ j,j<i+1∧P j:=fun ⟨j,hj,e⟩=>⟨j,by omega,e⟩
  rw[zhc]
  by_cases hp0:(nth s.locks i).phase=0
  ·rw[if_pos hp0]
   have hd0:zgd p s i=[]:=by unfold zgd zbk;rw[if_pos hp0]
   rcases ih with ⟨h1,h2⟩|h1
   ·refine .inl ⟨h1,fun j hj=>?_⟩
    by_cases e:j=i
    ·subst e;rw[hd0];exact List.not_mem_nil
    ·exact h2 j (by omega)
   ·exact .inr (hup h1)
  ·rw[if_neg hp0]
   have hd1:∀ x:Int,x∈zgd p s i↔(∃ k,k<(nth p.routes i).path.length∧(nth s.locks i).gone.toNat≤k∧nth (nth p.routes i).path k=x)∨∃ k,k<(nth p.routes i).over.length∧nth (nth p.routes i).over k=x:=fun x=>by
    unfold zgd zbk
    rw[if_neg hp0,hwp.1,hwp.2.1,List.mem_append,zoP,mem_at]
   rcases zkE (nth p.routes i).over 0 (nth s.locks i).id h0 hn (o:=zeV (nth p.routes i).path (nth s.locks i).gone (nth s.locks i).id (nth p.routes i).path.length (zhc p s i)) (by rw[zbX];exact zcy p s i) (nth p.routes i).over.length with ⟨e1,k,hk,_,ek⟩|⟨e1,hno1⟩
   ·exact .inr ⟨i,by omega,(hd1 _).2 (.inr ⟨k,hk,ek⟩),e1⟩
   ·rw[e1]
    rcases zkE (nth p.routes i).path (nth s.locks i).gone (nth s.locks i).id h0 hn (zcy p s i) (nth p.routes i).path.length with ⟨e2,k,hk,hk2,ek⟩|⟨e2,hno2⟩
    ·exact .inr ⟨i,by omega,(hd1 _).2 (.inl ⟨k,hk,by omega,ek⟩),e2⟩
    ·rw[e2]
     rcases ih with ⟨h1,h2⟩|h1
     ·refine .inl ⟨h1,fun j hj=>?_⟩
      by_cases e:j=i
      ·subst e
       intro hm
       rcases (hd1 _).1 hm with ⟨k,hk,hk2,ek⟩|⟨k,hk,ek⟩
       ·exact hno2 k hk (by omega) ek
       ·exact hno1 k hk (by omega) ek
      ·exact h2 j (by omega)
     ·exact .inr (hup h1)
theorem hd_pos {p:Pln} {s:State} (h:zac p s=0) {i:Nat} (hi:i<s.locks.length):(0:Int)∉zgd p s i:=by
 intro hm
 have hpa:=(zab h).2.1
 have hpl:=zag hpa
 have hri:i<p.routes.length:=by omega
 have hwp:=zbg ((zaU (zab h).1).2.1 _ (zad hri))
 unfold zgd zbk at hm
 split at hm
 ·cases hm
 ·rw[hwp.1,hwp.2.1]at hm
  have hm2:(0:Int)∈(nth p.routes i).path++(nth p.routes i).over:=by
   rcases List.mem_append.1 hm with hm|hm
   ·exact List.mem_append.2 (.inl (List.mem_of_mem_drop hm))
   ·exact List.mem_append.2 (.inr hm)
  obtain ⟨q,hq,e⟩:=(zbU (zae h) (zad hri)).1 0 hm2
  have:=zcH (zae h) hq
  omega
theorem zkD {p:Pln} {s:State} (h:zac p s=0) {n:Nat} (hn:n<100):nth (zhc p s s.locks.length) n=nth (zav p s).1 n:=by
 have hn0:(0:Int)≤n:=by omega
 have key:(nth (zhc p s s.locks.length) n=0∧∀ j,j<s.locks.length→(n:Int)∉zgd p s j)∨∃ j,j<s.locks.length∧(n:Int)∈zgd p s j∧nth (zhc p s s.locks.length) n=(nth s.locks j).id:=by
  by_cases h0:n=0
  ·subst h0
   exact .inl ⟨ziA p s _,fun j hj=>hd_pos h hj⟩
  ·exact zn3 h (by omega) hn _ (Nat.le_refl _)
 rcases key with ⟨h1,h2⟩|⟨j,hj,h1,h2⟩
 ·rw[h1]
  rcases zgH h hn0 with ⟨z,hz,hm,e2⟩|⟨_,e2⟩
  ·obtain ⟨i,hi,rfl⟩:=zfj h hz
   exact absurd hm (h2 i hi)
  ·rw[Int.toNat_natCast]at e2;exact e2.symm
 ·rw[h2]
  have:=(zhz h hj hn0).2 h1
  rw[Int.toNat_natCast]at this
  exact this.symm
end Go.Lev
namespace Go.Lev
open Go.Eng
set_option maxRecDepth 10000
set_option maxHeartbeats 4000000
variable {P:Program} {inv:Nat→Option Nat} {w0:World} {M:Nat→Prop}
theorem zqI (hH:HasAll P inv) (s:State) (hs:s.tracks.length≤1000000000) (n:Int):PC P inv 383 [.agg s.c,.n n] (·=.i .u8 (zbB s n)):=by
 unfold zbB
 refine PC.fn hH cd383 fun w0 M Q hM hE hQ hR=>?_;dsimp only[cd383,qm,ql,qf,qi,qb,qc,qp,qv,qN,qT,qF,qt]at hQ ⊢
 (repeat' first|refine zaa [0,1,2,4,5,10,20] fun K hK=>?_|(refine hK.go ?_;clear hK K)|with_reducible exact wT|refine wA ?_|(refine wB (fun h=>?_) (fun h=>?_)<;>first|exact wN h|subst (h:(_:Bool)=_)|skip)|(refine wQ ?_;clear hQ hR hE hM)|fail)
 refine zap (ι:=Nat) [1,2,4,5] (fun z=>[(5,.n z)]) (fun _=>[]) (fun z=>z) (s.tracks.length) (fun z=>((s.tracks.drop z).find? (fun t=>decide (t.id=n))=s.tracks.find? (fun t=>decide (t.id=n)))) (0) ?_;rintro k ⟨hk,hg⟩;(try dsimp only at hk hg ⊢);rcases Nat.lt_or_ge k s.tracks.length with hlt|hge
 ·rw[zaj hlt,List.find?_cons]at hg
  by_cases h1:(nth s.tracks k).id=n
  ·rw[decide_eq_true h1]at hg
   have h2:decide ((nth s.tracks k).id=n)=true:=decide_eq_true h1
   (have hX:=@h2;(repeat' first|refine zaa [0,1,2,4,5,10,20] fun K hK=>?_|(refine hK.go ?_;clear hK K)|with_reducible exact wT|refine wA ?_|(refine wB (fun h=>?_) (fun h=>?_)<;>first|exact wN h|subst (h:(_:Bool)=_)|skip)|(refine wQ ?_;clear hQ hR hE hM)|fail);all_goals clear hX)
   all_goals first|(exfalso;contradiction)|(rw[←hg];done)|(rw[←hg];rfl)|trace_state
  ·rw[decide_eq_false h1]at hg
   have h2:decide ((nth s.tracks k).id=n)=false:=decide_eq_false h1
   (have hX:=@h2;(repeat' first|refine zaa [0,1,2,4,5,10,20] fun K hK=>?_|(refine hK.go ?_;clear hK K)|with_reducible exact wT|refine wA ?_|(refine wB (fun h=>?_) (fun h=>?_)<;>first|exact wN h|subst (h:(_:Bool)=_)|skip)|(refine wQ ?_;clear hQ hR hE hM)|fail);all_goals clear hX)
   all_goals first|(exfalso;contradiction)|exact ⟨k+1,by omega,⟨by omega,hg⟩,by omega⟩|trace_state
 ·rw[List.drop_eq_nil_of_le hge,List.find?_nil]at hg
  (repeat' first|refine zaa [0,1,2,4,5,10,20] fun K hK=>?_|(refine hK.go ?_;clear hK K)|with_reducible exact wT|refine wA ?_|(refine wB (fun h=>?_) (fun h=>?_)<;>first|exact wN h|subst (h:(_:Bool)=_)|skip)|(refine wQ ?_;clear hQ hR hE hM)|fail)
  all_goals first|(rw[←hg];done)|(rw[←hg];rfl)|trace_state
theorem zqO {l:List Int} {k:Nat} (h:k<l.length) (v:Int):(l.map zdl).flatten.set k (.n v)=((l.set k v).map zdl).flatten:=by
 have:=zbo (c:=zdl) (l:=l) (k:=k) (i:=0) h (by omega) (.n v) v rfl
 simpa using this
theorem zqW {l:List Int} {n:Nat} (h:l.length=n):zef 4 [(2,.cells (l.map zdl).flatten true)] (.sm 2 n 0 n 1)=.sl 1 (l.map zdl):=by
 have fc:zbS 1 n (l.map zdl).flatten=l.map zdl:=by
  have:=zcr (c:=zdl) l
  rw[h]at this
  exact this
 have fl:(l.map zdl).flatten.length=n:=by
  rw[←h]
  clear fc h
  induction l with
  |nil=>rfl
  |cons x l ih=>rw[List.map_cons,List.flatten_cons,List.length_append,ih,List.length_cons];simp only[zdl,List.length_cons,List.length_nil];omega
 simp -dsimp -implicitDefEqProofs (disch:=omega) only[go_sem,reduceIte,↓reduceIte,Nat.reduceEqDiff,Nat.reduceLT,Nat.reduceLeDiff,Nat.reduceAdd,Nat.reduceSub,Nat.reduceMul,Int.reduceToNat,Int.reduceLT,Int.reduceLE,Int.reduceEq,Int.reduceNeg,Int.reduceNe,reduceCtorEq,fc,fl]
theorem zoX (hH:HasAll P inv) (p:Pln) (hp:Sm p) (s:State) (hs:SmS s) (hst:zac p s=0):PO P inv 384 [.agg p.c,.agg s.c] (.sm 2 100 0 100 1) [(2,.cells ((zhc p s s.locks.length).map zdl).flatten true)]:=by
 have hpa:=(zab hst).2.1
 have hpl:=zag hpa
 have hrl:=hp.rte
 have hl3:=hs.2.2
 have hz:(List.replicate 100 [AV.i .i64 0]).flatten=((zhc p s 0).map zdl).flatten:=by
  unfold zhc
  rw[List.map_replicate]
  rfl
 have hsc:∀ i,i<p.routes.length→∀ x∈(nth p.routes i).path++(nth p.routes i).over,1≤x∧x≤99:=fun i hi x hx=>by
  obtain ⟨q,hq,e⟩:=(zbU (zae hst) (zad hi)).1 x hx
  have:=zcH (zae hst) hq
  omega
 have hlen:∀ i,i<p.routes.length→(nth p.routes i).path.length≤1000∧(nth p.routes i).over.length≤1000:=fun i hi=>by
  have:=zbI (zae hst) (zad hi)
  omega
 have hgn:∀ i,i<s.locks.length→0≤(nth s.locks i).gone:=fun i hi=>(zdI (zae hst) (zad (show i<p.routes.length by omega)) (zbR hpa hi)).1
 have hfl:=fun i=>zcy p s i
 clear hst hpa
 refine PO.fn hH cd384 fun w0 M Q hM hE hQ hR=>?_;dsimp only[cd384,qm,ql,qf,qi,qb,qc,qp,qv,qN,qT,qF,qt]at hQ ⊢
 (have hX:=@hz;(repeat' first|refine zaa [0,1,2,3,4,5,6,7,8,9,10,11,24,34,43,66,80,97] fun K hK=>?_|(refine hK.go ?_;clear hK K)|with_reducible exact wT|refine wA ?_|(refine wB (fun h=>?_) (fun h=>?_)<;>first|exact wN h|subst (h:(_:Bool)=_)|skip)|(refine wR ?_;clear hQ hR hE hM)|fail);all_goals clear hX)
 refine zap (ι:=Nat) [2,3,4,5,6] (fun z=>[(6,.n z)]) (fun z=>[(2,.cells ((zhc p s z).map zdl).flatten true)]) (fun z=>z) (s.locks.length) (fun _=>True) (0) ?_;rintro i ⟨hk,-⟩;(try dsimp only at hk ⊢);rcases Nat.lt_or_ge i s.locks.length with hlt|hge
 ·have hi:i<s.locks.length:=by assumption
  have hir:i<p.routes.length:=by omega
  have hO:=hfl i
  have hn1:=hlen i hir
  have hs1:=hsc i hir
  have hg1:=hgn i hi
  have eF:zhc p s (i+1)=if (nth s.locks i).phase=0 then zhc p s i else zeV (nth p.routes i).over 0 (nth s.locks i).id (nth p.routes i).over.length (zeV (nth p.routes i).path (nth s.locks i).gone (nth s.locks i).id (nth p.routes i).path.length (zhc p s i)):=rfl
  generalize zhc p s i=O at *
  clear hfl hsc hlen hgn hz
  by_cases hp0:(nth s.locks i).phase=0
  ·rw[if_pos hp0]at eF
   have zd:=decide_eq_true hp0
   (have hX:=@zd;(repeat' first|refine zaa [0,1,2,3,4,5,6,7,8,9,10,11,24,34,43,66,80,97] fun K hK=>?_|(refine hK.go ?_;clear hK K)|with_reducible exact wT|refine wA ?_|(refine wB (fun h=>?_) (fun h=>?_)<;>first|exact wN h|subst (h:(_:Bool)=_)|skip)|(refine wR ?_;clear hQ hR hE hM)|fail);all_goals clear hX)
   all_goals first|(exfalso;contradiction)|(exfalso;omega)|exact ⟨i+1,by omega,by omega,by omega,by rw[eF]⟩|trace_state
  ·rw[if_neg hp0]at eF
   have zd:=decide_eq_false hp0
   (have hX:=@zd;(repeat' first|refine zaa [0,1,2,3,4,5,6,7,8,9,10,11,24,34,43,66,80,97] fun K hK=>?_|(refine hK.go ?_;clear hK K)|with_reducible exact wT|refine wA ?_|(refine wB (fun h=>?_) (fun h=>?_)<;>first|exact wN h|subst (h:(_:Bool)=_)|skip)|(refine wR ?_;clear hQ hR hE hM)|fail);all_goals clear hX)
   all_goals first|(exfalso;contradiction)|(exfalso;omega)|skip
   refine zap (ι:=Nat) [2,3,4,5,6,7,8] (fun z=>[(8,.n z)]) (fun z=>[(2,.cells ((zeV (nth p.routes i).path (nth s.locks i).gone (nth s.locks i).id z O).map zdl).flatten true)]) (fun z=>z) ((nth p.routes i).path.length) (fun _=>True) (0) ?_;rintro k ⟨hk,-⟩;(try dsimp only at hk ⊢);rcases Nat.lt_or_ge k (nth p.routes i).path.length with hlt|hge
   ·have hk9:k<(nth p.routes i).path.length:=by assumption
    have hr1:=hs1 _ (List.mem_append.2 (.inl (zad hk9)))
    have x0:=zca hk9
    have hU:=zbX (nth p.routes i).path (nth s.locks i).gone (nth s.locks i).id k O
    have ek:zeV (nth p.routes i).path (nth s.locks i).gone (nth s.locks i).id (k+1) O=if (nth s.locks i).gone≤(k:Int) then put1 (zeV (nth p.routes i).path (nth s.locks i).gone (nth s.locks i).id k O) (nth (nth p.routes i).path k) (nth s.locks i).id else zeV (nth p.routes i).path (nth s.locks i).gone (nth s.locks i).id k O:=rfl
    generalize zeV (nth p.routes i).path (nth s.locks i).gone (nth s.locks i).id k O=U at *
    have x1:=zqO (l:=U) (k:=(nth (nth p.routes i).path k).toNat) (by omega) (nth s.locks i).id
    by_cases hgk:(nth s.locks i).gone≤(k:Int)
    ·rw[if_pos hgk,put1,if_pos (by omega)]at ek
     rw[←ek]at x1
     (have hX:=zA @x0 @x1;(repeat' first|refine zaa [0,1,2,3,4,5,6,7,8,9,10,11,24,34,43,66,80,97] fun K hK=>?_|(refine hK.go ?_;clear hK K)|with_reducible exact wT|refine wA ?_|(refine wB (fun h=>?_) (fun h=>?_)<;>first|exact wN h|subst (h:(_:Bool)=_)|skip)|(refine wR ?_;clear hQ hR hE hM)|fail);all_goals clear hX)
     all_goals first|(exfalso;contradiction)|(exfalso;omega)|exact ⟨k+1,by omega,by omega,by omega,rfl⟩|trace_state
    ·rw[if_neg hgk]at ek
     (have hX:=@x0;(repeat' first|refine zaa [0,1,2,3,4,5,6,7,8,9,10,11,24,34,43,66,80,97] fun K hK=>?_|(refine hK.go ?_;clear hK K)|with_reducible exact wT|refine wA ?_|(refine wB (fun h=>?_) (fun h=>?_)<;>first|exact wN h|subst (h:(_:Bool)=_)|skip)|(refine wR ?_;clear hQ hR hE hM)|fail);all_goals clear hX)
     all_goals first|(exfalso;contradiction)|(exfalso;omega)|exact ⟨k+1,by omega,by omega,by omega,by rw[ek]⟩|trace_state
   ·obtain rfl:k=(nth p.routes i).path.length:=by omega
    have hU:=zbX (nth p.routes i).path (nth s.locks i).gone (nth s.locks i).id (nth p.routes i).path.length O
    generalize zeV (nth p.routes i).path (nth s.locks i).gone (nth s.locks i).id (nth p.routes i).path.length O=O2 at *
    (repeat' first|refine zaa [0,1,2,3,4,5,6,7,8,9,10,11,24,34,43,66,80,97] fun K hK=>?_|(refine hK.go ?_;clear hK K)|with_reducible exact wT|refine wA ?_|(refine wB (fun h=>?_) (fun h=>?_)<;>first|exact wN h|subst (h:(_:Bool)=_)|skip)|(refine wR ?_;clear hQ hR hE hM)|fail)
    refine zap (ι:=Nat) [2,3,4,5,6,7,10] (fun z=>[(10,.n z)]) (fun z=>[(2,.cells ((zeV (nth p.routes i).over 0 (nth s.locks i).id z O2).map zdl).flatten true)]) (fun z=>z) ((nth p.routes i).over.length) (fun _=>True) (0) ?_;rintro m ⟨hk,-⟩;(try dsimp only at hk ⊢);rcases Nat.lt_or_ge m (nth p.routes i).over.length with hlt|hge
    ·have hk9:m<(nth p.routes i).over.length:=by assumption
     have hr1:=hs1 _ (List.mem_append.2 (.inr (zad hk9)))
     have x0:=zca hk9
     have hV:=zbX (nth p.routes i).over 0 (nth s.locks i).id m O2
     have ek:zeV (nth p.routes i).over 0 (nth s.locks i).id (m+1) O2=if (0:Int)≤(m:Int) then put1 (zeV (nth p.routes i).over 0 (nth s.locks i).id m O2) (nth (nth p.routes i).over m) (nth s.locks i).id else zeV (nth p.routes i).over 0 (nth s.locks i).id m O2:=rfl
     generalize zeV (nth p.routes i).over 0 (nth s.locks i).id m O2=U at *
     have x1:=zqO (l:=U) (k:=(nth (nth p.routes i).over m).toNat) (by omega) (nth s.locks i).id
     rw[if_pos (by omega),put1,if_pos (by omega)]at ek
     rw[←ek]at x1
     (have hX:=zA @x0 @x1;(repeat' first|refine zaa [0,1,2,3,4,5,6,7,8,9,10,11,24,34,43,66,80,97] fun K hK=>?_|(refine hK.go ?_;clear hK K)|with_reducible exact wT|refine wA ?_|(refine wB (fun h=>?_) (fun h=>?_)<;>first|exact wN h|subst (h:(_:Bool)=_)|skip)|(refine wR ?_;clear hQ hR hE hM)|fail);all_goals clear hX)
     all_goals first|(exfalso;contradiction)|(exfalso;omega)|exact ⟨m+1,by omega,by omega,by omega,rfl⟩|trace_state
    ·obtain rfl:m=(nth p.routes i).over.length:=by omega
     rw[←eF]
     (repeat' first|refine zaa [0,1,2,3,4,5,6,7,8,9,10,11,24,34,43,66,80,97] fun K hK=>?_|(refine hK.go ?_;clear hK K)|with_reducible exact wT|refine wA ?_|(refine wB (fun h=>?_) (fun h=>?_)<;>first|exact wN h|subst (h:(_:Bool)=_)|skip)|(refine wR ?_;clear hQ hR hE hM)|fail)
     all_goals first|(exfalso;contradiction)|(exfalso;omega)|exact ⟨i+1,by omega,by omega,by omega,rfl⟩|trace_state
 ·obtain rfl:i=s.locks.length:=by omega
  have hO:=hfl s.locks.length
  generalize zhc p s s.locks.length=O at *
  clear hfl hsc hlen hgn hz
  (repeat' first|refine zaa [0,1,2,3,4,5,6,7,8,9,10,11,24,34,43,66,80,97] fun K hK=>?_|(refine hK.go ?_;clear hK K)|with_reducible exact wT|refine wA ?_|(refine wB (fun h=>?_) (fun h=>?_)<;>first|exact wN h|subst (h:(_:Bool)=_)|skip)|(refine wR ?_;clear hQ hR hE hM)|fail)
  all_goals first|(exfalso;contradiction)|(exfalso;omega)|skip
  all_goals (left;constructor)
  all_goals (refine no_implicit_lambda% (st ?_);try with_reducible exact wT)
theorem zjz (hH:HasAll P inv) (p:Pln) (hp:Sm p) (s:State) (hs:SmS s) (hst:zac p s=0):PC P inv 384 [.agg p.c,.agg s.c] (·=.sl 1 ((zhc p s s.locks.length).map zdl)):=by
 have:=(zoX hH p hp s hs hst).pc
 rw[zqW (zcy p s _)]at this
 exact this
end Go.Lev
namespace Go.Lev
open Go.Eng
set_option maxRecDepth 10000
set_option maxHeartbeats 4000000
variable {P:Program} {inv:Nat→Option Nat} {w0:World} {M:Nat→Prop}
theorem zp1 (hH:HasAll P inv) (hI:HasIds P inv) (p:Pln) (hp:Sm p) (X:State) (sX:SmS X) (h8:∀ t∈X.tracks,0≤t.is) (hX:zac p X=0) (a:ActD) (ha:0≤a.kind∧a.kind≤255) :
  (¬doC p X a=0∧PC P inv 207 [.agg p.c,.agg X.c,.agg a.c] (·=.tup [.agg State.z.c,.n (doC p X a)])) ∨
  ∃ (Y:State) (HX HY:List Int),PC P inv 207 [.agg p.c,.agg X.c,.agg a.c] (·=.tup [.agg Y.c,.n 0])∧SmS Y∧(∀ t∈Y.tracks,0≤t.is)∧zac p Y=0∧PC P inv 179 [.agg p.c,.agg Y.c] (·=.tup [.agg Y.c,.n 0])∧PC P inv 69 [.agg p.c,.agg Y.c] (·=.n 0) ∧
   PC P inv 11 [.agg Y.c,.agg Y.c] (·=.b true)∧(Y.switches.length=X.switches.length∧Y.locks.length=X.locks.length∧X.switches.length=p.points.length∧HX.length=100∧HY.length=100) ∧
   (∀ k,k<X.switches.length→¬(nth Y.switches k).call=(nth X.switches k).call→PC P inv 77 [.agg p.c,.agg X.c,.n (nth X.switches k).id] (·=.tup [.n 0,.n 0])∧PC P inv 383 [.agg X.c,.n (nth p.points k).sec] (·=.i .u8 0)) ∧
   (∀ k,k<X.locks.length→(nth Y.locks k).phase=1→¬(nth X.locks k).phase=1→(nth X.locks k).phase=0∧a.kind=5∧a.id=(nth X.locks k).id) ∧
   PC P inv 384 [.agg p.c,.agg X.c] (·=.sl 1 (HX.map zdl))∧PC P inv 384 [.agg p.c,.agg Y.c] (·=.sl 1 (HY.map zdl)) ∧
   (∀ n:Nat,n<100→¬nth HY n=nth HX n→¬nth HY n=0→nth HX n=0∧a.kind=5∧a.id=nth HY n∧PC P inv 383 [.agg X.c,.n n] (·=.i .u8 0)):=by
 have c1:=zrj hH hI p hp X sX h8 a ha
 have hl1:=sX.1
 by_cases he:doC p X a=0
 ·right
  obtain ⟨u,g,hu⟩:=zjY he
  have sY:SmS (zax p u):=by rw[←hu];exact doR_sm sX
  have h9:∀ t∈(zax p u).tracks,0≤t.is:=by rw[←hu];exact doR_u8 h8 he
  have hY:=zcF g.code
  have c2:=zdc hH hI p hp _ sY
  rw[hY,show zcS p (zax p u)=zax p u by unfold zcS;rw[if_pos hY,zfz g.code]]at c2
  have c3:=zaT hH hI p hp _ sY
  rw[hY]at c3
  have hsl:=zjZ g
  have hpl:=zag (zab hX).2.1
  have ho:=zae hX
  have hpa:=(zab hX).2.1
  rw[he,hu]at c1
  refine ⟨zax p u,zhc p X X.locks.length,zhc p (zax p u) (zax p u).locks.length,c1,sY,h9,hY,c2,c3,zhu hH sY rfl,⟨hsl.2.1,by rw[zcw];exact hsl.1,by omega,zcy p _ _,zcy p _ _⟩,fun k hk hne=>?_,fun k hk h1 h0=>step_set g hk h1 h0,
   zjz hH p hp X sX hX,zjz hH p hp _ sY hY,fun n hn hne h0=>?_⟩
  ·obtain ⟨q1,q2⟩:=zpA g hk hne
   have d1:=zoi hH hI p hp X sX (nth X.switches k).id
   have hk2:k<p.points.length:=by omega
   have hip:zdY p (nth X.switches k).id=true:=zlE ⟨nth p.points k,zad hk2,(zjX hpa hk).symm⟩
   have e:zjN p X (nth X.switches k).id=(0,0):=by
    unfold zjN
    rw[if_pos hX,if_pos hip,q1]
   rw[e]at d1
   have d2:=zqI hH X (by omega) (nth p.points k).sec
   rw[q2]at d2
   exact ⟨d1,d2⟩
  ·rw[zkD hX hn,zkD hY hn]at hne ⊢
   rw[zkD hY hn]at h0
   obtain ⟨q1,q2,q3,q4⟩:=zpz g hne h0
   have d2:=zqI hH X (by omega) (n:Int)
   rw[q4]at d2
   exact ⟨q1,q2,q3,d2⟩
 ·left
  refine ⟨he, ?_⟩
  have:doR p X a=State.z:=by
   unfold doC at he
   unfold doR
   rw[if_pos hX]at he ⊢
   by_cases hac:zge p X a=0
   ·exact absurd (act_code hX hac) (by rw[if_pos hac]at he;exact he)
   ·rw[if_neg hac]
  rw[this]at c1
  exact c1
theorem coreSafe_pc (hH:HasAll P inv) (hI:HasIds P inv) (p:Pln) (hp:Pln.ok p) (s:State) (hs:s.ok) (l:List ActD) (ha:∀ a∈l,0≤a.kind∧a.kind≤255):PC P inv 374 [.agg p.c,.agg s.c,.sl 4 (l.map ActD.c)] (·=.b true):=by
 have c0:=zgS hH hI
 have c1:=zbK hH p
 have c2:=zdb hH s
 cases g1:zet p with
 |true =>
  rw[g1]at c1
  refine PC.fn hH cd374 fun w0 M Q hM hE hQ hR=>?_;dsimp only[cd374,qm,ql,qf,qi,qb,qc,qp,qv,qN,qT,qF,qt]at hQ ⊢
  (repeat' first|refine zaa [0,1,2,3,4,6,7,8,9,10,11,12,13,14,15,16,17,18,19,41,46,60,70,90,95,110,120,137,139,144,193,199,209,257,260] fun K hK=>?_|(refine hK.go ?_;clear hK K)|with_reducible exact wT|refine wA ?_|(refine wB (fun h=>?_) (fun h=>?_)<;>first|exact wN h|subst (h:(_:Bool)=_)|skip)|(refine wQ ?_;clear hQ hR hE hM)|refine wC c0 ?_|refine wC c1 ?_|fail)
 |false =>
  rw[g1]at c1
  cases g2:zfS s with
  |true =>
   rw[g2]at c2
   refine PC.fn hH cd374 fun w0 M Q hM hE hQ hR=>?_;dsimp only[cd374,qm,ql,qf,qi,qb,qc,qp,qv,qN,qT,qF,qt]at hQ ⊢
   (repeat' first|refine zaa [0,1,2,3,4,6,7,8,9,10,11,12,13,14,15,16,17,18,19,41,46,60,70,90,95,110,120,137,139,144,193,199,209,257,260] fun K hK=>?_|(refine hK.go ?_;clear hK K)|with_reducible exact wT|refine wA ?_|(refine wB (fun h=>?_) (fun h=>?_)<;>first|exact wN h|subst (h:(_:Bool)=_)|skip)|(refine wQ ?_;clear hQ hR hE hM)|refine wC c0 ?_|refine wC c1 ?_|refine wC c2 ?_|fail)
  |false =>
   rw[g2]at c2
   have sp:=zmr hp g1
   have ss:=zhO g2
   have h8:=tr_u8 hs
   have c3:=zaT hH hI p sp s ss
   by_cases hn:l.length≤30∧zac p s=0
   ·obtain ⟨hn,hst⟩:=hn
    rw[hst]at c3
    have hsp:=sp.pts
    have hstep:=fun (X:State) (sX:SmS X) (hX2:∀ t∈X.tracks,0≤t.is) (hX3:zac p X=0) (i:Nat) (hi:i<l.length)=>zp1 hH hI p sp X sX hX2 hX3 (nth l i) (ha _ (zad hi))
    have g0:SafeI p s:=⟨ss,h8,hst⟩
    clear ha hs
    refine PC.fn hH cd374 fun w0 M Q hM hE hQ hR=>?_;dsimp only[cd374,qm,ql,qf,qi,qb,qc,qp,qv,qN,qT,qF,qt]at hQ ⊢
    (repeat' first|refine zaa [0,1,2,3,4,6,7,8,9,10,11,12,13,14,15,16,17,18,19,41,46,60,70,90,95,110,120,137,139,144,193,199,209,257,260] fun K hK=>?_|(refine hK.go ?_;clear hK K)|with_reducible exact wT|refine wA ?_|(refine wB (fun h=>?_) (fun h=>?_)<;>first|exact wN h|subst (h:(_:Bool)=_)|skip)|(refine wQ ?_;clear hQ hR hE hM)|refine wC c0 ?_|refine wC c1 ?_|refine wC c2 ?_|refine wC c3 ?_|fail)
    all_goals first|(exfalso;contradiction)|(exfalso;omega)|skip
    refine zap (ι:=Nat×State) [2,3,4,6,7,8] (fun z=>[(8,.n z.1)]) (fun z=>[(1,.cells z.2.c true)]) (fun z=>z.1) (l.length) (fun z=>(SafeI p z.2)) (0,s) ?_;rintro ⟨i,X⟩ ⟨hk,gI⟩;(try dsimp only at hk gI ⊢);rcases Nat.lt_or_ge i l.length with hlt|hge
    ·obtain ⟨hX1,hX2,hX3⟩:=gI
     have hi9:i<l.length:=by assumption
     have hXl1:=hX1.2.1
     have hXl2:=hX1.2.2
     rcases hstep X hX1 hX2 hX3 i hi9 with ⟨he,d1⟩|⟨Y,HX,HY,d1,sY,h9,hY,d2,d3,d4,⟨e1,e2,e3,e4,e5⟩,dA,dS,d7,d8,dC⟩
     ·generalize doC p X (nth l i)=e at *
      clear hstep
      unfold State.z at d1
      (repeat' first|refine zaa [0,1,2,3,4,6,7,8,9,10,11,12,13,14,15,16,17,18,19,41,46,60,70,90,95,110,120,137,139,144,193,199,209,257,260] fun K hK=>?_|(refine hK.go ?_;clear hK K)|with_reducible exact wT|refine wA ?_|(refine wB (fun h=>?_) (fun h=>?_)<;>first|exact wN h|subst (h:(_:Bool)=_)|skip)|(refine wQ ?_;clear hQ hR hE hM)|refine wC d1 ?_|refine wU d1 ?_|fail)
      all_goals first|(exfalso;contradiction)|(exfalso;omega)|exact ⟨(i+1,X),by dsimp only;omega,⟨by dsimp only;omega,⟨hX1,hX2,hX3⟩⟩,by dsimp only;omega,rfl⟩|trace_state
     ·clear hstep
      generalize hA:nth l i=A at *
      (have hX:=@hA;(repeat' first|refine zaa [0,1,2,3,4,6,7,8,9,10,11,12,13,14,15,16,17,18,19,41,46,60,70,90,95,110,120,137,139,144,193,199,209,257,260] fun K hK=>?_|(refine hK.go ?_;clear hK K)|with_reducible exact wT|refine wA ?_|(refine wB (fun h=>?_) (fun h=>?_)<;>first|exact wN h|subst (h:(_:Bool)=_)|skip)|(refine wQ ?_;clear hQ hR hE hM)|refine wC d1 ?_|refine wU d1 ?_|refine wC d2 ?_|refine wC d3 ?_|refine wC d4 ?_|fail);all_goals clear hX)
      all_goals first|(exfalso;contradiction)|(exfalso;omega)|skip
      refine zap (ι:=Nat) [2,3,4,6,7,8,9,13] (fun z=>[(13,.n z)]) (fun _=>[]) (fun z=>z) (X.switches.length) (fun _=>True) (0) ?_;rintro k ⟨hk,-⟩;(try dsimp only at hk ⊢);rcases Nat.lt_or_ge k X.switches.length with hlt|hge
      ·have hk9:k<X.switches.length:=by assumption
       by_cases hc:(nth Y.switches k).call=(nth X.switches k).call
       ·have z:=decide_eq_true hc
        (have hX:=@z;(repeat' first|refine zaa [0,1,2,3,4,6,7,8,9,10,11,12,13,14,15,16,17,18,19,41,46,60,70,90,95,110,120,137,139,144,193,199,209,257,260] fun K hK=>?_|(refine hK.go ?_;clear hK K)|with_reducible exact wT|refine wA ?_|(refine wB (fun h=>?_) (fun h=>?_)<;>first|exact wN h|subst (h:(_:Bool)=_)|skip)|(refine wQ ?_;clear hQ hR hE hM)|fail);all_goals clear hX)
        all_goals first|(exfalso;contradiction)|(exfalso;omega)|exact ⟨k+1,by omega,by omega,by omega⟩|trace_state
       ·have z:=decide_eq_false hc
        obtain ⟨d5,d6⟩:=dA k hk9 hc
        (have hX:=@z;(repeat' first|refine zaa [0,1,2,3,4,6,7,8,9,10,11,12,13,14,15,16,17,18,19,41,46,60,70,90,95,110,120,137,139,144,193,199,209,257,260] fun K hK=>?_|(refine hK.go ?_;clear hK K)|with_reducible exact wT|refine wA ?_|(refine wB (fun h=>?_) (fun h=>?_)<;>first|exact wN h|subst (h:(_:Bool)=_)|skip)|(refine wQ ?_;clear hQ hR hE hM)|refine wC d5 ?_|refine wU d5 ?_|refine wC d6 ?_|refine wU d6 ?_|fail);all_goals clear hX)
        all_goals first|(exfalso;contradiction)|(exfalso;omega)|exact ⟨k+1,by omega,by omega,by omega⟩|trace_state
      ·clear dA
       (repeat' first|refine zaa [0,1,2,3,4,6,7,8,9,10,11,12,13,14,15,16,17,18,19,41,46,60,70,90,95,110,120,137,139,144,193,199,209,257,260] fun K hK=>?_|(refine hK.go ?_;clear hK K)|with_reducible exact wT|refine wA ?_|(refine wB (fun h=>?_) (fun h=>?_)<;>first|exact wN h|subst (h:(_:Bool)=_)|skip)|(refine wQ ?_;clear hQ hR hE hM)|fail)
       refine zap (ι:=Nat) [2,3,4,6,7,8,9,16] (fun z=>[(16,.n z)]) (fun _=>[]) (fun z=>z) (X.locks.length) (fun _=>True) (0) ?_;rintro k ⟨hk,-⟩;(try dsimp only at hk ⊢);rcases Nat.lt_or_ge k X.locks.length with hlt|hge
       ·have hk9:k<X.locks.length:=by assumption
        by_cases h1:(nth Y.locks k).phase=1
        ·by_cases h2:(nth X.locks k).phase=1
         ·(have hX:=zA @h1 @h2;(repeat' first|refine zaa [0,1,2,3,4,6,7,8,9,10,11,12,13,14,15,16,17,18,19,41,46,60,70,90,95,110,120,137,139,144,193,199,209,257,260] fun K hK=>?_|(refine hK.go ?_;clear hK K)|with_reducible exact wT|refine wA ?_|(refine wB (fun h=>?_) (fun h=>?_)<;>first|exact wN h|subst (h:(_:Bool)=_)|skip)|(refine wQ ?_;clear hQ hR hE hM)|fail);all_goals clear hX)
          all_goals first|(exfalso;contradiction)|(exfalso;omega)|exact ⟨k+1,by omega,by omega,by omega⟩|trace_state
         ·obtain ⟨w1,w2,w3⟩:=dS k hk9 h1 h2
          (have hX:=zA @hA (zA @h1 (zA @w1 (zA @w2 @w3)));(repeat' first|refine zaa [0,1,2,3,4,6,7,8,9,10,11,12,13,14,15,16,17,18,19,41,46,60,70,90,95,110,120,137,139,144,193,199,209,257,260] fun K hK=>?_|(refine hK.go ?_;clear hK K)|with_reducible exact wT|refine wA ?_|(refine wB (fun h=>?_) (fun h=>?_)<;>first|exact wN h|subst (h:(_:Bool)=_)|skip)|(refine wQ ?_;clear hQ hR hE hM)|fail);all_goals clear hX)
          all_goals first|(exfalso;contradiction)|(exfalso;omega)|exact ⟨k+1,by omega,by omega,by omega⟩|trace_state
        ·have z:=decide_eq_false h1
         (have hX:=@z;(repeat' first|refine zaa [0,1,2,3,4,6,7,8,9,10,11,12,13,14,15,16,17,18,19,41,46,60,70,90,95,110,120,137,139,144,193,199,209,257,260] fun K hK=>?_|(refine hK.go ?_;clear hK K)|with_reducible exact wT|refine wA ?_|(refine wB (fun h=>?_) (fun h=>?_)<;>first|exact wN h|subst (h:(_:Bool)=_)|skip)|(refine wQ ?_;clear hQ hR hE hM)|fail);all_goals clear hX)
         all_goals first|(exfalso;contradiction)|(exfalso;omega)|exact ⟨k+1,by omega,by omega,by omega⟩|trace_state
       ·clear dS
        (repeat' first|refine zaa [0,1,2,3,4,6,7,8,9,10,11,12,13,14,15,16,17,18,19,41,46,60,70,90,95,110,120,137,139,144,193,199,209,257,260] fun K hK=>?_|(refine hK.go ?_;clear hK K)|with_reducible exact wT|refine wA ?_|(refine wB (fun h=>?_) (fun h=>?_)<;>first|exact wN h|subst (h:(_:Bool)=_)|skip)|(refine wQ ?_;clear hQ hR hE hM)|refine wC d7 ?_|refine wU d7 ?_|refine wC d8 ?_|refine wU d8 ?_|fail)
        refine zap (ι:=Nat) [2,3,4,6,7,8,9,17,18,19] (fun z=>[(19,.n z)]) (fun _=>[]) (fun z=>z) (100) (fun _=>True) (0) ?_;rintro k ⟨hk,-⟩;(try dsimp only at hk ⊢);rcases Nat.lt_or_ge k 100 with hlt|hge
        ·have hk9:k<100:=by assumption
         have x0:=zca (show k<HX.length by omega)
         have x1:=zca (show k<HY.length by omega)
         by_cases h1:nth HY k=nth HX k
         ·(have hX:=zA @x0 (zA @x1 @h1);(repeat' first|refine zaa [0,1,2,3,4,6,7,8,9,10,11,12,13,14,15,16,17,18,19,41,46,60,70,90,95,110,120,137,139,144,193,199,209,257,260] fun K hK=>?_|(refine hK.go ?_;clear hK K)|with_reducible exact wT|refine wA ?_|(refine wB (fun h=>?_) (fun h=>?_)<;>first|exact wN h|subst (h:(_:Bool)=_)|skip)|(refine wQ ?_;clear hQ hR hE hM)|fail);all_goals clear hX)
          all_goals first|(exfalso;contradiction)|(exfalso;omega)|exact ⟨k+1,by omega,by omega,by omega⟩|trace_state
         ·have z1:=decide_eq_false h1
          by_cases h2:nth HY k=0
          ·rw[h2]at x1 z1
           (have hX:=zA @x0 (zA @x1 @z1);(repeat' first|refine zaa [0,1,2,3,4,6,7,8,9,10,11,12,13,14,15,16,17,18,19,41,46,60,70,90,95,110,120,137,139,144,193,199,209,257,260] fun K hK=>?_|(refine hK.go ?_;clear hK K)|with_reducible exact wT|refine wA ?_|(refine wB (fun h=>?_) (fun h=>?_)<;>first|exact wN h|subst (h:(_:Bool)=_)|skip)|(refine wQ ?_;clear hQ hR hE hM)|fail);all_goals clear hX)
           all_goals first|(exfalso;contradiction)|(exfalso;omega)|exact ⟨k+1,by omega,by omega,by omega⟩|trace_state
          ·obtain ⟨w1,w2,w3,d9⟩:=dC k hk9 h1 h2
           have z2:=decide_eq_false h2
           rw[w1]at x0 z1
           (have hX:=zA @hA (zA @x0 (zA @x1 (zA @z1 (zA @z2 (zA @w2 @w3)))));(repeat' first|refine zaa [0,1,2,3,4,6,7,8,9,10,11,12,13,14,15,16,17,18,19,41,46,60,70,90,95,110,120,137,139,144,193,199,209,257,260] fun K hK=>?_|(refine hK.go ?_;clear hK K)|with_reducible exact wT|refine wA ?_|(refine wB (fun h=>?_) (fun h=>?_)<;>first|exact wN h|subst (h:(_:Bool)=_)|skip)|(refine wQ ?_;clear hQ hR hE hM)|refine wC d9 ?_|refine wU d9 ?_|fail);all_goals clear hX)
           all_goals first|(exfalso;contradiction)|(exfalso;omega)|exact ⟨k+1,by omega,by omega,by omega⟩|trace_state
        ·clear dC
         (repeat' first|refine zaa [0,1,2,3,4,6,7,8,9,10,11,12,13,14,15,16,17,18,19,41,46,60,70,90,95,110,120,137,139,144,193,199,209,257,260] fun K hK=>?_|(refine hK.go ?_;clear hK K)|with_reducible exact wT|refine wA ?_|(refine wB (fun h=>?_) (fun h=>?_)<;>first|exact wN h|subst (h:(_:Bool)=_)|skip)|(refine wQ ?_;clear hQ hR hE hM)|fail)
         all_goals first|(exfalso;contradiction)|(exfalso;omega)|exact ⟨(i+1,Y),by dsimp only;omega,⟨by dsimp only;omega,⟨sY,h9,hY⟩⟩,by dsimp only;omega,rfl⟩|trace_state
    ·clear hstep
     (repeat' first|refine zaa [0,1,2,3,4,6,7,8,9,10,11,12,13,14,15,16,17,18,19,41,46,60,70,90,95,110,120,137,139,144,193,199,209,257,260] fun K hK=>?_|(refine hK.go ?_;clear hK K)|with_reducible exact wT|refine wA ?_|(refine wB (fun h=>?_) (fun h=>?_)<;>first|exact wN h|subst (h:(_:Bool)=_)|skip)|(refine wQ ?_;clear hQ hR hE hM)|fail)
     all_goals first|rfl|(exfalso;contradiction)|(exfalso;omega)|trace_state
   ·have key:¬l.length≤30∨¬zac p s=0:=by
     by_cases h:l.length≤30
     ·exact .inr fun h2=>hn ⟨h,h2⟩
     ·exact .inl h
    clear hn
    generalize zac p s=e at *
    refine PC.fn hH cd374 fun w0 M Q hM hE hQ hR=>?_;dsimp only[cd374,qm,ql,qf,qi,qb,qc,qp,qv,qN,qT,qF,qt]at hQ ⊢
    (repeat' first|refine zaa [0,1,2,3,4,6,7,8,9,10,11,12,13,14,15,16,17,18,19,41,46,60,70,90,95,110,120,137,139,144,193,199,209,257,260] fun K hK=>?_|(refine hK.go ?_;clear hK K)|with_reducible exact wT|refine wA ?_|(refine wB (fun h=>?_) (fun h=>?_)<;>first|exact wN h|subst (h:(_:Bool)=_)|skip)|(refine wQ ?_;clear hQ hR hE hM)|refine wC c0 ?_|refine wC c1 ?_|refine wC c2 ?_|refine wC c3 ?_|fail)
    all_goals first|rfl|(exfalso;contradiction)|(exfalso;omega)|trace_state
end Go.Lev
namespace Go.Lev
open Go.Eng
section
variable {r:Rte} {is:Int→Int} {id:Int} (h0:0<r.path.length) (ht:1≤r.timer)
include h0 ht
end
section
variable (p:Pln) (at' d:Nat)
end
section
variable {p:Pln} {at' d:Nat} {i:Nat} {t:State}
variable (hd:d=1∨d=2) (g:TrI p at' d i t) (hi:i<(nth p.routes at').path.length)
include g
include hd hi
end
section
variable {p:Pln} {at' d:Nat} {i:Nat} {t:State} (g:TrI p at' d i t)
include g
end
end Go.Lev
