/-
  A part of the engine that walks the functions' codes, and of the functions' contracts. Conditions: those that each theorem names.
-/
import Derived.Test.YtokllheinelgjaaL7
import Derived.IntWalk
set_option linter.unusedSimpArgs false
set_option linter.unusedVariables false
set_option linter.unusedSectionVars false

namespace Go.Lev
open Go.Eng
abbrev WL:=WayR×Lock
def hdl (z:WL):List Int:=zbD z.1 z.2
def asl (z:WL):List AskR:=(zbW z.1 z.2).filter (zcQ z.2)
theorem zhM (n:Int) (hn:n≠0):∀ (l H:List Int) (t:Bool),H.length=100→(∀ s∈l,0≤s∧s≤99) →
  ((zbv n l H t).2=true↔t=true∧(∀ s∈l,nth H s.toNat=0)∧l.Nodup) ∧
  ((zbv n l H t).2=true→(∀ s∈l,nth (zbv n l H t).1 s.toNat=n)∧∀ k:Nat,(∀ s∈l,s.toNat≠k)→nth (zbv n l H t).1 k=nth H k)
 |[],H,t,_,_=>by simp[zbv]
 |s::r,H,t,hH,hs=>by
  rw[zbv]
  have h0:=hs s (by simp)
  split
  ·rename_i hc
   obtain ⟨rfl,hc⟩:=hc
   have ih:=zhM n hn r (H.set s.toNat n) true (by simpa using hH) fun x hx=>hs x (by simp[hx])
   have key:(∀ x∈r,nth (H.set s.toNat n) x.toNat=0)↔(∀ x∈r,nth H x.toNat=0)∧s∉r:=by
    constructor
    ·intro h
     have hne:∀ x∈r,x≠s:=fun x hx e=>by
      have:=h x hx
      rw[e,zbC _ _ _ _ (by omega),if_pos rfl]at this
      exact hn this
     refine ⟨fun x hx=>?_,fun hx=>hne s hx rfl⟩
     have h1:=h x hx
     have h2:=hs x (by simp[hx])
     rw[zbC _ _ _ _ (by omega),if_neg (by have:=hne x hx;omega)]at h1
     exact h1
    ·rintro ⟨h1,h2⟩ x hx
     have h3:=hs x (by simp[hx])
     rw[zbC _ _ _ _ (by omega),if_neg (fun e=>h2 (by rw[show s=x by omega];exact hx))]
     exact h1 x hx
   refine ⟨?_, ?_⟩
   ·rw[ih.1,key]
    simp only[List.mem_cons,forall_eq_or_imp,List.nodup_cons,true_and]
    constructor
    ·rintro ⟨⟨h1,h2⟩,h3⟩;exact ⟨⟨hc,h1⟩,h2,h3⟩
    ·rintro ⟨⟨_,h1⟩,h2,h3⟩;exact ⟨⟨h1,h2⟩,h3⟩
   ·intro ht
    have h2:=ih.2 ht
    have h3:=(ih.1.1 ht).2
    rw[key]at h3
    refine ⟨fun x hx=>?_,fun k hk=>?_⟩
    ·rcases List.mem_cons.1 hx with rfl|hx
     ·rw[h2.2 _ (fun y hy e=>h3.1.2 (by have:=hs y (by simp[hy]);rw[show x=y by omega];exact hy)),zbC _ _ _ _ (by omega),if_pos rfl]
     ·exact h2.1 x hx
    ·rw[h2.2 k fun y hy=>hk y (by simp[hy]),zbC _ _ _ _ (by omega),if_neg (fun e=>hk s (by simp) e.symm)]
  ·rename_i hc
   refine ⟨?_,fun h=>by cases h⟩
   simp only[Bool.false_eq_true,false_iff,not_and]
   intro ht h1
   exact absurd ⟨ht,h1 s (by simp)⟩ hc
theorem ze6 (l:Lock) (C:List (Int×Int)):∀ (q:List AskR) (A:List Int) (t:Bool),A.length=100→(∀ a∈q,0≤a.pnt∧a.pnt≤99) →
  ((zdp l C q A t).2=true↔t=true∧∀ a∈q.filter (zcQ l),zhn C a.pnt=a.lie) ∧
  ((zdp l C q A t).2=true→(∀ a∈q.filter (zcQ l),nth (zdp l C q A t).1 a.pnt.toNat=a.lie)∧∀ k:Nat,(∀ a∈q.filter (zcQ l),a.pnt.toNat≠k)→nth (zdp l C q A t).1 k=nth A k)
 |[],A,t,_,_=>by simp[zdp]
 |a::r,A,t,hA,hs=>by
  rw[zdp]
  have h0:=hs a (by simp)
  by_cases ho:zcQ l a=true
  ·rw[if_pos ho,List.filter_cons_of_pos ho]
   split
   ·rename_i hc
    obtain ⟨rfl,hc⟩:=hc
    have ih:=ze6 l C r (A.set a.pnt.toNat a.lie) true (by simpa using hA) fun x hx=>hs x (by simp[hx])
    refine ⟨?_, ?_⟩
    ·rw[ih.1]
     simp only[List.mem_cons,forall_eq_or_imp,true_and]
     exact ⟨fun h=>⟨hc,h⟩,fun h=>h.2⟩
    ·intro ht
     have h2:=ih.2 ht
     have h3:=(ih.1.1 ht).2
     refine ⟨fun x hx=>?_,fun k hk=>?_⟩
     ·rcases List.mem_cons.1 hx with rfl|hx
      ·rcases Classical.em (∃ y∈r.filter (zcQ l),y.pnt.toNat=x.pnt.toNat) with ⟨y,hy,e⟩|h4
       ·have h5:=hs y (by simp[(List.mem_filter.1 hy).1])
        have h6:=h2.1 y hy
        rw[e]at h6
        rw[h6,←h3 y hy,←hc,show y.pnt=x.pnt by omega]
       ·rw[h2.2 _ (fun y hy e=>h4 ⟨y,hy,e⟩),zbC _ _ _ _ (by omega),if_pos rfl]
      ·exact h2.1 x hx
     ·rw[h2.2 k fun y hy=>hk y (by simp[hy]),zbC _ _ _ _ (by omega),if_neg (fun e=>hk a (by simp) e.symm)]
   ·rename_i hc
    refine ⟨?_,fun h=>by cases h⟩
    simp only[Bool.false_eq_true,false_iff,not_and]
    intro ht h1
    exact absurd ⟨ht,h1 a (by simp)⟩ hc
  ·rw[if_neg ho,List.filter_cons_of_neg ho]
   exact ze6 l C r A t hA fun x hx=>hs x (by simp[hx])
def zen (C:List (Int×Int)):List WL→List Int→List Int→Bool→List Int×List Int×Bool
 |[],H,A,t=>(H,A,t)
 |z::r,H,A,t=>zen C r (zbv z.2.id (zbD z.1 z.2) H t).1 (zdp z.2 C (zbW z.1 z.2) A (zbv z.2.id (zbD z.1 z.2) H t).2).1 (zdp z.2 C (zbW z.1 z.2) A (zbv z.2.id (zbD z.1 z.2) H t).2).2
theorem znO (ws:List WayR) (C:List (Int×Int)):∀ (l:List Lock) (i:Nat) (H A:List Int) (t:Bool),i+l.length=ws.length→zcP ws C i l H A t=zen C ((ws.drop i).zip l) H A t
 |[],i,H,A,t,_=>by rw[zcP,List.zip_nil_right,zen]
 |x::r,i,H,A,t,h=>by
  simp only[List.length_cons]at h
  rw[zcP,zao (show i<ws.length by omega),List.zip_cons_cons,zen,znO ws C r (i+1) _ _ _ (by omega)]
structure ZOk (Z:List WL):Prop where
 id:∀ z∈Z,z.2.id≠0
 sec:∀ z∈Z,∀ n∈hdl z,0≤n∧n≤99
 pnt:∀ z∈Z,∀ a∈zbW z.1 z.2,0≤a.pnt∧a.pnt≤99
theorem zkx (C:List (Int×Int)):∀ (Z:List WL) (H A:List Int),(zen C Z H A false).2.2=false
 |[],H,A=>rfl
 |z::r,H,A=>by
  rw[zen]
  have h1:(zbv z.2.id (zbD z.1 z.2) H false).2=false:=by
   cases zbD z.1 z.2 with
   |nil=>rfl
   |cons s q=>rw[zbv,if_neg (by simp)]
  have h2:∀ q:List AskR,(zdp z.2 C q A false).2=false:=by
   intro q
   induction q with
   |nil=>rfl
   |cons a q ih =>
    rw[zdp]
    split
    ·rw[if_neg (by simp)]
    ·exact ih
  rw[h1,h2]
  exact zkx C r _ _
theorem zdU (C:List (Int×Int)):∀ (Z:List WL) (H A:List Int),ZOk Z→H.length=100→A.length=100 →
  ((zen C Z H A true).2.2=true↔(∀ z∈Z,(∀ n∈hdl z,nth H n.toNat=0)∧(hdl z).Nodup∧∀ a∈asl z,zhn C a.pnt=a.lie)∧Z.Pairwise fun z z'=>∀ n∈hdl z,n∉hdl z') ∧
  ((zen C Z H A true).2.2=true→(∀ z∈Z,(∀ n∈hdl z,nth (zen C Z H A true).1 n.toNat=z.2.id)∧∀ a∈asl z,nth (zen C Z H A true).2.1 a.pnt.toNat=a.lie) ∧
   (∀ k:Nat,(∀ z∈Z,∀ n∈hdl z,n.toNat≠k)→nth (zen C Z H A true).1 k=nth H k)∧(∀ k:Nat,(∀ z∈Z,∀ a∈asl z,a.pnt.toNat≠k)→nth (zen C Z H A true).2.1 k=nth A k))
 |[],H,A,_,_,_=>by simp[zen]
 |z::r,H,A,hZ,hH,hA=>by
  have hZr:ZOk r:=⟨fun y hy=>hZ.id y (by simp[hy]),fun y hy=>hZ.sec y (by simp[hy]),fun y hy=>hZ.pnt y (by simp[hy])⟩
  have hs:=zhM z.2.id (hZ.id z (by simp)) (zbD z.1 z.2) H true hH (hZ.sec z (by simp))
  have hse:∀ n∈hdl z,0≤n∧n≤99:=hZ.sec z (by simp)
  have hlen:=zeW z.2.id (zbD z.1 z.2) H true
  rw[zen]
  rw[show zbD z.1 z.2=hdl z from rfl]at hs hlen ⊢
  revert hs hlen
  generalize zbv z.2.id (hdl z) H true=HT
  intro hs hlen
  cases ht:HT.2 with
  |false =>
   have hf:(zdp z.2 C (zbW z.1 z.2) A false).2=false:=by
    have:=(ze6 z.2 C (zbW z.1 z.2) A false hA (hZ.pnt z (by simp))).1
    cases h:(zdp z.2 C (zbW z.1 z.2) A false).2 with
    |false=>rfl
    |true=>have:=(this.1 h).1;cases this
   rw[hf,zkx]
   refine ⟨?_,fun h=>by cases h⟩
   simp only[Bool.false_eq_true,false_iff,not_and]
   intro h1 _
   have h2:=h1 z (by simp)
   have h3:=hs.1.2 ⟨rfl,h2.1,h2.2.1⟩
   rw[ht]at h3
   cases h3
  |true =>
   have hs1:=(hs.1.1 ht).2
   have hs2:=hs.2 ht
   have ha:=ze6 z.2 C (zbW z.1 z.2) A true hA (hZ.pnt z (by simp))
   have hpn:=hZ.pnt z (by simp)
   have halen:=ze7 z.2 C (zbW z.1 z.2) A true
   rw[show (zbW z.1 z.2).filter (zcQ z.2)=asl z from rfl]at ha
   revert ha halen
   generalize zdp z.2 C (zbW z.1 z.2) A true=AT
   intro ha halen
   cases hat:AT.2 with
   |false =>
    rw[zkx]
    refine ⟨?_,fun h=>by cases h⟩
    simp only[Bool.false_eq_true,false_iff,not_and]
    intro h1 _
    have h3:=ha.1.2 ⟨rfl,(h1 z (by simp)).2.2⟩
    rw[hat]at h3
    cases h3
   |true =>
    have ha1:=(ha.1.1 hat).2
    have ha2:=ha.2 hat
    have ih:=zdU C r HT.1 AT.1 hZr (by omega) (by omega)
    have key:∀ y∈r,((∀ n∈hdl y,nth HT.1 n.toNat=0)↔(∀ n∈hdl y,nth H n.toNat=0)∧∀ n∈hdl z,n∉hdl y):=by
     intro y hy
     constructor
     ·intro h
      have hne:∀ n∈hdl z,n∉hdl y:=fun n hn hny=>by
       have:=h n hny
       rw[hs2.1 n hn]at this
       exact hZ.id z (by simp) this
      refine ⟨fun n hn=>?_,hne⟩
      have:=h n hn
      rw[hs2.2 _ (fun m hm e=>hne m hm (by have:=hse m hm;have:=hZ.sec y (by simp[hy]) n hn;rw[show m=n by omega];exact hn))]at this
      exact this
     ·rintro ⟨h1,h2⟩ n hn
      rw[hs2.2 _ (fun m hm e=>h2 m hm (by have:=hse m hm;have:=hZ.sec y (by simp[hy]) n hn;rw[show m=n by omega];exact hn))]
      exact h1 n hn
    refine ⟨?_, ?_⟩
    ·rw[ih.1]
     simp only[List.mem_cons,forall_eq_or_imp,List.pairwise_cons]
     constructor
     ·rintro ⟨h1,h2⟩
      refine ⟨⟨⟨hs1.1,hs1.2,ha1⟩,fun y hy=>⟨((key y hy).1 (h1 y hy).1).1,(h1 y hy).2⟩⟩,fun y hy=>((key y hy).1 (h1 y hy).1).2,h2⟩
     ·rintro ⟨⟨_,h1⟩,h3,h2⟩
      exact ⟨fun y hy=>⟨(key y hy).2 ⟨(h1 y hy).1,h3 y hy⟩,(h1 y hy).2⟩,h2⟩
    ·intro hg
     have h1:=ih.2 hg
     have h2:=ih.1.1 hg
     refine ⟨?_, ?_, ?_⟩
     ·intro y hy
      rcases List.mem_cons.1 hy with rfl|hy
      ·refine ⟨fun n hn=>?_,fun a haa=>?_⟩
       ·rw[h1.2.1 n.toNat fun x hx m hm e=>?_]
        ·exact hs2.1 n hn
        ·have h5:=((key x hx).1 (h2.1 x hx).1).2 n hn
         have:=hse n hn
         have:=hZ.sec x (by simp[hx]) m hm
         exact h5 (by rw[show n=m by omega];exact hm)
       ·have hpa:=hpn a (List.mem_filter.1 haa).1
        rcases Classical.em (∃ x∈r,∃ b∈asl x,b.pnt.toNat=a.pnt.toNat) with ⟨x,hx,b,hb,e⟩|h4
        ·have hpb:=hZ.pnt x (by simp[hx]) b (List.mem_filter.1 hb).1
         rw[←e,(h1.1 x hx).2 b hb,←(h2.1 x hx).2.2 b hb,←ha1 a haa,show b.pnt=a.pnt by omega]
        ·rw[h1.2.2 _ fun x hx b hb e=>h4 ⟨x,hx,b,hb,e⟩]
         exact ha2.1 a haa
      ·exact h1.1 y hy
     ·intro k hk
      rw[h1.2.1 k fun y hy=>hk y (by simp[hy])]
      exact hs2.2 k fun n hn=>hk z (by simp) n hn
     ·intro k hk
      rw[h1.2.2 k fun y hy=>hk y (by simp[hy])]
      exact ha2.2 k fun a haa=>hk z (by simp) a haa
end Go.Lev
namespace Go.Lev
open Go.Eng
theorem zjq (C:List (Int×Int)) (k v k':Int):zhn (zlS C k v) k'=if k'=k then v else zhn C k':=by
 induction C with
 |nil=>simp[zlS,zhn]
 |cons q r ih =>
  rw[zlS]
  split
  ·rename_i h;subst h;simp only[zhn];split<;>rfl
  ·rename_i h
   simp only[zhn,ih]
   by_cases h1:k'=q.1
   ·rw[if_pos h1,if_pos h1,if_neg (by omega)]
   ·rw[if_neg h1,if_neg h1]
theorem zhK:∀ (l:List Switch) (C:List (Int×Int)) (k:Int),(∀ x∈l,x.id≠k)→zhn (zgO C l) k=zhn C k
 |[],_,_,_=>rfl
 |x::r,C,k,h=>by
  rw[zgO,zhK r _ k fun y hy=>h y (by simp[hy]),zjq,if_neg (fun e=>h x (by simp) e.symm)]
theorem znk:∀ (l:List Switch) (C:List (Int×Int)),(l.map Switch.id).Nodup→∀ x∈l,zhn (zgO C l) x.id=x.call
 |[],_,_,x,h=>by cases h
 |y::r,C,hn,x,hx=>by
  simp only[List.map_cons,List.nodup_cons]at hn
  rw[zgO]
  rcases List.mem_cons.1 hx with rfl|hx
  ·rw[zhK r _ _ fun z hz e=>hn.1 (by rw[←e];exact List.mem_map_of_mem hz),zjq,if_pos rfl]
  ·exact znk r _ hn.2 x hx
def zlp (s:State) (n:Int):Int:=zhn (zgO [] s.switches) n
def zof (p:Pln) (s:State):List WL:=(zbm p).zip s.locks
theorem zdL {α β:Type} {q:α→β→Bool} {f:α→Int} {g:β→Int} (hq:∀ x y,q x y=true→f x=g y):∀ {a:List α} {b:List β},zaq q a b=true→a.map f=b.map g
 |[],[],_=>rfl
 |[],_::_,h=>by simp[zaq]at h
 |_::_,[],h=>by simp[zaq]at h
 |x::xs,y::ys,h=>by
  simp only[zaq,Bool.and_eq_true]at h
  simp only[List.map_cons,zdL hq h.2,hq x y h.1]
theorem trk_ids {p:Pln} {s:State} (h:zav p s=true):s.tracks.map Track.id=p.sections.map Section.id:=by
 simp only[zav,Bool.and_eq_true]at h
 exact zdL (fun x y h=>by simp only[zfQ,Bool.and_eq_true,decide_eq_true_eq]at h;exact h.1) h.1
theorem zmz {p:Pln} {s:State} (h:zav p s=true):s.switches.map Switch.id=p.points.map Pnt.id:=by
 simp only[zav,Bool.and_eq_true]at h
 exact zdL (fun x y h=>by simp only[ziR,Bool.and_eq_true,decide_eq_true_eq]at h;exact h.1) h.2.1
theorem lck_ids {p:Pln} {s:State} (h:zav p s=true):s.locks.map Lock.id=p.routes.map Rte.id:=by
 simp only[zav,Bool.and_eq_true]at h
 exact zdL (fun x y h=>by simp only[zem,Bool.and_eq_true,decide_eq_true_eq]at h;exact h.1) h.2.2
theorem zjk {p:Pln} (h:OkP p):(p.points.map Pnt.id).Nodup:=by
 have hp:=h.pts
 simp only[points,Bool.and_eq_true]at hp
 exact zif hp.1
theorem zi8 {p:Pln} (h:OkP p):(p.routes.map Rte.id).Nodup:=zif h.rise
theorem zmS {p:Pln} (h:OkP p):(p.sections.map Section.id).Nodup:=zis (secIds h.sec)
theorem zi7 {p:Pln} (h:OkP p) {r:Rte} (hr:r∈p.routes):1≤r.id∧r.id≤99:=((zeJ _ _).1 h.rise).1 r.id (List.mem_map_of_mem hr)
theorem zcX {p:Pln} (h:zbt p=true):OkP p∧(∀ r∈p.routes,(zaF p r).2.2=0)∧∀ r∈p.routes,zc9 p r=true:=by
 simp only[zbt,Bool.and_eq_true]at h
 refine ⟨zgK h.1,fun r hr=>?_,fun r hr=>?_⟩
 ·simpa using (List.all_eq_true.1 h.2.1) r hr
 ·exact (List.all_eq_true.1 h.2.2) r hr
theorem zog {p:Pln} {s:State} (ho:OkP p) (h:zav p s=true) {x:Switch} (hx:x∈s.switches):zlp s x.id=x.call :=
 znk _ _ (by rw[zmz h];exact zjk ho) x hx
theorem zf5 {p:Pln} {s:State} (h:zav p s=true) {z:WL} (hz:z∈zof p s):∃ i,∃ r∈p.routes,i<p.routes.length∧nth p.routes i=r∧nth s.locks i=z.2∧z.2∈s.locks∧z.1=(zaF p r).1∧zem z.2 r=true:=by
 have hl:=zaR h
 simp only[zav,Bool.and_eq_true]at h
 obtain ⟨i,hi,e⟩:=List.mem_iff_getElem.1 hz
 have hi1:i<p.routes.length:=by simp only[zof,List.length_zip,zbm,List.length_map]at hi;omega
 have hi2:i<s.locks.length:=by omega
 have e1:z.1=(zaF p (nth p.routes i)).1:=by
  rw[←e];simp[zof,zbm,za3 hi1]
 have e2:nth s.locks i=z.2:=by
  rw[←e];simp[zof,za3 hi2]
 refine ⟨i,nth p.routes i,zat hi1,hi1,rfl,e2,by rw[←e2];exact zat hi2,e1, ?_⟩
 rw[←e2]
 exact zdq h.2.2 hi2
theorem zof_at {p:Pln} {s:State} (h:zav p s=true) {i:Nat} (hi:i<p.routes.length):((zaF p (nth p.routes i)).1,nth s.locks i)∈zof p s:=by
 have hl:=zaR h
 have hi2:i<s.locks.length:=by omega
 rw[List.mem_iff_getElem]
 refine ⟨i,by simp[zof,zbm];omega, ?_⟩
 simp[zof,zbm,za3 hi,za3 hi2]
theorem ziQ {p:Pln} {s:State} (ho:zbt p=true) (h:zav p s=true):ZOk (zof p s):=by
 obtain ⟨hok,hw,_⟩:=zcX ho
 refine ⟨fun z hz=>?_,fun z hz n hn=>?_,fun z hz a ha=>?_⟩
 ·obtain ⟨i,r,hr,_,_,_,_,_,hl⟩:=zf5 h hz
  simp only[zem,Bool.and_eq_true,decide_eq_true_eq]at hl
  have:=zi7 hok hr
  omega
 ·obtain ⟨i,r,hr,_,_,_,_,e,hl⟩:=zf5 h hz
  have hp:=zfa (hw r hr)
  unfold hdl zbD at hn
  split at hn
  ·simp at hn
  ·have h1:n∈r.path++r.over:=by
    rw[e,hp.1,hp.2.1]at hn
    rcases List.mem_append.1 hn with h2|h2
    ·exact List.mem_append.2 (.inl (List.mem_of_mem_drop h2))
    ·exact List.mem_append.2 (.inr h2)
   obtain ⟨q,hq,rfl⟩:=(zic hok hr).1 n h1
   have:=zeE hok hq
   omega
 ·obtain ⟨i,r,hr,_,_,_,_,e,hl⟩:=zf5 h hz
  unfold zbW at ha
  split at ha
  ·simp at ha
  ·rw[e]at ha
   have:=ze5 hok hr ha
   omega
theorem znN {p:Pln} {s:State} (ho:zbt p=true) (h:zav p s=true) {z:WL} (hz:z∈zof p s):(hdl z).Nodup:=by
 obtain ⟨hok,hw,_⟩:=zcX ho
 obtain ⟨i,r,hr,_,_,_,_,e,_⟩:=zf5 h hz
 have hp:=zfa (hw r hr)
 unfold hdl zbD
 split
 ·simp
 ·rw[e,hp.1,hp.2.1]
  have:=(zic hok hr).2
  exact List.Nodup.sublist (List.Sublist.append (List.drop_sublist _ _) (List.Sublist.refl _)) this
theorem zkw {p:Pln} {s:State} (h:zav p s=true):za0 p s=zen (zgO [] s.switches) (zof p s) zcN zcN true:=by
 unfold za0 zof
 rw[znO _ _ _ _ _ _ _ (by have:=zaR h;simp[zbm];omega),List.drop_zero]
theorem zhZ (k:Nat):nth zcN k=0:=by
 rcases Nat.lt_or_ge k 100 with h|h
 ·exact zio _ _ _ h
 ·unfold zcN nth;rw[getElem!_neg _ _ (by simp;omega)];rfl
def zow (Z:List WL):Prop:=Z.Pairwise fun z z'=>∀ n∈hdl z,n∉hdl z'
def AsCalled (s:State) (Z:List WL):Prop:=∀ z∈Z,∀ a∈asl z,zlp s a.pnt=a.lie
theorem zhC (p:Pln) (s:State):zak p s=0↔zbt p=true∧zav p s=true∧zow (zof p s)∧AsCalled s (zof p s):=by
 constructor
 ·intro h
  obtain ⟨h1,h2,h3⟩:=zar h
  rw[zkw h2]at h3
  have:=((zdU _ _ _ _ (ziQ h1 h2) zbi zbi).1).1 h3
  exact ⟨h1,h2,this.2,fun z hz a ha=>(this.1 z hz).2.2 a ha⟩
 ·rintro ⟨h1,h2,h3,h4⟩
  unfold zak
  have h5:(za0 p s).2.2=true:=by
   rw[zkw h2]
   exact ((zdU _ _ _ _ (ziQ h1 h2) zbi zbi).1).2 ⟨fun z hz=>⟨fun n _=>zhZ _,znN h1 h2 hz,h4 z hz⟩,h3⟩
  rw[if_pos h1,if_pos ⟨h2,h5⟩]
theorem stCode_8 {p:Pln} {s:State} (ho:zbt p=true) (h:zak p s≠0):zak p s=8:=by
 have e:zak p s=if zav p s=true∧(za0 p s).2.2=true then 0 else 8:=by unfold zak;rw[if_pos ho]
 by_cases h1:zav p s=true∧(za0 p s).2.2=true
 ·rw[if_pos h1]at e;exact absurd e h
 ·rw[if_neg h1]at e;exact e
section
variable {p:Pln} {s:State} (h:zak p s=0)
include h
theorem zeX:(∀ z∈zof p s,(∀ n∈hdl z,nth (za0 p s).1 n.toNat=z.2.id)∧∀ a∈asl z,nth (za0 p s).2.1 a.pnt.toNat=a.lie) ∧
  (∀ k:Nat,(∀ z∈zof p s,∀ n∈hdl z,n.toNat≠k)→nth (za0 p s).1 k=0)∧(∀ k:Nat,(∀ z∈zof p s,∀ a∈asl z,a.pnt.toNat≠k)→nth (za0 p s).2.1 k=0):=by
 obtain ⟨h1,h2,h3⟩:=zar h
 rw[zkw h2]at h3 ⊢
 have:=(zdU _ _ _ _ (ziQ h1 h2) zbi zbi).2 h3
 refine ⟨this.1,fun k hk=>?_,fun k hk=>?_⟩
 ·rw[this.2.1 k hk];exact zhZ k
 ·rw[this.2.2 k hk];exact zhZ k
theorem znM {z:WL} (hz:z∈zof p s) {n:Int} (hn:n∈hdl z):nth (za0 p s).1 n.toNat=z.2.id:=((zeX h).1 z hz).1 n hn
theorem hold_no {n:Int} (h0:0≤n) (hn:∀ z∈zof p s,n∉hdl z):nth (za0 p s).1 n.toNat=0:=(zeX h).2.1 _ fun z hz m hm e=>by
 have:=(ziQ (zar h).1 (zar h).2.1).sec z hz m hm
 exact hn z hz (by rw[show n=m by omega];exact hm)
theorem zl1 {n:Int} (h0:0≤n):(∃ z∈zof p s,n∈hdl z∧nth (za0 p s).1 n.toNat=z.2.id)∨((∀ z∈zof p s,n∉hdl z)∧nth (za0 p s).1 n.toNat=0):=by
 rcases Classical.em (∃ z∈zof p s,n∈hdl z) with ⟨z,hz,hn⟩|h1
 ·exact .inl ⟨z,hz,hn,znM h hz hn⟩
 ·exact .inr ⟨fun z hz hn=>h1 ⟨z,hz,hn⟩,hold_no h h0 fun z hz hn=>h1 ⟨z,hz,hn⟩⟩
theorem ask_at {z:WL} (hz:z∈zof p s) {a:AskR} (ha:a∈asl z):nth (za0 p s).2.1 a.pnt.toNat=a.lie:=((zeX h).1 z hz).2 a ha
theorem ask_no {n:Int} (h0:0≤n) (hn:∀ z∈zof p s,∀ a∈asl z,a.pnt≠n):nth (za0 p s).2.1 n.toNat=0:=(zeX h).2.2 _ fun z hz a ha e=>by
 have:=(ziQ (zar h).1 (zar h).2.1).pnt z hz a (List.mem_filter.1 ha).1
 exact hn z hz a ha (by omega)
theorem zon {n:Int} (h0:0≤n):(∃ z∈zof p s,∃ a∈asl z,a.pnt=n∧nth (za0 p s).2.1 n.toNat=a.lie∧zlp s n=a.lie)∨((∀ z∈zof p s,∀ a∈asl z,a.pnt≠n)∧nth (za0 p s).2.1 n.toNat=0):=by
 rcases Classical.em (∃ z∈zof p s,∃ a∈asl z,a.pnt=n) with ⟨z,hz,a,ha,e⟩|h1
 ·exact .inl ⟨z,hz,a,ha,e,by rw[←e];exact ask_at h hz ha,by rw[←e];exact ((zhC p s).1 h).2.2.2 z hz a ha⟩
 ·exact .inr ⟨fun z hz a ha e=>h1 ⟨z,hz,a,ha,e⟩,ask_no h h0 fun z hz a ha e=>h1 ⟨z,hz,a,ha,e⟩⟩
end
end Go.Lev
namespace Go.Lev
open Go.Eng
set_option maxRecDepth 10000
set_option maxHeartbeats 4000000
variable {P:Program} {inv:Nat→Option Nat} {w0:World} {M:Nat→Prop}
def minK (n:Int):Int:=if 1000<n then 1000 else n
def sumS:Int→List Section→Int
 |t,[]=>t
 |t,s::r=>sumS (t+minK s.ends.length) r
def sumR:Int→List Rte→Int
 |t,[]=>t
 |t,r::l=>sumR (t+minK r.path.length+minK r.over.length+minK r.flanks.length) l
def zcZ (p:Pln):Bool:=decide (100<(p.sections.length:Int))||(decide (100<(p.points.length:Int))||(decide (100<(p.signals.length:Int))||decide (100<(p.routes.length:Int))))
def zea (p:Pln):Bool:=zcZ p||decide (1000<sumR (sumS 0 p.sections) p.routes)
theorem zk9 (n:Nat):0≤minK n∧minK n≤1000:=by unfold minK;split<;>omega
theorem zbJ (hH:HasAll P inv) (p:Pln):PC P inv 71 [.agg p.c] (·=.b (zea p)):=by
 unfold zea
 cases hg0:zcZ p with
 |true =>
  rw[Bool.true_or]
  refine zae (F:=cd71) (hH.has _ _ rfl) (Nat.le_of_ble_eq_true rfl) fun w0 M Q hM hQ hR=>?_;have hE:=hH.callable;dsimp only[cd71,qm,ql,qf,qi,qb,qc,qp,qv,qN,qT,qF,qt]at hQ ⊢
  repeat' (first|refine zab [0,1,2,3,4,5,27,32,49] fun K hK=>?_|refine AWp.block ?_|(refine hK.go ?_;clear hK K)|refine Cont.go (by assumption) ?_|(refine cnd2 rfl (fun h=>?_) (fun h=>?_)<;>(try first|exact h.elim|obtain rfl:(_:Bool)=true:=h|obtain rfl:(_:Bool)=false:=h)<;>first|(exfalso;omega)|skip)|((first|refine AWp.reg hE hM ?_|refine AWp.regd hE hM ?_|refine AWp.ret ?_|refine AWp.skip ?_|refine AWp.exit ?_|(refine pk2 (fun h=>?_) (fun h=>?_)<;>(try first|exact h.elim|obtain rfl:(_:Bool)=true:=h|obtain rfl:(_:Bool)=false:=h))|refine zac (fun h=>?_) ?_|(refine hQ _ _ _ rfl ?_;clear hQ hR hE hM)|(refine hR _ _ (hQ _ _ _ rfl ?_);clear hQ hR hE hM)|(refine zaf ?_ ?_;focus first|omega|(refine zad ?_;(refine no_implicit_lambda% (st ?_);try with_reducible exact True.intro);done)))<;>try (refine no_implicit_lambda% (st ?_);try with_reducible exact True.intro)))
  all_goals first|rfl|(exfalso;simp[zcZ]at hg0;omega)
 |false =>
  rw[Bool.false_or]
  have hb:p.sections.length≤100∧p.points.length≤100∧p.signals.length≤100∧p.routes.length≤100:=by
   simp[zcZ]at hg0;omega
  refine zae (F:=cd71) (hH.has _ _ rfl) (Nat.le_of_ble_eq_true rfl) fun w0 M Q hM hQ hR=>?_;have hE:=hH.callable;dsimp only[cd71,qm,ql,qf,qi,qb,qc,qp,qv,qN,qT,qF,qt]at hQ ⊢
  repeat' (first|refine zab [0,1,2,3,4,5,27,32,49] fun K hK=>?_|refine AWp.block ?_|(refine hK.go ?_;clear hK K)|refine Cont.go (by assumption) ?_|(refine cnd2 rfl (fun h=>?_) (fun h=>?_)<;>(try first|exact h.elim|obtain rfl:(_:Bool)=true:=h|obtain rfl:(_:Bool)=false:=h)<;>first|(exfalso;omega)|skip)|((first|refine AWp.reg hE hM ?_|refine AWp.regd hE hM ?_|refine AWp.ret ?_|refine AWp.skip ?_|refine AWp.exit ?_|(refine pk2 (fun h=>?_) (fun h=>?_)<;>(try first|exact h.elim|obtain rfl:(_:Bool)=true:=h|obtain rfl:(_:Bool)=false:=h))|refine zac (fun h=>?_) ?_|(refine hQ _ _ _ rfl ?_;clear hQ hR hE hM)|(refine hR _ _ (hQ _ _ _ rfl ?_);clear hQ hR hE hM)|(refine zaf ?_ ?_;focus first|omega|(refine zad ?_;(refine no_implicit_lambda% (st ?_);try with_reducible exact True.intro);done)))<;>try (refine no_implicit_lambda% (st ?_);try with_reducible exact True.intro)))
  all_goals first|(exfalso;omega)|skip
  refine zaj (ι:=Nat×Int) [1,2,3,4] (fun zz=>[(3,.n zz.2),(4,.n zz.1)]) (fun zz=>[]) (fun zz=>zz.1≤p.sections.length∧(0≤zz.2∧zz.2≤1000*zz.1)∧(sumS zz.2 (p.sections.drop zz.1)=sumS 0 p.sections)) (fun zz=>p.sections.length-zz.1) (0,0) ⟨Nat.zero_le _,(by first|rfl|assumption|omega|(simp;done)|(simp;omega)|grind),(by first|rfl|assumption|omega|(simp;done)|(simp;omega)|grind)⟩ (by (try dsimp only);(refine no_implicit_lambda% (st ?_);try with_reducible exact True.intro)<;>first|omega|(simp;done)) (by (try dsimp only);(refine no_implicit_lambda% (st ?_);try with_reducible exact True.intro)<;>first|omega|(simp;done)) ?_;rintro ⟨k,t⟩ ⟨hk,ht,hg⟩;(try dsimp only at hk ht hg ⊢);rcases Nat.lt_or_ge k p.sections.length with hlt|hge
  ·rw[zao hlt]at hg
   rw[sumS]at hg
   have hm:=zk9 (nth p.sections k).ends.length
   unfold minK at hg hm
   repeat' (first|refine zab [0,1,2,3,4,5,27,32,49] fun K hK=>?_|refine AWp.block ?_|(refine hK.go ?_;clear hK K)|refine Cont.go (by assumption) ?_|(refine cnd2 rfl (fun h=>?_) (fun h=>?_)<;>(try first|exact h.elim|obtain rfl:(_:Bool)=true:=h|obtain rfl:(_:Bool)=false:=h)<;>first|(exfalso;omega)|skip)|((first|refine AWp.reg hE hM ?_|refine AWp.regd hE hM ?_|refine AWp.ret ?_|refine AWp.skip ?_|refine AWp.exit ?_|(refine pk2 (fun h=>?_) (fun h=>?_)<;>(try first|exact h.elim|obtain rfl:(_:Bool)=true:=h|obtain rfl:(_:Bool)=false:=h))|refine zac (fun h=>?_) ?_|(refine hQ _ _ _ rfl ?_;clear hQ hR hE hM)|(refine hR _ _ (hQ _ _ _ rfl ?_);clear hQ hR hE hM)|(refine zaf ?_ ?_;focus first|omega|(refine zad ?_;(refine no_implicit_lambda% (st ?_);try with_reducible exact True.intro);done)))<;>try (refine no_implicit_lambda% (st ?_);try with_reducible exact True.intro)))
   refine ⟨(k+1,_),by (try dsimp only);omega,⟨by (try dsimp only);omega,by (try dsimp only);omega,hg⟩, ?_⟩;(try dsimp only);(first|omega|(simp;done)|(simp;omega)|((refine no_implicit_lambda% (st ?_);try with_reducible exact True.intro);done)|(simp[List.map_set, *];done)|(simp[List.map_set, *];rfl)|((refine no_implicit_lambda% (st ?_);try with_reducible exact True.intro);simp[List.map_set, *];done)|((try (refine no_implicit_lambda% (st ?_);try with_reducible exact True.intro));(repeat' refine And.intro ?_ ?_)<;>first|omega|rfl|(simp;done)|(simp;omega)|(simp;rfl)|(simp[List.map_set, *];done)|(simp[List.map_set, *];rfl)))
  ·rw[List.drop_eq_nil_of_le hge,sumS]at hg
   repeat' (first|refine zab [0,1,2,3,4,5,27,32,49] fun K hK=>?_|refine AWp.block ?_|(refine hK.go ?_;clear hK K)|refine Cont.go (by assumption) ?_|(refine cnd2 rfl (fun h=>?_) (fun h=>?_)<;>(try first|exact h.elim|obtain rfl:(_:Bool)=true:=h|obtain rfl:(_:Bool)=false:=h)<;>first|(exfalso;omega)|skip)|((first|refine AWp.reg hE hM ?_|refine AWp.regd hE hM ?_|refine AWp.ret ?_|refine AWp.skip ?_|refine AWp.exit ?_|(refine pk2 (fun h=>?_) (fun h=>?_)<;>(try first|exact h.elim|obtain rfl:(_:Bool)=true:=h|obtain rfl:(_:Bool)=false:=h))|refine zac (fun h=>?_) ?_|(refine hQ _ _ _ rfl ?_;clear hQ hR hE hM)|(refine hR _ _ (hQ _ _ _ rfl ?_);clear hQ hR hE hM)|(refine zaf ?_ ?_;focus first|omega|(refine zad ?_;(refine no_implicit_lambda% (st ?_);try with_reducible exact True.intro);done)))<;>try (refine no_implicit_lambda% (st ?_);try with_reducible exact True.intro)))
   refine zaj (ι:=Nat×Int) [1,2,3,5] (fun zz=>[(3,.n zz.2),(5,.n zz.1)]) (fun zz=>[]) (fun zz=>zz.1≤p.routes.length∧(0≤zz.2∧zz.2≤100000+3000*zz.1)∧(sumR zz.2 (p.routes.drop zz.1)=sumR t p.routes)) (fun zz=>p.routes.length-zz.1) (0,t) ⟨Nat.zero_le _,(by first|rfl|assumption|omega|(simp;done)|(simp;omega)|grind),(by first|rfl|assumption|omega|(simp;done)|(simp;omega)|grind)⟩ (by (try dsimp only);(refine no_implicit_lambda% (st ?_);try with_reducible exact True.intro)<;>first|omega|(simp;done)) (by (try dsimp only);(refine no_implicit_lambda% (st ?_);try with_reducible exact True.intro)<;>first|omega|(simp;done)) ?_;rintro ⟨k2,u⟩ ⟨hk,hu,hg2⟩;(try dsimp only at hk hu hg2 ⊢);rcases Nat.lt_or_ge k2 p.routes.length with hlt|hge
   ·rw[zao (by assumption),sumR]at hg2
    have hm1:=zk9 (nth p.routes k2).path.length
    have hm2:=zk9 (nth p.routes k2).over.length
    have hm3:=zk9 (nth p.routes k2).flanks.length
    unfold minK at hg2 hm1 hm2 hm3
    repeat' (first|refine zab [0,1,2,3,4,5,27,32,49] fun K hK=>?_|refine AWp.block ?_|(refine hK.go ?_;clear hK K)|refine Cont.go (by assumption) ?_|(refine cnd2 rfl (fun h=>?_) (fun h=>?_)<;>(try first|exact h.elim|obtain rfl:(_:Bool)=true:=h|obtain rfl:(_:Bool)=false:=h)<;>first|(exfalso;omega)|skip)|((first|refine AWp.reg hE hM ?_|refine AWp.regd hE hM ?_|refine AWp.ret ?_|refine AWp.skip ?_|refine AWp.exit ?_|(refine pk2 (fun h=>?_) (fun h=>?_)<;>(try first|exact h.elim|obtain rfl:(_:Bool)=true:=h|obtain rfl:(_:Bool)=false:=h))|refine zac (fun h=>?_) ?_|(refine hQ _ _ _ rfl ?_;clear hQ hR hE hM)|(refine hR _ _ (hQ _ _ _ rfl ?_);clear hQ hR hE hM)|(refine zaf ?_ ?_;focus first|omega|(refine zad ?_;(refine no_implicit_lambda% (st ?_);try with_reducible exact True.intro);done)))<;>try (refine no_implicit_lambda% (st ?_);try with_reducible exact True.intro)))
    refine ⟨(k2+1,_),by (try dsimp only);omega,⟨by (try dsimp only);omega,by (try dsimp only);omega,hg2⟩, ?_⟩;(try dsimp only);(first|omega|(simp;done)|(simp;omega)|((refine no_implicit_lambda% (st ?_);try with_reducible exact True.intro);done)|(simp[List.map_set, *];done)|(simp[List.map_set, *];rfl)|((refine no_implicit_lambda% (st ?_);try with_reducible exact True.intro);simp[List.map_set, *];done)|((try (refine no_implicit_lambda% (st ?_);try with_reducible exact True.intro));(repeat' refine And.intro ?_ ?_)<;>first|omega|rfl|(simp;done)|(simp;omega)|(simp;rfl)|(simp[List.map_set, *];done)|(simp[List.map_set, *];rfl)))
   ·rw[List.drop_eq_nil_of_le (by assumption),sumR]at hg2
    repeat' (first|refine zab [0,1,2,3,4,5,27,32,49] fun K hK=>?_|refine AWp.block ?_|(refine hK.go ?_;clear hK K)|refine Cont.go (by assumption) ?_|(refine cnd2 rfl (fun h=>?_) (fun h=>?_)<;>(try first|exact h.elim|obtain rfl:(_:Bool)=true:=h|obtain rfl:(_:Bool)=false:=h)<;>first|(exfalso;omega)|skip)|((first|refine AWp.reg hE hM ?_|refine AWp.regd hE hM ?_|refine AWp.ret ?_|refine AWp.skip ?_|refine AWp.exit ?_|(refine pk2 (fun h=>?_) (fun h=>?_)<;>(try first|exact h.elim|obtain rfl:(_:Bool)=true:=h|obtain rfl:(_:Bool)=false:=h))|refine zac (fun h=>?_) ?_|(refine hQ _ _ _ rfl ?_;clear hQ hR hE hM)|(refine hR _ _ (hQ _ _ _ rfl ?_);clear hQ hR hE hM)|(refine zaf ?_ ?_;focus first|omega|(refine zad ?_;(refine no_implicit_lambda% (st ?_);try with_reducible exact True.intro);done)))<;>try (refine no_implicit_lambda% (st ?_);try with_reducible exact True.intro)))
    rw[hg2,hg]
theorem zlD {p:Pln} (hp:Pln.ok p) (hg:zea p=false):Sm p:=by
 have h1:zcZ p=false:=by
  unfold zea at hg
  simp only[Bool.or_eq_false_iff]at hg
  exact hg.1
 have hb:p.sections.length≤100∧p.points.length≤100∧p.signals.length≤100∧p.routes.length≤100:=by
  simp[zcZ]at h1;omega
 obtain ⟨_,_,h3,h4,h5,h6⟩:=hp
 refine ⟨by omega,fun s hs=>?_,by omega,by omega,by omega,fun r hr=>?_⟩
 ·have:=(h3.2 s hs).2.2.1
  exact Nat.le_trans this (by decide)
 ·have:=h6.2 r hr
  exact ⟨Nat.le_trans this.2.2.2.1.1 (by decide),Nat.le_trans this.2.2.2.2.1.1 (by decide),Nat.le_trans this.2.2.2.2.2.1.1 (by decide)⟩
theorem zgb {s:State} (h:zeo s=false):SmS s:=by
 unfold zeo at h;unfold SmS;simp at h;omega
end Go.Lev
namespace Go.Lev
open Go.Eng
set_option maxRecDepth 10000
set_option maxHeartbeats 4000000
variable {P:Program} {inv:Nat→Option Nat} {w0:World} {M:Nat→Prop}
def zfP {α:Type} (f:α→Int) (n:Int) (g:α→α) (l:List α):List α:=l.map fun x=>if f x=n then g x else x
theorem zh3 {α:Type} [Inhabited α] (f:α→Int) (n:Int) (g:α→α):∀ {l:List α},(l.map f).Nodup→∀ {k:Nat},k<l.length→f (nth l k)=n→l.set k (g (nth l k))=zfP f n g l
 |[],_,k,h,_=>by simp at h
 |x::r,hn,0,_,e=>by
  simp only[List.map_cons,List.nodup_cons]at hn
  have e:f x=n:=e
  unfold zfP
  rw[List.set_cons_zero,List.map_cons,if_pos e]
  congr 1
  symm
  refine (List.map_congr_left fun y hy=>?_).trans (List.map_id r)
  rw[if_neg (fun h=>hn.1 (by rw[e,←h];exact List.mem_map_of_mem hy))]
  rfl
 |x::r,hn,k+1,h,e=>by
  simp only[List.map_cons,List.nodup_cons]at hn
  have hk:k<r.length:=by simpa using h
  have e:f (nth r k)=n:=e
  have ih:=zh3 f n g hn.2 hk e
  unfold zfP at ih ⊢
  rw[List.set_cons_succ,List.map_cons,if_neg (fun h=>hn.1 (by rw[h,←e];exact List.mem_map_of_mem (zat hk)))]
  exact congrArg (x::·) ih
theorem zcb {α:Type} (f:α→Int) (n:Int) (g:α→α) (l:List α):(zfP f n g l).length=l.length:=by simp[zfP]
theorem zeV {α:Type} [Inhabited α] (f:α→Int) (n:Int) (l:List α):(zcY (fun x=>decide (f x=n)) 0 l=-1∧∀ x∈l,f x≠n)∨∃ i:Nat,i<l.length∧zcY (fun x=>decide (f x=n)) 0 l=(i:Int)∧f (nth l i)=n:=by
 rcases zbR (fun x:α=>decide (f x=n)) l 0 with ⟨h1,h2⟩|⟨i,h1,h2,h3⟩
 ·exact .inl ⟨h1,znZ h2⟩
 ·exact .inr ⟨i,h1,by omega,(zdF (f:=f) h3).2⟩
end Go.Lev
namespace Go.Lev
open Go.Eng
set_option maxRecDepth 10000
set_option maxHeartbeats 4000000
variable {P:Program} {inv:Nat→Option Nat} {w0:World} {M:Nat→Prop}
def zdw (s:State) (n v:Int):State:=⟨zfP Track.id n (fun t=>⟨t.id,v⟩) s.tracks,s.switches,s.locks⟩
def zjY (s:State) (n v:Int):State:=⟨s.tracks,zfP Switch.id n (fun t=>⟨t.id,v,t.call⟩) s.switches,s.locks⟩
def zgQ (s:State) (n:Int):Prop:=∃ t∈s.tracks,t.id=n
def zhp (s:State) (n:Int):Prop:=∃ t∈s.switches,t.id=n
instance (s:State) (n:Int):Decidable (zgQ s n):=by unfold zgQ;infer_instance
instance (s:State) (n:Int):Decidable (zhp s n):=by unfold zhp;infer_instance
def zaM (p:Pln) (s:State) (n v:Int):Int:=if zak p s=0 then (if zgQ s n then (if v=0∨v=1 then 0 else 2) else 6) else zak p s
def zbE (p:Pln) (s:State) (n v:Int):Int:=if zak p s=0 then (if zhp s n then (if 0≤v∧v≤2 then 0 else 2) else 6) else zak p s
theorem znw (hH:HasAll P inv) (n:Int) (x:Track):PC P inv 86 ([.agg x.c]++[.ip 1 [[.n n]] 0 0]) (·=.b (decide (x.id=n))):=by
 refine zae (F:=cd86) (hH.has _ _ rfl) (Nat.le_of_ble_eq_true rfl) fun w0 M Q hM hQ hR=>?_;have hE:=hH.callable;dsimp only[cd86,qm,ql,qf,qi,qb,qc,qp,qv,qN,qT,qF,qt]at hQ ⊢
 repeat' (first|refine zab [0,1,2,3] fun K hK=>?_|refine AWp.block ?_|(refine hK.go ?_;clear hK K)|refine Cont.go (by assumption) ?_|(refine cnd2 rfl (fun h=>?_) (fun h=>?_)<;>(try first|exact h.elim|obtain rfl:(_:Bool)=true:=h|obtain rfl:(_:Bool)=false:=h)<;>first|(exfalso;omega)|skip)|((first|refine AWp.reg hE hM ?_|refine AWp.regd hE hM ?_|refine AWp.ret ?_|refine AWp.skip ?_|refine AWp.exit ?_|(refine pk2 (fun h=>?_) (fun h=>?_)<;>(try first|exact h.elim|obtain rfl:(_:Bool)=true:=h|obtain rfl:(_:Bool)=false:=h))|refine zac (fun h=>?_) ?_|(refine hQ _ _ _ rfl ?_;clear hQ hR hE hM)|(refine hR _ _ (hQ _ _ _ rfl ?_);clear hQ hR hE hM)|(refine zaf ?_ ?_;focus first|omega|(refine zad ?_;(refine no_implicit_lambda% (st ?_);try with_reducible exact True.intro);done)))<;>try (refine no_implicit_lambda% (st ?_);try with_reducible exact True.intro)))
theorem znv (hH:HasAll P inv) (n:Int) (x:Switch):PC P inv 88 ([.agg x.c]++[.ip 1 [[.n n]] 0 0]) (·=.b (decide (x.id=n))):=by
 refine zae (F:=cd88) (hH.has _ _ rfl) (Nat.le_of_ble_eq_true rfl) fun w0 M Q hM hQ hR=>?_;have hE:=hH.callable;dsimp only[cd88,qm,ql,qf,qi,qb,qc,qp,qv,qN,qT,qF,qt]at hQ ⊢
 repeat' (first|refine zab [0,1,2,3] fun K hK=>?_|refine AWp.block ?_|(refine hK.go ?_;clear hK K)|refine Cont.go (by assumption) ?_|(refine cnd2 rfl (fun h=>?_) (fun h=>?_)<;>(try first|exact h.elim|obtain rfl:(_:Bool)=true:=h|obtain rfl:(_:Bool)=false:=h)<;>first|(exfalso;omega)|skip)|((first|refine AWp.reg hE hM ?_|refine AWp.regd hE hM ?_|refine AWp.ret ?_|refine AWp.skip ?_|refine AWp.exit ?_|(refine pk2 (fun h=>?_) (fun h=>?_)<;>(try first|exact h.elim|obtain rfl:(_:Bool)=true:=h|obtain rfl:(_:Bool)=false:=h))|refine zac (fun h=>?_) ?_|(refine hQ _ _ _ rfl ?_;clear hQ hR hE hM)|(refine hR _ _ (hQ _ _ _ rfl ?_);clear hQ hR hE hM)|(refine zaf ?_ ?_;focus first|omega|(refine zad ?_;(refine no_implicit_lambda% (st ?_);try with_reducible exact True.intro);done)))<;>try (refine no_implicit_lambda% (st ?_);try with_reducible exact True.intro)))
theorem sec_po (hH:HasAll P inv) (hI:HasIds P inv) (p:Pln) (hp:Sm p) (s:State) (hs:SmS s) (n v:Int) (he:zaM p s n v=0):PO P inv 73 [.agg p.c,.agg s.c,.n n,.n v] (.tup [stVb 6 (zdw s n v),.n 0]) (stRb 6 (zdw s n v)):=by
 have hc:zak p s=0∧zgQ s n∧(v=0∨v=1):=by
  unfold zaM at he
  split at he
  ·rename_i h1
   split at he
   ·rename_i h2
    split at he
    ·rename_i h3;exact ⟨h1,h2,h3⟩
    ·cases he
   ·cases he
  ·rename_i h1;exact absurd he h1
 obtain ⟨hc,⟨t,ht,htn⟩,hv⟩:=hc
 have c0:=zaS hH hI p hp s hs
 rw[hc]at c0
 have c1:=zcw hH s hs
 obtain ⟨h1,h2,h3⟩:=hs
 have c2:=znH hH s.tracks (fun x _=>znw hH n x) (by omega)
 have hno:(s.tracks.map Track.id).Nodup:=by rw[trk_ids (zar hc).2.1];exact zmS (zbj hc)
 rcases zeV Track.id n s.tracks with ⟨_,h4⟩|⟨k,hk,h4,h5⟩
 ·exact absurd htn (h4 t ht)
 ·rw[h4]at c2
  have e1:=zh3 Track.id n (fun t=>(⟨t.id,v⟩:Track)) hno hk h5
  have e2:=zdV (c:=Track.c) (l:=s.tracks) (k:=k) (i:=1) hk (by omega) (.i .u8 v) (⟨(nth s.tracks k).id,v⟩:Track) rfl
  rw[e1]at e2
  unfold stV stR at c1
  refine zbF (F:=cd73) (hH.has _ _ rfl) (Nat.le_of_ble_eq_true rfl) fun w0 M Q hM hQ hR=>?_;have hE:=hH.callable;dsimp only[cd73,qm,ql,qf,qi,qb,qc,qp,qv,qN,qT,qF,qt]at hQ ⊢
  skip
  repeat' (first|refine zab [0,1,2,3,4,5,6,8,9,10,11,16,26,33] fun K hK=>?_|refine AWp.block ?_|(refine hK.go ?_;clear hK K)|refine Cont.go (by assumption) ?_|(refine cnd2 rfl (fun h=>?_) (fun h=>?_)<;>(try first|exact h.elim|obtain rfl:(_:Bool)=true:=h|obtain rfl:(_:Bool)=false:=h)<;>first|(exfalso;omega)|skip)|((first|refine AWp.reg hE hM ?_|refine AWp.regd hE hM ?_|refine AWp.ret ?_|refine AWp.skip ?_|refine AWp.exit ?_|(refine pk2 (fun h=>?_) (fun h=>?_)<;>(try first|exact h.elim|obtain rfl:(_:Bool)=true:=h|obtain rfl:(_:Bool)=false:=h))|refine zac (fun h=>?_) ?_|refine zaa hM (c0) ?_|refine PO.callK hM ( c1) ?_|(refine AC.callK 30 (by omega) (by first|omega|(simp -dsimp -implicitDefEqProofs (disch:=omega) only[go_sem,reduceIte,↓reduceIte,Nat.reduceEqDiff,Nat.reduceLT,Nat.reduceLeDiff,Nat.reduceAdd,Nat.reduceSub,Nat.reduceMul,Int.reduceToNat,Int.reduceLT,Int.reduceLE,Int.reduceEq,Int.reduceNeg,Int.reduceNe,reduceCtorEq,e2];done)|(simp -dsimp -implicitDefEqProofs (disch:=omega) only[go_sem,reduceIte,↓reduceIte,Nat.reduceEqDiff,Nat.reduceLT,Nat.reduceLeDiff,Nat.reduceAdd,Nat.reduceSub,Nat.reduceMul,Int.reduceToNat,Int.reduceLT,Int.reduceLE,Int.reduceEq,Int.reduceNeg,Int.reduceNe,reduceCtorEq,e2];omega)) (zaw (F:=cd85) (hH.has _ _ rfl) (Nat.le_of_ble_eq_true rfl) fun Q hQ hR=>?_);dsimp only[cd85,qm,ql,qf,qi,qb,qc,qp,qv,qN,qT,qF,qt]at hQ ⊢)|(refine zam hM 4 ( c2) ?_ rfl ?_;(focus (simp -dsimp -implicitDefEqProofs (disch:=omega) only[go_sem,reduceIte,↓reduceIte,Nat.reduceEqDiff,Nat.reduceLT,Nat.reduceLeDiff,Nat.reduceAdd,Nat.reduceSub,Nat.reduceMul,Int.reduceToNat,Int.reduceLT,Int.reduceLE,Int.reduceEq,Int.reduceNeg,Int.reduceNe,reduceCtorEq,e2]<;>fail)))|(refine hQ _ _ _ rfl ?_;clear hQ hR)|(refine hR _ _ (hQ _ _ _ rfl ?_);clear hQ hR)|(refine zaf ?_ ?_;focus first|omega|(refine zad ?_;(refine no_implicit_lambda% (st ?_);try with_reducible exact True.intro);done)))<;>try simp -dsimp -implicitDefEqProofs (disch:=omega) only[go_sem,reduceIte,↓reduceIte,Nat.reduceEqDiff,Nat.reduceLT,Nat.reduceLeDiff,Nat.reduceAdd,Nat.reduceSub,Nat.reduceMul,Int.reduceToNat,Int.reduceLT,Int.reduceLE,Int.reduceEq,Int.reduceNeg,Int.reduceNe,reduceCtorEq,e2]))
  all_goals (left;unfold stVb stRb zdw;dsimp only;rw[zcb];constructor)
  all_goals (refine no_implicit_lambda% (st ?_);try with_reducible exact True.intro)
theorem det_po (hH:HasAll P inv) (hI:HasIds P inv) (p:Pln) (hp:Sm p) (s:State) (hs:SmS s) (n v:Int) (he:zbE p s n v=0):PO P inv 74 [.agg p.c,.agg s.c,.n n,.n v] (.tup [stVb 6 (zjY s n v),.n 0]) (stRb 6 (zjY s n v)):=by
 have hc:zak p s=0∧zhp s n∧(0≤v∧v≤2):=by
  unfold zbE at he
  split at he
  ·rename_i h1
   split at he
   ·rename_i h2
    split at he
    ·rename_i h3;exact ⟨h1,h2,h3⟩
    ·cases he
   ·cases he
  ·rename_i h1;exact absurd he h1
 obtain ⟨hc,⟨t,ht,htn⟩,hv⟩:=hc
 have c0:=zaS hH hI p hp s hs
 rw[hc]at c0
 have c1:=zcw hH s hs
 obtain ⟨h1,h2,h3⟩:=hs
 have c2:=znI hH s.switches (fun x _=>znv hH n x) (by omega)
 have hno:(s.switches.map Switch.id).Nodup:=by rw[zmz (zar hc).2.1];exact zjk (zbj hc)
 rcases zeV Switch.id n s.switches with ⟨_,h4⟩|⟨k,hk,h4,h5⟩
 ·exact absurd htn (h4 t ht)
 ·rw[h4]at c2
  have e1:=zh3 Switch.id n (fun t=>(⟨t.id,v,t.call⟩:Switch)) hno hk h5
  have e2:=zdV (c:=Switch.c) (l:=s.switches) (k:=k) (i:=1) hk (by omega) (.i .i64 v) (⟨(nth s.switches k).id,v,(nth s.switches k).call⟩:Switch) rfl
  rw[e1]at e2
  unfold stV stR at c1
  refine zbF (F:=cd74) (hH.has _ _ rfl) (Nat.le_of_ble_eq_true rfl) fun w0 M Q hM hQ hR=>?_;have hE:=hH.callable;dsimp only[cd74,qm,ql,qf,qi,qb,qc,qp,qv,qN,qT,qF,qt]at hQ ⊢
  skip
  repeat' (first|refine zab [0,1,2,3,4,5,6,8,9,10,11,16,26,33] fun K hK=>?_|refine AWp.block ?_|(refine hK.go ?_;clear hK K)|refine Cont.go (by assumption) ?_|(refine cnd2 rfl (fun h=>?_) (fun h=>?_)<;>(try first|exact h.elim|obtain rfl:(_:Bool)=true:=h|obtain rfl:(_:Bool)=false:=h)<;>first|(exfalso;omega)|skip)|((first|refine AWp.reg hE hM ?_|refine AWp.regd hE hM ?_|refine AWp.ret ?_|refine AWp.skip ?_|refine AWp.exit ?_|(refine pk2 (fun h=>?_) (fun h=>?_)<;>(try first|exact h.elim|obtain rfl:(_:Bool)=true:=h|obtain rfl:(_:Bool)=false:=h))|refine zac (fun h=>?_) ?_|refine zaa hM (c0) ?_|refine PO.callK hM ( c1) ?_|(refine AC.callK 30 (by omega) (by first|omega|(simp -dsimp -implicitDefEqProofs (disch:=omega) only[go_sem,reduceIte,↓reduceIte,Nat.reduceEqDiff,Nat.reduceLT,Nat.reduceLeDiff,Nat.reduceAdd,Nat.reduceSub,Nat.reduceMul,Int.reduceToNat,Int.reduceLT,Int.reduceLE,Int.reduceEq,Int.reduceNeg,Int.reduceNe,reduceCtorEq,e2];done)|(simp -dsimp -implicitDefEqProofs (disch:=omega) only[go_sem,reduceIte,↓reduceIte,Nat.reduceEqDiff,Nat.reduceLT,Nat.reduceLeDiff,Nat.reduceAdd,Nat.reduceSub,Nat.reduceMul,Int.reduceToNat,Int.reduceLT,Int.reduceLE,Int.reduceEq,Int.reduceNeg,Int.reduceNe,reduceCtorEq,e2];omega)) (zaw (F:=cd87) (hH.has _ _ rfl) (Nat.le_of_ble_eq_true rfl) fun Q hQ hR=>?_);dsimp only[cd87,qm,ql,qf,qi,qb,qc,qp,qv,qN,qT,qF,qt]at hQ ⊢)|(refine zam hM 4 ( c2) ?_ rfl ?_;(focus (simp -dsimp -implicitDefEqProofs (disch:=omega) only[go_sem,reduceIte,↓reduceIte,Nat.reduceEqDiff,Nat.reduceLT,Nat.reduceLeDiff,Nat.reduceAdd,Nat.reduceSub,Nat.reduceMul,Int.reduceToNat,Int.reduceLT,Int.reduceLE,Int.reduceEq,Int.reduceNeg,Int.reduceNe,reduceCtorEq,e2]<;>fail)))|(refine hQ _ _ _ rfl ?_;clear hQ hR)|(refine hR _ _ (hQ _ _ _ rfl ?_);clear hQ hR)|(refine zaf ?_ ?_;focus first|omega|(refine zad ?_;(refine no_implicit_lambda% (st ?_);try with_reducible exact True.intro);done)))<;>try simp -dsimp -implicitDefEqProofs (disch:=omega) only[go_sem,reduceIte,↓reduceIte,Nat.reduceEqDiff,Nat.reduceLT,Nat.reduceLeDiff,Nat.reduceAdd,Nat.reduceSub,Nat.reduceMul,Int.reduceToNat,Int.reduceLT,Int.reduceLE,Int.reduceEq,Int.reduceNeg,Int.reduceNe,reduceCtorEq,e2]))
  all_goals (left;unfold stVb stRb zjY;dsimp only;rw[zcb];constructor)
  all_goals (refine no_implicit_lambda% (st ?_);try with_reducible exact True.intro)
def zjZ (p:Pln) (s:State) (n v:Int):State:=if zaM p s n v=0 then zdw s n v else State.z
def detR (p:Pln) (s:State) (n v:Int):State:=if zbE p s n v=0 then zjY s n v else State.z
theorem zi1 (hH:HasAll P inv) (hI:HasIds P inv) (p:Pln) (hp:Sm p) (s:State) (hs:SmS s) (n v:Int):PC P inv 73 [.agg p.c,.agg s.c,.n n,.n v] (·=.tup [.agg (zjZ p s n v).c,.n (zaM p s n v)]):=by
 unfold zjZ
 by_cases he:zaM p s n v=0
 ·have:=(sec_po hH hI p hp s hs n v he).pc
  rw[zfb]at this
  rw[if_pos he,he]
  exact this
 ·rw[if_neg he]
  have c0:=zaS hH hI p hp s hs
  have c1:=zcw hH s hs
  unfold zaM at he ⊢
  by_cases hc:zak p s=0
  ·rw[if_pos hc]at he ⊢
   rw[hc]at c0
   obtain ⟨h1,h2,h3⟩:=hs
   have c2:=znH hH s.tracks (fun x _=>znw hH n x) (by omega)
   unfold stV stR at c1
   rcases zeV Track.id n s.tracks with ⟨h4,h5⟩|⟨k,hk,h4,h5⟩
   ·rw[if_neg (fun ⟨t,ht,e⟩=>h5 t ht e)]
    rw[h4]at c2
    refine zae (F:=cd73) (hH.has _ _ rfl) (Nat.le_of_ble_eq_true rfl) fun w0 M Q hM hQ hR=>?_;have hE:=hH.callable;dsimp only[cd73,qm,ql,qf,qi,qb,qc,qp,qv,qN,qT,qF,qt]at hQ ⊢
    skip
    repeat' (first|refine zab [0,1,2,3,4,5,6,8,9,10,11,16,26,33] fun K hK=>?_|refine AWp.block ?_|(refine hK.go ?_;clear hK K)|refine Cont.go (by assumption) ?_|(refine cnd2 rfl (fun h=>?_) (fun h=>?_)<;>(try first|exact h.elim|obtain rfl:(_:Bool)=true:=h|obtain rfl:(_:Bool)=false:=h)<;>first|(exfalso;omega)|skip)|((first|refine AWp.reg hE hM ?_|refine AWp.regd hE hM ?_|refine AWp.ret ?_|refine AWp.skip ?_|refine AWp.exit ?_|(refine pk2 (fun h=>?_) (fun h=>?_)<;>(try first|exact h.elim|obtain rfl:(_:Bool)=true:=h|obtain rfl:(_:Bool)=false:=h))|refine zac (fun h=>?_) ?_|refine zaa hM (c0) ?_|refine PO.callK hM ( c1) ?_|(refine AC.callK 30 (by omega) (by first|omega|((refine no_implicit_lambda% (st ?_);try with_reducible exact True.intro);done)|((refine no_implicit_lambda% (st ?_);try with_reducible exact True.intro);omega)) (zaw (F:=cd85) (hH.has _ _ rfl) (Nat.le_of_ble_eq_true rfl) fun Q hQ hR=>?_);dsimp only[cd85,qm,ql,qf,qi,qb,qc,qp,qv,qN,qT,qF,qt]at hQ ⊢)|(refine zam hM 4 ( c2) ?_ rfl ?_;(focus ((refine no_implicit_lambda% (st ?_);try with_reducible exact True.intro)<;>fail)))|(refine hQ _ _ _ rfl ?_;clear hQ hR)|(refine hR _ _ (hQ _ _ _ rfl ?_);clear hQ hR)|(refine zaf ?_ ?_;focus first|omega|(refine zad ?_;(refine no_implicit_lambda% (st ?_);try with_reducible exact True.intro);done)))<;>try (refine no_implicit_lambda% (st ?_);try with_reducible exact True.intro)))
    all_goals first|rfl|(exfalso;contradiction)|skip
   ·rw[if_pos ⟨_,zat hk,h5⟩]at he ⊢
    rw[h4]at c2
    by_cases hv:v=0∨v=1
    ·rw[if_pos hv]at he;exact absurd rfl he
    ·rw[if_neg hv]
     refine zae (F:=cd73) (hH.has _ _ rfl) (Nat.le_of_ble_eq_true rfl) fun w0 M Q hM hQ hR=>?_;have hE:=hH.callable;dsimp only[cd73,qm,ql,qf,qi,qb,qc,qp,qv,qN,qT,qF,qt]at hQ ⊢
     skip
     repeat' (first|refine zab [0,1,2,3,4,5,6,8,9,10,11,16,26,33] fun K hK=>?_|refine AWp.block ?_|(refine hK.go ?_;clear hK K)|refine Cont.go (by assumption) ?_|(refine cnd2 rfl (fun h=>?_) (fun h=>?_)<;>(try first|exact h.elim|obtain rfl:(_:Bool)=true:=h|obtain rfl:(_:Bool)=false:=h)<;>first|(exfalso;omega)|skip)|((first|refine AWp.reg hE hM ?_|refine AWp.regd hE hM ?_|refine AWp.ret ?_|refine AWp.skip ?_|refine AWp.exit ?_|(refine pk2 (fun h=>?_) (fun h=>?_)<;>(try first|exact h.elim|obtain rfl:(_:Bool)=true:=h|obtain rfl:(_:Bool)=false:=h))|refine zac (fun h=>?_) ?_|refine zaa hM (c0) ?_|refine PO.callK hM ( c1) ?_|(refine AC.callK 30 (by omega) (by first|omega|((refine no_implicit_lambda% (st ?_);try with_reducible exact True.intro);done)|((refine no_implicit_lambda% (st ?_);try with_reducible exact True.intro);omega)) (zaw (F:=cd85) (hH.has _ _ rfl) (Nat.le_of_ble_eq_true rfl) fun Q hQ hR=>?_);dsimp only[cd85,qm,ql,qf,qi,qb,qc,qp,qv,qN,qT,qF,qt]at hQ ⊢)|(refine zam hM 4 ( c2) ?_ rfl ?_;(focus ((refine no_implicit_lambda% (st ?_);try with_reducible exact True.intro)<;>fail)))|(refine hQ _ _ _ rfl ?_;clear hQ hR)|(refine hR _ _ (hQ _ _ _ rfl ?_);clear hQ hR)|(refine zaf ?_ ?_;focus first|omega|(refine zad ?_;(refine no_implicit_lambda% (st ?_);try with_reducible exact True.intro);done)))<;>try (refine no_implicit_lambda% (st ?_);try with_reducible exact True.intro)))
     all_goals first|rfl|(exfalso;omega)|skip
  ·rw[if_neg hc]
   generalize zak p s=e at c0 hc ⊢
   refine zae (F:=cd73) (hH.has _ _ rfl) (Nat.le_of_ble_eq_true rfl) fun w0 M Q hM hQ hR=>?_;have hE:=hH.callable;dsimp only[cd73,qm,ql,qf,qi,qb,qc,qp,qv,qN,qT,qF,qt]at hQ ⊢
   repeat' (first|refine zab [0,1,2,3,4,5,6,8,9,10,11,16,26,33] fun K hK=>?_|refine AWp.block ?_|(refine hK.go ?_;clear hK K)|refine Cont.go (by assumption) ?_|(refine cnd2 rfl (fun h=>?_) (fun h=>?_)<;>(try first|exact h.elim|obtain rfl:(_:Bool)=true:=h|obtain rfl:(_:Bool)=false:=h)<;>first|(exfalso;omega)|skip)|((first|refine AWp.reg hE hM ?_|refine AWp.regd hE hM ?_|refine AWp.ret ?_|refine AWp.skip ?_|refine AWp.exit ?_|(refine pk2 (fun h=>?_) (fun h=>?_)<;>(try first|exact h.elim|obtain rfl:(_:Bool)=true:=h|obtain rfl:(_:Bool)=false:=h))|refine zac (fun h=>?_) ?_|refine zaa hM (c0) ?_|(refine hQ _ _ _ rfl ?_;clear hQ hR hE hM)|(refine hR _ _ (hQ _ _ _ rfl ?_);clear hQ hR hE hM)|(refine zaf ?_ ?_;focus first|omega|(refine zad ?_;(refine no_implicit_lambda% (st ?_);try with_reducible exact True.intro);done)))<;>try (refine no_implicit_lambda% (st ?_);try with_reducible exact True.intro)))
   all_goals first|rfl|(exfalso;contradiction)|skip
theorem zn6 (hH:HasAll P inv) (hI:HasIds P inv) (p:Pln) (hp:Sm p) (s:State) (hs:SmS s) (n v:Int):PC P inv 74 [.agg p.c,.agg s.c,.n n,.n v] (·=.tup [.agg (detR p s n v).c,.n (zbE p s n v)]):=by
 unfold detR
 by_cases he:zbE p s n v=0
 ·have:=(det_po hH hI p hp s hs n v he).pc
  rw[zfb]at this
  rw[if_pos he,he]
  exact this
 ·rw[if_neg he]
  have c0:=zaS hH hI p hp s hs
  have c1:=zcw hH s hs
  unfold zbE at he ⊢
  by_cases hc:zak p s=0
  ·rw[if_pos hc]at he ⊢
   rw[hc]at c0
   obtain ⟨h1,h2,h3⟩:=hs
   have c2:=znI hH s.switches (fun x _=>znv hH n x) (by omega)
   unfold stV stR at c1
   rcases zeV Switch.id n s.switches with ⟨h4,h5⟩|⟨k,hk,h4,h5⟩
   ·rw[if_neg (fun ⟨t,ht,e⟩=>h5 t ht e)]
    rw[h4]at c2
    refine zae (F:=cd74) (hH.has _ _ rfl) (Nat.le_of_ble_eq_true rfl) fun w0 M Q hM hQ hR=>?_;have hE:=hH.callable;dsimp only[cd74,qm,ql,qf,qi,qb,qc,qp,qv,qN,qT,qF,qt]at hQ ⊢
    skip
    repeat' (first|refine zab [0,1,2,3,4,5,6,8,9,10,11,16,26,33] fun K hK=>?_|refine AWp.block ?_|(refine hK.go ?_;clear hK K)|refine Cont.go (by assumption) ?_|(refine cnd2 rfl (fun h=>?_) (fun h=>?_)<;>(try first|exact h.elim|obtain rfl:(_:Bool)=true:=h|obtain rfl:(_:Bool)=false:=h)<;>first|(exfalso;omega)|skip)|((first|refine AWp.reg hE hM ?_|refine AWp.regd hE hM ?_|refine AWp.ret ?_|refine AWp.skip ?_|refine AWp.exit ?_|(refine pk2 (fun h=>?_) (fun h=>?_)<;>(try first|exact h.elim|obtain rfl:(_:Bool)=true:=h|obtain rfl:(_:Bool)=false:=h))|refine zac (fun h=>?_) ?_|refine zaa hM (c0) ?_|refine PO.callK hM ( c1) ?_|(refine AC.callK 30 (by omega) (by first|omega|((refine no_implicit_lambda% (st ?_);try with_reducible exact True.intro);done)|((refine no_implicit_lambda% (st ?_);try with_reducible exact True.intro);omega)) (zaw (F:=cd87) (hH.has _ _ rfl) (Nat.le_of_ble_eq_true rfl) fun Q hQ hR=>?_);dsimp only[cd87,qm,ql,qf,qi,qb,qc,qp,qv,qN,qT,qF,qt]at hQ ⊢)|(refine zam hM 4 ( c2) ?_ rfl ?_;(focus ((refine no_implicit_lambda% (st ?_);try with_reducible exact True.intro)<;>fail)))|(refine hQ _ _ _ rfl ?_;clear hQ hR)|(refine hR _ _ (hQ _ _ _ rfl ?_);clear hQ hR)|(refine zaf ?_ ?_;focus first|omega|(refine zad ?_;(refine no_implicit_lambda% (st ?_);try with_reducible exact True.intro);done)))<;>try (refine no_implicit_lambda% (st ?_);try with_reducible exact True.intro)))
    all_goals first|rfl|(exfalso;contradiction)|skip
   ·rw[if_pos ⟨_,zat hk,h5⟩]at he ⊢
    rw[h4]at c2
    by_cases hv:0≤v∧v≤2
    ·rw[if_pos hv]at he;exact absurd rfl he
    ·rw[if_neg hv]
     refine zae (F:=cd74) (hH.has _ _ rfl) (Nat.le_of_ble_eq_true rfl) fun w0 M Q hM hQ hR=>?_;have hE:=hH.callable;dsimp only[cd74,qm,ql,qf,qi,qb,qc,qp,qv,qN,qT,qF,qt]at hQ ⊢
     skip
     repeat' (first|refine zab [0,1,2,3,4,5,6,8,9,10,11,16,26,33] fun K hK=>?_|refine AWp.block ?_|(refine hK.go ?_;clear hK K)|refine Cont.go (by assumption) ?_|(refine cnd2 rfl (fun h=>?_) (fun h=>?_)<;>(try first|exact h.elim|obtain rfl:(_:Bool)=true:=h|obtain rfl:(_:Bool)=false:=h)<;>first|(exfalso;omega)|skip)|((first|refine AWp.reg hE hM ?_|refine AWp.regd hE hM ?_|refine AWp.ret ?_|refine AWp.skip ?_|refine AWp.exit ?_|(refine pk2 (fun h=>?_) (fun h=>?_)<;>(try first|exact h.elim|obtain rfl:(_:Bool)=true:=h|obtain rfl:(_:Bool)=false:=h))|refine zac (fun h=>?_) ?_|refine zaa hM (c0) ?_|refine PO.callK hM ( c1) ?_|(refine AC.callK 30 (by omega) (by first|omega|((refine no_implicit_lambda% (st ?_);try with_reducible exact True.intro);done)|((refine no_implicit_lambda% (st ?_);try with_reducible exact True.intro);omega)) (zaw (F:=cd87) (hH.has _ _ rfl) (Nat.le_of_ble_eq_true rfl) fun Q hQ hR=>?_);dsimp only[cd87,qm,ql,qf,qi,qb,qc,qp,qv,qN,qT,qF,qt]at hQ ⊢)|(refine zam hM 4 ( c2) ?_ rfl ?_;(focus ((refine no_implicit_lambda% (st ?_);try with_reducible exact True.intro)<;>fail)))|(refine hQ _ _ _ rfl ?_;clear hQ hR)|(refine hR _ _ (hQ _ _ _ rfl ?_);clear hQ hR)|(refine zaf ?_ ?_;focus first|omega|(refine zad ?_;(refine no_implicit_lambda% (st ?_);try with_reducible exact True.intro);done)))<;>try (refine no_implicit_lambda% (st ?_);try with_reducible exact True.intro)))
     all_goals first|rfl|(exfalso;omega)|skip
  ·rw[if_neg hc]
   generalize zak p s=e at c0 hc ⊢
   refine zae (F:=cd74) (hH.has _ _ rfl) (Nat.le_of_ble_eq_true rfl) fun w0 M Q hM hQ hR=>?_;have hE:=hH.callable;dsimp only[cd74,qm,ql,qf,qi,qb,qc,qp,qv,qN,qT,qF,qt]at hQ ⊢
   repeat' (first|refine zab [0,1,2,3,4,5,6,8,9,10,11,16,26,33] fun K hK=>?_|refine AWp.block ?_|(refine hK.go ?_;clear hK K)|refine Cont.go (by assumption) ?_|(refine cnd2 rfl (fun h=>?_) (fun h=>?_)<;>(try first|exact h.elim|obtain rfl:(_:Bool)=true:=h|obtain rfl:(_:Bool)=false:=h)<;>first|(exfalso;omega)|skip)|((first|refine AWp.reg hE hM ?_|refine AWp.regd hE hM ?_|refine AWp.ret ?_|refine AWp.skip ?_|refine AWp.exit ?_|(refine pk2 (fun h=>?_) (fun h=>?_)<;>(try first|exact h.elim|obtain rfl:(_:Bool)=true:=h|obtain rfl:(_:Bool)=false:=h))|refine zac (fun h=>?_) ?_|refine zaa hM (c0) ?_|(refine hQ _ _ _ rfl ?_;clear hQ hR hE hM)|(refine hR _ _ (hQ _ _ _ rfl ?_);clear hQ hR hE hM)|(refine zaf ?_ ?_;focus first|omega|(refine zad ?_;(refine no_implicit_lambda% (st ?_);try with_reducible exact True.intro);done)))<;>try (refine no_implicit_lambda% (st ?_);try with_reducible exact True.intro)))
   all_goals first|rfl|(exfalso;contradiction)|skip
end Go.Lev
namespace Go.Lev
open Go.Eng
theorem zgP (a b:State):zeR b a=zeR a b:=by
 have h1:∀ (l m:List Switch),zaq zbB m l=zaq zbB l m:=by
  intro l
  induction l with
  |nil=>intro m;cases m<;>rfl
  |cons x l ih =>
   intro m
   cases m with
   |nil=>rfl
   |cons y m =>
    simp only[zaq,ih m]
    rw[show zbB y x=zbB x y by simp only[zbB,eq_comm]]
 have h2:∀ (l m:List Lock),zaq zbu m l=zaq zbu l m:=by
  intro l
  induction l with
  |nil=>intro m;cases m<;>rfl
  |cons x l ih =>
   intro m
   cases m with
   |nil=>rfl
   |cons y m =>
    simp only[zaq,ih m]
    rw[show zbu y x=zbu x y by simp only[zbu,eq_comm]]
 unfold zeR
 rw[h1,h2]
theorem zks {a b:State} (h1:a.switches=b.switches) (h2:a.locks=b.locks):zeR a b=true:=by
 have k1:∀ (l:List Switch),zaq zbB l l=true:=by
  intro l
  induction l with
  |nil=>rfl
  |cons x l ih=>simp[zaq,ih,zbB]
 have k2:∀ (l:List Lock),zaq zbu l l=true:=by
  intro l
  induction l with
  |nil=>rfl
  |cons x l ih=>simp[zaq,ih,zbu]
 unfold zeR
 rw[h1,h2,k1,k2];rfl
theorem zlz {p:Pln} {s:State} (h:zak p s=0) {ts:List Track} (ht:zaq zfQ ts p.sections=true):zak p ⟨ts,s.switches,s.locks⟩=0:=by
 rw[zhC]at h ⊢
 obtain ⟨h1,h2,h3,h4⟩:=h
 refine ⟨h1, ?_,h3,h4⟩
 simp only[zav,Bool.and_eq_true]at h2 ⊢
 exact ⟨ht,h2.2⟩
theorem zhy {α β:Type} [Inhabited α] [Inhabited β] {q:α→β→Bool}:∀ {a:List α} {b:List β},zaq q a b=true→∀ {i:Nat} {x:α},i<a.length→q x (nth b i)=true→zaq q (a.set i x) b=true
 |[],_,_,i,x,hi,_=>by simp at hi
 |y::ys,[],h,_,_,_,_=>by simp[zaq]at h
 |y::ys,z::zs,h,0,x,_,hx=>by
  simp only[zaq,Bool.and_eq_true]at h
  rw[List.set_cons_zero]
  simp only[zaq,Bool.and_eq_true]
  exact ⟨by simpa [nth] using hx,h.2⟩
 |y::ys,z::zs,h,i+1,x,hi,hx=>by
  simp only[zaq,Bool.and_eq_true]at h
  rw[List.set_cons_succ]
  simp only[zaq,Bool.and_eq_true]
  exact ⟨h.1,zhy h.2 (by simpa using hi) (by simpa [nth] using hx)⟩
theorem zj8 {p:Pln} {s:State} (h:zak p s=0) {ts:List Track} (ht:ts.length≠p.sections.length):zak p ⟨ts,s.switches,s.locks⟩=8:=by
 refine stCode_8 (zar h).1 fun h2=>ht ?_
 exact (zaR (zar h2).2.1).1
theorem zjr:∀ {l m:List Switch},zaq zbB l m=true→∀ C,zgO C l=zgO C m
 |[],[],_,_=>rfl
 |[],_::_,h,_=>by simp[zaq]at h
 |_::_,[],h,_=>by simp[zaq]at h
 |x::l,y::m,h,C=>by
  simp only[zaq,zbB,Bool.and_eq_true,decide_eq_true_eq]at h
  rw[zgO,zgO,h.1.1,h.1.2,zjr h.2]
theorem zl2 (w:WayR) {a b:Lock} (h:zbu a b=true):zbD w a=zbD w b∧zbW w a=zbW w b∧zcQ a=zcQ b∧a.id=b.id:=by
 simp only[zbu,Bool.and_eq_true,decide_eq_true_eq]at h
 refine ⟨by unfold zbD;rw[h.1.2,h.2],by unfold zbW;rw[h.1.2], ?_,h.1.1⟩
 funext x
 unfold zcQ
 rw[h.2]
theorem zhd {a b:Lock} (h:zcQ a=zcQ b) (C:List (Int×Int)):∀ (q:List AskR) (A:List Int) (t:Bool),zdp a C q A t=zdp b C q A t
 |[],_,_=>rfl
 |x::q,A,t=>by
  rw[zdp,zdp,h,zhd h C q,zhd h C q]
theorem zhN (ws:List WayR) (C:List (Int×Int)):∀ {l m:List Lock},zaq zbu l m=true→∀ (i:Nat) (H A:List Int) (t:Bool),zcP ws C i l H A t=zcP ws C i m H A t
 |[],[],_,_,_,_,_=>rfl
 |[],_::_,h,_,_,_,_=>by simp[zaq]at h
 |_::_,[],h,_,_,_,_=>by simp[zaq]at h
 |x::l,y::m,h,i,H,A,t=>by
  simp only[zaq,Bool.and_eq_true]at h
  obtain ⟨h1,h2,h3,h4⟩:=zl2 (nth ws i) h.1
  rw[zcP,zcP,h1,h2,h4,zhd h3,zhN ws C h.2]
theorem zfp (p:Pln) {a b:State} (h:zeR a b=true):za0 p a=za0 p b:=by
 simp only[zeR,Bool.and_eq_true]at h
 unfold za0
 rw[zjr h.1,zhN _ _ h.2]
theorem zee {p:Pln} {a b:State} (h:zak p a=0) (hk:zeR a b=true) (hb:zav p b=true):zak p b=0:=by
 obtain ⟨h1,h2,h3⟩:=zar h
 unfold zak
 rw[if_pos h1,if_pos ⟨hb,by rw[←zfp p hk];exact h3⟩]
theorem zgT {p:Pln} {a b:State} (h:zak p a=0) (hb:zak p b=0) (hk:zeR a b=true) (n:Int):zdD p b n=zdD p a n:=by
 unfold zdD
 rw[if_pos h,if_pos hb,zfp p hk]
theorem zmd {p:Pln} {a b:State} (h:zak p a=0) (hb:zak p b=0) (hk:zeR a b=true) (n:Int):zfN p b n=zfN p a n:=by
 unfold zfN
 rw[if_pos h,if_pos hb,zfp p hk]
theorem zbX {α β:Type} [Inhabited α] [Inhabited β] (q:α→β→Bool):∀ (a:List α) (b:List β),zaq q a b=true↔a.length=b.length∧∀ i,i<a.length→q (nth a i) (nth b i)=true
 |[],[]=>by simp[zaq]
 |[],_::_=>by simp[zaq]
 |_::_,[]=>by simp[zaq]
 |x::xs,y::ys=>by
  simp only[zaq,Bool.and_eq_true,zbX q xs ys,List.length_cons,Nat.add_right_cancel_iff]
  constructor
  ·rintro ⟨h1,h2,h3⟩
   refine ⟨h2,fun i hi=>?_⟩
   cases i with
   |zero=>exact h1
   |succ i=>exact h3 i (by omega)
  ·rintro ⟨h2,h3⟩
   exact ⟨h3 0 (by omega),h2,fun i hi=>h3 (i+1) (by omega)⟩
theorem za2 {α:Type} [Inhabited α] (f:Nat→α→α) {l:List α} {i:Nat} (h:i<l.length):nth (l.mapIdx f) i=f i (nth l i):=by
 rw[za3 (by simpa using h),za3 h,List.getElem_mapIdx]
theorem zkB {α:Type} [Inhabited α] {a b:List α} (hl:a.length=b.length) (h:∀ i,i<a.length→nth a i=nth b i):a=b:=by
 refine List.ext_getElem hl fun i h1 h2=>?_
 rw[←za3 h1,←za3 h2]
 exact h i h1
theorem zf1 (p:Pln) (s:State):zeR s (zcA p s)=true:=by
 unfold zeR zcA
 simp only[Bool.and_eq_true,zbX,List.length_mapIdx,true_and]
 refine ⟨fun i hi=>?_,fun i hi=>?_⟩
 ·rw[za2 _ hi];simp[zbB,znF]
 ·rw[za2 _ hi];unfold zhl;split<;>simp[zbu]
theorem znp {p:Pln} {s:State} (h:zav p s=true) {i:Nat} (hi:i<s.locks.length):zem (nth s.locks i) (nth p.routes i)=true:=by
 simp only[zav,Bool.and_eq_true]at h
 exact zdq h.2.2 hi
theorem zh5 {p:Pln} (h:OkP p) {r:Rte} (hr:r∈p.routes):1≤r.timer∧r.timer≤9:=by
 have h1:=h.rte r hr
 simp only[zfg,zeH,Bool.and_eq_true,Bool.not_eq_true',decide_eq_false_iff_not]at h1
 omega
theorem znn {l:Lock} {r:Rte} (h:zem l r=true):(l.left=0∧(l.phase=0∨l.phase=1∨l.phase=2))∨(1≤l.left∧l.left≤r.timer∧(l.phase=3∨l.phase=4)):=by
 simp only[zem,zej,Bool.and_eq_true]at h
 obtain ⟨_,h⟩:=h
 repeat' split at h
 all_goals (simp at h;try omega)
theorem znE {p:Pln} {s:State} (ho:OkP p) (h:zav p s=true):zav p (zcA p s)=true:=by
 have hl:=zaR h
 have h':=h
 unfold zav at h ⊢
 simp only[Bool.and_eq_true,zbX]at h ⊢
 unfold zcA
 simp only[List.length_mapIdx]
 refine ⟨⟨h.1.1,fun i hi=>?_⟩,⟨h.2.1.1,fun i hi=>?_⟩,h.2.2.1,fun i hi=>?_⟩
 ·have:=h.1.2 i hi
  rw[za2 _ hi]
  simp only[zfQ,Bool.and_eq_true,decide_eq_true_eq]at this
  exact (Bool.and_eq_true _ _).mpr ⟨decide_eq_true this.1,decide_eq_true (by show (2:Int)≤2;omega)⟩
 ·have:=h.2.1.2 i hi
  rw[za2 _ hi]
  simp only[ziR,zeQ,Bool.and_eq_true,decide_eq_true_eq]at this
  unfold ziR zeQ
  exact (Bool.and_eq_true _ _).mpr ⟨decide_eq_true this.1,(Bool.and_eq_true _ _).mpr ⟨rfl,(Bool.and_eq_true _ _).mpr ⟨decide_eq_true this.2.2.1,decide_eq_true this.2.2.2⟩⟩⟩
 ·have h1:=h.2.2.2 i hi
  have ht:=zh5 ho (zat (show i<p.routes.length by omega))
  rw[za2 _ hi]
  unfold zhl
  split
  ·rename_i h2
   have h3:=znn h1
   simp only[zem,zej,Bool.and_eq_true]at h1 ⊢
   obtain ⟨h4,h1⟩:=h1
   refine ⟨h4, ?_⟩
   try dsimp only
   rcases h3 with h3|⟨_,_,h3|h3⟩
   ·omega
   ·rw[h3]at h1 ⊢;simp at h1 ⊢;omega
   ·rw[h3]at h1 ⊢;simp at h1 ⊢;omega
  ·exact h1
theorem img_code {p:Pln} {s:State} (h:zak p s=0):zak p (zcA p s)=0:=zee h (zf1 p s) (znE (zbj h) (zar h).2.1)
theorem img_img {p:Pln} {s:State} (h:zak p s=0):zcA p (zcA p s)=zcA p s:=by
 have ho:=zbj h
 have hl:=zaR (zar h).2.1
 rw[zfO]
 refine ⟨zkB (by simp[zcA]) fun i hi=>?_,zkB (by simp[zcA]) fun i hi=>?_,zkB (by simp[zcA]) fun i hi=>?_⟩
 ·have hi':i<s.tracks.length:=by simpa [zcA] using hi
  show nth ((s.tracks.mapIdx imgT).mapIdx imgT) i=_
  rw[za2 _ (by simpa using hi'),show (zcA p s).tracks=s.tracks.mapIdx imgT from rfl,za2 _ hi']
  rfl
 ·have hi':i<s.switches.length:=by simpa [zcA] using hi
  show nth ((s.switches.mapIdx znF).mapIdx znF) i=_
  rw[za2 _ (by simpa using hi'),show (zcA p s).switches=s.switches.mapIdx znF from rfl,za2 _ hi']
  rfl
 ·have hi':i<s.locks.length:=by simpa [zcA] using hi
  show nth ((s.locks.mapIdx (zhl p)).mapIdx (zhl p)) i=_
  rw[za2 _ (by simpa using hi'),show (zcA p s).locks=s.locks.mapIdx (zhl p) from rfl,za2 _ hi']
  have ht:=zh5 ho (zat (show i<p.routes.length by omega))
  unfold zhl
  by_cases h2:0<(nth s.locks i).left
  ·rw[if_pos h2];dsimp only;rw[if_pos (by omega)]
  ·rw[if_neg h2,if_neg h2]
theorem upd1_id {α:Type} (f:α→Int) (n:Int) (g:α→α) (hg:∀ x,f (g x)=f x) (l:List α):(zfP f n g l).map f=l.map f:=by
 unfold zfP
 rw[List.map_map]
 refine List.map_congr_left fun x _=>?_
 simp only[Function.comp]
 split
 ·exact hg x
 ·rfl
theorem zmu {α:Type} (f:α→Int) (n:Int) (g h:α→α) (hg:∀ x,f (g x)=f x) (hh:∀ x,h (g x)=h x) (l:List α):zfP f n h (zfP f n g l)=zfP f n h l:=by
 unfold zfP
 rw[List.map_map]
 refine List.map_congr_left fun x _=>?_
 simp only[Function.comp]
 by_cases e:f x=n
 ·rw[if_pos e,if_pos (by rw[hg];exact e),if_pos e,hh]
 ·simp only[if_neg e]
theorem zmv {α:Type} (f:α→Int) {n m:Int} (hnm:n≠m) (g h:α→α) (hg:∀ x,f (g x)=f x) (hh:∀ x,f (h x)=f x) (l:List α):zfP f m h (zfP f n g l)=zfP f n g (zfP f m h l):=by
 unfold zfP
 rw[List.map_map,List.map_map]
 refine List.map_congr_left fun x _=>?_
 simp only[Function.comp]
 by_cases e:f x=n
 ·have e':¬f x=m:=fun e'=>hnm (e.symm.trans e')
  rw[if_pos e,if_neg e',if_neg (by rw[hg];exact e'),if_pos e]
 ·rw[if_neg e]
  by_cases e':f x=m
  ·rw[if_pos e',if_neg (by rw[hh];exact e)]
  ·rw[if_neg e',if_neg e]
theorem zeD (s:State) (n v w:Int):zdw (zdw s n v) n w=zdw s n w:=by
 unfold zdw
 rw[zmu Track.id n (fun t=>⟨t.id,v⟩) (fun t=>⟨t.id,w⟩) (fun _=>rfl) (fun _=>rfl)]
theorem zmN (s:State) {n m:Int} (h:n≠m) (v w:Int):zdw (zdw s n v) m w=zdw (zdw s m w) n v:=by
 unfold zdw
 rw[zmv Track.id h (fun t=>⟨t.id,v⟩) (fun t=>⟨t.id,w⟩) (fun _=>rfl) (fun _=>rfl)]
theorem zgg (s:State) (n v:Int):zeR s (zdw s n v)=true:=zks rfl rfl
theorem zi0 (s:State) (n v:Int):zeR s (zjY s n v)=true:=by
 unfold zeR zjY
 simp only[Bool.and_eq_true,zbX,zcb,true_and]
 refine ⟨fun i hi=>?_,fun i hi=>?_⟩
 ·rw[upd1_nth' hi];split<;>simp[zbB]
 ·simp[zbu]
where
 upd1_nth' {l:List Switch} {n v:Int} {i:Nat} (h:i<l.length):nth (zfP Switch.id n (fun t=>⟨t.id,v,t.call⟩) l) i=if (nth l i).id=n then ⟨(nth l i).id,v,(nth l i).call⟩ else nth l i:=by
  unfold zfP
  exact nthm (fun x=>if Switch.id x=n then (⟨x.id,v,x.call⟩:Switch) else x) h
theorem zhL {a b c:State} (h1:zeR a b=true) (h2:zeR b c=true):zeR a c=true:=by
 simp only[zeR,Bool.and_eq_true,zbX]at h1 h2 ⊢
 refine ⟨⟨h1.1.1.trans h2.1.1,fun i hi=>?_⟩,h1.2.1.trans h2.2.1,fun i hi=>?_⟩
 ·have k1:=h1.1.2 i hi
  have k2:=h2.1.2 i (by omega)
  simp only[zbB,Bool.and_eq_true,decide_eq_true_eq]at k1 k2 ⊢
  exact ⟨k1.1.trans k2.1,k1.2.trans k2.2⟩
 ·have k1:=h1.2.2 i hi
  have k2:=h2.2.2 i (by omega)
  simp only[zbu,Bool.and_eq_true,decide_eq_true_eq]at k1 k2 ⊢
  exact ⟨⟨k1.1.1.trans k2.1.1,k1.1.2.trans k2.1.2⟩,k1.2.trans k2.2⟩
theorem zlG {p:Pln} {s:State} {n v:Int} (h:zav p s=true) (hv:v≤2):zav p (zdw s n v)=true:=by
 unfold zav at h ⊢
 simp only[Bool.and_eq_true,zbX]at h ⊢
 unfold zdw
 simp only[zcb]
 refine ⟨⟨h.1.1,fun i hi=>?_⟩,h.2⟩
 have:=h.1.2 i hi
 unfold zfP
 rw[nthm (fun x=>if Track.id x=n then (⟨x.id,v⟩:Track) else x) hi]
 simp only[zfQ,Bool.and_eq_true,decide_eq_true_eq]at this ⊢
 split
 ·exact ⟨this.1,hv⟩
 ·exact this
theorem zlH {p:Pln} {s:State} {n v:Int} (h:zav p s=true) (hv:0≤v∧v≤2):zav p (zjY s n v)=true:=by
 unfold zav at h ⊢
 simp only[Bool.and_eq_true,zbX]at h ⊢
 unfold zjY
 simp only[zcb]
 refine ⟨h.1,⟨h.2.1.1,fun i hi=>?_⟩,h.2.2⟩
 have:=h.2.1.2 i hi
 unfold zfP
 rw[nthm (fun x=>if Switch.id x=n then (⟨x.id,v,x.call⟩:Switch) else x) hi]
 simp only[ziR,zeQ,Bool.and_eq_true,decide_eq_true_eq]at this ⊢
 split
 ·exact ⟨this.1,hv,this.2.2⟩
 ·exact this
theorem zdv {p:Pln} {s:State} {n v:Int} (h:zak p s=0) (hv:v≤2):zak p (zdw s n v)=0:=zee h (zgg s n v) (zlG (zar h).2.1 hv)
theorem zgh {p:Pln} {s:State} {n v:Int} (h:zak p s=0) (hv:0≤v∧v≤2):zak p (zjY s n v)=0:=zee h (zi0 s n v) (zlH (zar h).2.1 hv)
end Go.Lev
namespace Go.Eng
mutual
def nz:AV→AV
 |.s0 sz=>.sl sz []
 |.agg cs=>.agg (nzL cs)
 |.tup cs=>.tup (nzL cs)
 |.fn j cs=>.fn j (nzL cs)
 |.sl sz es=>.sl sz (nzR es)
 |.ip sz es i k=>.ip sz (nzR es) i k
 |.i k n=>.i k n
 |.b t=>.b t
 |.v x=>.v x
 |.u=>.u
 |.ptr l ver off=>.ptr l ver off
 |.sm l ver off n sz=>.sm l ver off n sz
 |.mp l=>.mp l
 |.top=>.top
def nzL:List AV→List AV
 |[]=>[]
 |x::xs=>nz x::nzL xs
def nzR:List (List AV)→List (List AV)
 |[]=>[]
 |r::rs=>nzL r::nzR rs
end
theorem zng:∀ xs:List AV,(nzL xs).length=xs.length
 |[]=>by simp only[nzL]
 |x::xs=>by simp only[nzL,List.length_cons,zng xs]
theorem zkp:∀ xs:List (List AV),(nzR xs).length=xs.length
 |[]=>by simp only[nzR]
 |x::xs=>by simp only[nzR,List.length_cons,zkp xs]
mutual
theorem zko:∀ x:AV,x.bare=true→(nz x).bare=true
 |.s0 sz,_=>by simp only[nz,AV.bare]
 |.agg cs,h=>by simp only[nz,AV.bare]at h ⊢;exact zfZ cs h
 |.tup cs,h=>by simp only[nz,AV.bare]at h ⊢;exact zfZ cs h
 |.fn j cs,h=>by simp only[nz,AV.bare]at h ⊢;exact zfZ cs h
 |.sl sz es,_=>by simp only[nz,AV.bare]
 |.ip sz es i k,_=>by simp only[nz,AV.bare]
 |.i k n,_=>by simp only[nz,AV.bare]
 |.b t,_=>by simp only[nz,AV.bare]
 |.v x,_=>by simp only[nz,AV.bare]
 |.u,_=>by simp only[nz,AV.bare]
 |.ptr l ver off,h=>by simp only[nz];exact h
 |.sm l ver off n sz,h=>by simp only[nz];exact h
 |.mp l,h=>by simp only[nz];exact h
 |.top,_=>by simp only[nz,AV.bare]
theorem zfZ:∀ xs:List AV,zai xs=true→zai (nzL xs)=true
 |[],_=>by simp only[nzL,zai]
 |x::xs,h=>by
  simp only[zai,Bool.and_eq_true]at h
  simp only[nzL,zai,zko x h.1,zfZ xs h.2,Bool.and_self]
end
mutual
theorem zk0:∀ (c:Ctx) (x:AV) (y:Value),rel c x y→rel c (nz x) y
 |c,.s0 sz,y,r=>by
  simp only[nz,rel]at r ⊢
  obtain ⟨ad,e⟩:=r
  exact ⟨ad,0,e,Nat.le_refl _,fun h=>absurd rfl h⟩
 |c,.agg cs,y,r=>by
  simp only[nz,rel]at r ⊢
  obtain ⟨xs,e,r⟩:=r
  exact ⟨xs,e,zk3 c cs _ r⟩
 |c,.tup cs,y,r=>by
  simp only[nz,rel]at r ⊢
  obtain ⟨xs,e,r⟩:=r
  exact ⟨xs,e,zkh c cs _ r⟩
 |c,.fn j cs,y,r=>by
  simp only[nz,rel]at r ⊢
  obtain ⟨g,xs,e,hi,r⟩:=r
  exact ⟨g,xs,e,hi,zkh c cs _ r⟩
 |c,.sl sz es,y,r=>by
  simp only[nz,rel]at r ⊢
  obtain ⟨ad,cap,e,h,r⟩:=r
  refine ⟨ad,cap,by rw[zkp];exact e,by rw[zkp];exact h,fun hne=>?_⟩
  have hne':es≠[]:=fun e0=>hne (by rw[e0];simp only[nzR])
  obtain ⟨a,e1,h1,h2,h3⟩:=r hne'
  exact ⟨a,e1,h1,h2,zfi c sz a 0 es h3⟩
 |c,.ip sz es i k,y,r=>by
  simp only[nz,rel]at r ⊢
  obtain ⟨a,e,h1,h2,h3⟩:=r
  exact ⟨a,e,h1,h2,zfi c sz a 0 es h3⟩
 |c,.i k n,y,r=>by simp only[nz];exact r
 |c,.b t,y,r=>by simp only[nz];exact r
 |c,.v x,y,r=>by simp only[nz];exact r
 |c,.u,y,r=>by simp only[nz];exact r
 |c,.ptr l ver off,y,r=>by simp only[nz];exact r
 |c,.sm l ver off n sz,y,r=>by simp only[nz];exact r
 |c,.mp l,y,r=>by simp only[nz];exact r
 |c,.top,y,r=>by simp only[nz];exact r
theorem zkh:∀ (c:Ctx) (xs:List AV) (ys:List Value),zbA c xs ys→zbA c (nzL xs) ys
 |c,[],ys,r=>by simp only[nzL];exact r
 |c,x::xs,ys,r=>by
  simp only[nzL,zbA]at r ⊢
  obtain ⟨y,ys',e,r1,r2⟩:=r
  exact ⟨y,ys',e,zk0 c x y r1,zkh c xs ys' r2⟩
theorem zk3:∀ (c:Ctx) (xs:List AV) (ys:List Value),relCs c xs ys→relCs c (nzL xs) ys
 |c,[],ys,r=>by simp only[nzL];exact r
 |c,x::xs,ys,r=>by
  simp only[nzL,relCs]at r ⊢
  obtain ⟨y,ys',e,ho,r1,r2⟩:=r
  exact ⟨y,ys',e,ho,zk0 c x y r1,zk3 c xs ys' r2⟩
theorem zja:∀ (c:Ctx) (a:Addr) (k:Nat) (xs:List AV),zbr c a k xs→zbr c a k (nzL xs)
 |c,a,k,[],r=>by simp only[nzL];exact r
 |c,a,k,x::xs,r=>by
  simp only[nzL,zbr]at r ⊢
  obtain ⟨⟨y,h1,h2,h3,h4⟩,r⟩:=r
  exact ⟨⟨y,h1,h2,zko x h3,zk0 _ x y h4⟩,zja c a (k+1) xs r⟩
theorem zfi:∀ (c:Ctx) (sz:Nat) (a:Addr) (k:Nat) (es:List (List AV)),zaB c sz a k es→zaB c sz a k (nzR es)
 |c,sz,a,k,[],r=>by simp only[nzR];exact r
 |c,sz,a,k,x::xs,r=>by
  simp only[nzR,zaB]at r ⊢
  exact ⟨by rw[zng];exact r.1,zja c a k x r.2.1,zfi c sz a (k+sz) xs r.2.2⟩
end
theorem PC.nzr {P:Program} {inv:Nat→Option Nat} {j:Nat} {args:List AV} {r:AV} (h:PC P inv j args (·=r)):PC P inv j args (·=nz r) :=
 fun g hg M w vs hM ha=>(h g hg M w vs hM ha).mono fun _ _ ⟨v,r',e,h1,h2,h3,h4⟩=>⟨v,nz r',e,by rw[h1],h2,zko r' h3,zk0 _ r' v h4⟩
attribute [go_sem] nz nzL nzR
end Go.Eng
namespace Go.Lev
open Go.Eng
set_option maxRecDepth 10000
set_option maxHeartbeats 4000000
variable {P:Program} {inv:Nat→Option Nat} {w0:World} {M:Nat→Prop}
def zgB:Pln:=⟨1,0,[⟨1,0,[⟨0,0⟩,⟨2,0⟩]⟩,⟨2,0,[⟨1,1⟩,⟨0,0⟩]⟩],[],[⟨1,1,1⟩],[⟨1,1,0,[2],[],[],3⟩]⟩
theorem smA:Sm zgB:=⟨by decide,by decide,by decide,by decide,by decide,by decide⟩
def stA:State:=⟨[⟨1,2⟩,⟨2,2⟩],[],[⟨1,0,0,0⟩]⟩
theorem smSA:SmS stA:=⟨by decide,by decide,by decide⟩
theorem okA:zbt zgB=true:=by decide +kernel
theorem atA:atR zgB=stA:=by decide +kernel
theorem codeA:zak zgB stA=0:=by decide +kernel
theorem soundA:zbq zgB=0:=by unfold zbq;rw[if_pos okA]
theorem zm7 (hH:HasAll P inv):PC P inv 66 [] (·=.agg zgB.c):=by
 have h:PC P inv 66 [] (·=.agg [.n 1,.n 0,.sl 3 (zgB.sections.map Section.c),.sl 2 [],.sl 3 (zgB.signals.map Sgn.c),.sl 7 [[.n 1,.n 1,.n 0,.sl 1 [[.n 2]],.s0 1,.s0 2,.n 3]]]):=by
  refine zae (F:=cd66) (hH.has _ _ rfl) (Nat.le_of_ble_eq_true rfl) fun w0 M Q hM hQ hR=>?_;have hE:=hH.callable;dsimp only[cd66,qm,ql,qf,qi,qb,qc,qp,qv,qN,qT,qF,qt]at hQ ⊢
  repeat' (first|refine zab [0] fun K hK=>?_|refine AWp.block ?_|(refine hK.go ?_;clear hK K)|refine Cont.go (by assumption) ?_|(refine cnd2 rfl (fun h=>?_) (fun h=>?_)<;>(try first|exact h.elim|obtain rfl:(_:Bool)=true:=h|obtain rfl:(_:Bool)=false:=h)<;>first|(exfalso;omega)|skip)|((first|refine AWp.reg hE hM ?_|refine AWp.regd hE hM ?_|refine AWp.ret ?_|refine AWp.skip ?_|refine AWp.exit ?_|(refine pk2 (fun h=>?_) (fun h=>?_)<;>(try first|exact h.elim|obtain rfl:(_:Bool)=true:=h|obtain rfl:(_:Bool)=false:=h))|refine zac (fun h=>?_) ?_|(refine hQ _ _ _ rfl ?_;clear hQ hR hE hM)|(refine hR _ _ (hQ _ _ _ rfl ?_);clear hQ hR hE hM)|(refine zaf ?_ ?_;focus first|omega|(refine zad ?_;(refine no_implicit_lambda% (st ?_);try with_reducible exact True.intro);done)))<;>try (refine no_implicit_lambda% (st ?_);try with_reducible exact True.intro)))
  rfl
 exact h.nzr
theorem zfy (hH:HasAll P inv) (hI:HasIds P inv):PC P inv 68 [] (·=.b true):=by
 have c0:=zm7 hH
 have c1:=sAt_pc hH hI zgB smA
 rw[atA,soundA]at c1
 have c2:=zaS hH hI zgB smA stA smSA
 rw[codeA]at c2
 unfold stA at c1 c2
 refine zae (F:=cd68) (hH.has _ _ rfl) (Nat.le_of_ble_eq_true rfl) fun w0 M Q hM hQ hR=>?_;have hE:=hH.callable;dsimp only[cd68,qm,ql,qf,qi,qb,qc,qp,qv,qN,qT,qF,qt]at hQ ⊢
 repeat' (first|refine zab [0,1,2,41] fun K hK=>?_|refine AWp.block ?_|(refine hK.go ?_;clear hK K)|refine Cont.go (by assumption) ?_|(refine cnd2 rfl (fun h=>?_) (fun h=>?_)<;>(try first|exact h.elim|obtain rfl:(_:Bool)=true:=h|obtain rfl:(_:Bool)=false:=h)<;>first|(exfalso;omega)|skip)|((first|refine AWp.reg hE hM ?_|refine AWp.regd hE hM ?_|refine AWp.ret ?_|refine AWp.skip ?_|refine AWp.exit ?_|(refine pk2 (fun h=>?_) (fun h=>?_)<;>(try first|exact h.elim|obtain rfl:(_:Bool)=true:=h|obtain rfl:(_:Bool)=false:=h))|refine zac (fun h=>?_) ?_|refine zaa hM (c0) ?_|refine zaa hM (c1) ?_|refine zaa hM (c2) ?_|(refine hQ _ _ _ rfl ?_;clear hQ hR hE hM)|(refine hR _ _ (hQ _ _ _ rfl ?_);clear hQ hR hE hM)|(refine zaf ?_ ?_;focus first|omega|(refine zad ?_;(refine no_implicit_lambda% (st ?_);try with_reducible exact True.intro);done)))<;>try (refine no_implicit_lambda% (st ?_);try with_reducible exact True.intro)))
 all_goals first|rfl|(exfalso;contradiction)|skip
end Go.Lev
