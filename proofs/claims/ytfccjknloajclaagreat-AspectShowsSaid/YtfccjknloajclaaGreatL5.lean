/-
  A part of the engine that walks the functions' codes, and of the functions' contracts. Conditions: those that each theorem names.
-/
import Derived.Test.YtfccjknloajclaaGreatL4
import Derived.IntWalk
set_option linter.unusedSimpArgs false
set_option linter.unusedVariables false
set_option linter.unusedSectionVars false
namespace Go.Lev
open Go.Eng
set_option maxRecDepth 10000
set_option maxHeartbeats 4000000
variable {P:Program} {inv:Nat→Option Nat} {w0:World} {M:Nat→Prop}
theorem zbR (hH:HasAll P inv) (hI:HasIds P inv) (p:Pln) (hp:Sm p) (s:State) (hs:SmS s):PC P inv 69 [.agg p.c,.agg s.c] (·=.n (zac p s)):=by
 have c0:=of_pc hH hI p hp s hs
 have hRl:=zj3 p s
 have hRe:=zmu p s
 rw[←hRe]
 revert c0 hRl
 generalize ofR p s=R
 obtain ⟨G,Z,hg⟩:=GC.ex
 rw[←hg.eq]
 intro c0 hRl
 have hfold:=hg.fold
 have hlen0:=hg.len (.s0 4) hg.zl hg.zl
 have hlen:=hg.len (.sl 4 (R.ways.map Way.c)) hRl.1 hRl.2
 have hov:=hg.ov (.s0 4) (.sl 4 (R.ways.map Way.c)) hg.zl hg.zl hRl.1 hRl.2
 have hbd0:=hg.bd0 Z Z
 have hbd:=hg.bd R.hold R.ask (R.ways.map Way.c)
 have hba:=hg.ba R.hold R.ask (R.ways.map Way.c)
 refine PC.fn hH cd69 fun w0 M Q hM hE hQ hR=>?_;dsimp only[cd69,qm,ql,qf,qi,qb,qc,qp,qv,qN,qT,qF,qt]at hQ ⊢
 (have hX:=zA @hfold (zA @hlen0 (zA @hlen (zA @hov (zA @hbd0 (zA @hbd @hba)))));(repeat' first|refine zaa [0,1,2,3,4,6] fun K hK=>?_|(refine hK.go ?_;clear hK K)|with_reducible exact wT|refine wA ?_|(refine wB (fun h=>?_) (fun h=>?_)<;>first|exact wN h|subst (h:(_:Bool)=_)|skip)|(refine wQ ?_;clear hQ hR hE hM)|refine wC c0 ?_|fail);all_goals clear hX)
theorem zgq {α:Type} (q:α→Bool) (l:List α):decide (0≤zaW q 0 l)=l.any q:=by
 have:∀ (l:List α) (k:Int),0≤k→(decide (0≤zaW q k l)=l.any q):=by
  intro l
  induction l with
  |nil=>intro k _;simp[zaW]
  |cons x r ih =>
   intro k hk
   rw[zaW,List.any_cons]
   cases h:q x with
   |true=>simp[hk]
   |false=>simpa using ih (k+1) (by omega)
 exact this l 0 (Int.le_refl _)
def isSec (p:Pln) (n:Int):Bool:=p.sections.any fun x=>decide (x.id=n)
def zh9 (p:Pln) (n:Int):Bool:=p.points.any fun x=>decide (x.id=n)
def holderR (p:Pln) (s:State) (n:Int):Int×Int:=if zac p s=0 then (if isSec p n=true then (nth (zaQ p s).1 n.toNat,0) else (0,6)) else (0,zac p s)
def askedR (p:Pln) (s:State) (n:Int):Int×Int:=if zac p s=0 then (if zh9 p n=true then (nth (zaQ p s).2.1 n.toNat,0) else (0,6)) else (0,zac p s)
theorem zap {p:Pln} {s:State} (h:zac p s=0):OkP p:=by
 unfold zac at h
 split at h
 ·rename_i ho
  simp only[za3,Bool.and_eq_true]at ho
  exact zgR ho.1
 ·cases h
end Go.Lev
namespace Go.Lev
open Go.Eng
set_option maxRecDepth 10000
set_option maxHeartbeats 4000000
variable {P:Program} {inv:Nat→Option Nat}
def zjk (a b:State):Bool:=zav ze2 a.switches b.switches&&zav zfQ a.locks b.locks
end Go.Lev
namespace Go.Lev
open Go.Eng
set_option maxRecDepth 10000
set_option maxHeartbeats 4000000
variable {P:Program} {inv:Nat→Option Nat} {w0:World} {M:Nat→Prop}
def stV (s:State):AV:=.agg [.sm 2 (s.tracks.length*2) 0 s.tracks.length 2,.sm 3 (s.switches.length*3) 0 s.switches.length 3,.sm 4 (s.locks.length*4) 0 s.locks.length 4]
def stR (s:State):List (Nat×AO):=[(2,.cells (s.tracks.map Track.c).flatten (decide (0<s.tracks.length))),(3,.cells (s.switches.map Switch.c).flatten (decide (0<s.switches.length))),(4,.cells (s.locks.map Lock.c).flatten (decide (0<s.locks.length)))]
def zlZ (b:Nat) (s:State):AV:=.agg [.sm b (s.tracks.length*2) 0 s.tracks.length 2,.sm (b+1) (s.switches.length*3) 0 s.switches.length 3,.sm (b+2) (s.locks.length*4) 0 s.locks.length 4]
def zl0 (b:Nat) (s:State):List (Nat×AO):=[(b,.cells (s.tracks.map Track.c).flatten (decide (0<s.tracks.length))),(b+1,.cells (s.switches.map Switch.c).flatten (decide (0<s.switches.length))),(b+2,.cells (s.locks.map Lock.c).flatten (decide (0<s.locks.length)))]
def State.z:State:=⟨[],[],[]⟩
def atS (p:Pln):State:=⟨p.sections.map fun x=>⟨x.id,2⟩,p.points.map fun x=>⟨x.id,0,0⟩,p.routes.map fun x=>⟨x.id,0,0,0⟩⟩
def atR (p:Pln):State:=if za3 p=true then atS p else State.z
end Go.Lev
namespace Go.Lev
open Go.Eng
set_option maxRecDepth 10000
set_option maxHeartbeats 4000000
variable {P:Program} {inv:Nat→Option Nat} {w0:World} {M:Nat→Prop}
section upd
variable {α:Type} [Inhabited α]
def ze8 (f:Nat→α→α) (k:Nat) (l:List α):List α:=(l.mapIdx f).take k++l.drop k
theorem zbX (f:Nat→α→α) (k:Nat) (l:List α):(ze8 f k l).length=l.length:=by simp[ze8];omega
theorem zpk (f:Nat→α→α) (l:List α):ze8 f 0 l=l:=by simp[ze8]
attribute [go_sem] zpk zbX
end upd
def imgT (_:Nat) (t:Track):Track:=⟨t.id,2⟩
def imgW (_:Nat) (x:Switch):Switch:=⟨x.id,0,x.call⟩
def zmF (p:Pln) (i:Nat) (l:Lock):Lock:=if 0<l.left then ⟨l.id,l.phase,l.gone,(nth p.routes i).timer⟩ else l
def zgS (p:Pln) (s:State):State:=⟨s.tracks.mapIdx imgT,s.switches.mapIdx imgW,s.locks.mapIdx (zmF p)⟩
theorem zan {p:Pln} {s:State} (h:zaj p s=true):s.tracks.length=p.sections.length∧s.switches.length=p.points.length∧s.locks.length=p.routes.length:=by
 simp only[zaj,Bool.and_eq_true]at h
 exact ⟨zb4 h.1,zb4 h.2.1,zb4 h.2.2⟩
theorem zae {p:Pln} {s:State} (h:zac p s=0):za3 p=true∧zaj p s=true∧(zaQ p s).2.2=true:=by
 unfold zac at h
 split at h
 ·rename_i h1
  split at h
  ·rename_i h2;exact ⟨h1,h2⟩
  ·cases h
 ·cases h
def zcL (p:Pln) (s:State):State:=if zac p s=0 then zgS p s else State.z
end Go.Lev
namespace Go.Lev
open Go.Eng
abbrev WL:=WayR×Lock
def hdl (z:WL):List Int:=zbk z.1 z.2
def asl (z:WL):List AskR:=(zbG z.1 z.2).filter (zbV z.2)
theorem zjm (n:Int) (hn:n≠0):∀ (l H:List Int) (t:Bool),H.length=100→(∀ s∈l,0≤s∧s≤99) →
  ((zbN n l H t).2=true↔t=true∧(∀ s∈l,nth H s.toNat=0)∧l.Nodup) ∧
  ((zbN n l H t).2=true→(∀ s∈l,nth (zbN n l H t).1 s.toNat=n)∧∀ k:Nat,(∀ s∈l,s.toNat≠k)→nth (zbN n l H t).1 k=nth H k)
 |[],H,t,_,_=>by simp[zbN]
 |s::r,H,t,hH,hs=>by
  rw[zbN]
  have h0:=hs s (by simp)
  split
  ·rename_i hc
   obtain ⟨rfl,hc⟩:=hc
   have ih:=zjm n hn r (H.set s.toNat n) true (by simpa using hH) fun x hx=>hs x (by simp[hx])
   have key:(∀ x∈r,nth (H.set s.toNat n) x.toNat=0)↔(∀ x∈r,nth H x.toNat=0)∧s∉r:=by
    constructor
    ·intro h
     have hne:∀ x∈r,x≠s:=fun x hx e=>by
      have:=h x hx
      rw[e,zbe _ _ _ _ (by omega),if_pos rfl]at this
      exact hn this
     refine ⟨fun x hx=>?_,fun hx=>hne s hx rfl⟩
     have h1:=h x hx
     have h2:=hs x (by simp[hx])
     rw[zbe _ _ _ _ (by omega),if_neg (by have:=hne x hx;omega)]at h1
     exact h1
    ·rintro ⟨h1,h2⟩ x hx
     have h3:=hs x (by simp[hx])
     rw[zbe _ _ _ _ (by omega),if_neg (fun e=>h2 (by rw[show s=x by omega];exact hx))]
     exact h1 x hx
   refine ⟨?_, ?_⟩
   ·rw[ih.1,key]
    simp only[List.mem_cons,forall_eq_or_imp,List.nodup_cons,true_and]
    constructor
    ·rintro ⟨⟨h1,h2⟩,h3⟩;exact ⟨⟨hc,h1⟩,h2,h3⟩
    ·rintro ⟨⟨_,h1⟩,h2,h3⟩;exact ⟨⟨h1,h2⟩,h3⟩
   ·intro ht
    have h2:=ih.2 ht
    have h3:=(ih.1.1 ht).2
    rw[key]at h3
    refine ⟨fun x hx=>?_,fun k hk=>?_⟩
    ·rcases List.mem_cons.1 hx with rfl|hx
     ·rw[h2.2 _ (fun y hy e=>h3.1.2 (by have:=hs y (by simp[hy]);rw[show x=y by omega];exact hy)),zbe _ _ _ _ (by omega),if_pos rfl]
     ·exact h2.1 x hx
    ·rw[h2.2 k fun y hy=>hk y (by simp[hy]),zbe _ _ _ _ (by omega),if_neg (fun e=>hk s (by simp) e.symm)]
  ·rename_i hc
   refine ⟨?_,fun h=>by cases h⟩
   simp only[Bool.false_eq_true,false_iff,not_and]
   intro ht h1
   exact absurd ⟨ht,h1 s (by simp)⟩ hc
theorem zf4 (l:Lock) (C:List (Int×Int)):∀ (q:List AskR) (A:List Int) (t:Bool),A.length=100→(∀ a∈q,0≤a.pnt∧a.pnt≤99) →
  ((zd7 l C q A t).2=true↔t=true∧∀ a∈q.filter (zbV l),zf7 C a.pnt=a.lie) ∧
  ((zd7 l C q A t).2=true→(∀ a∈q.filter (zbV l),nth (zd7 l C q A t).1 a.pnt.toNat=a.lie)∧∀ k:Nat,(∀ a∈q.filter (zbV l),a.pnt.toNat≠k)→nth (zd7 l C q A t).1 k=nth A k)
 |[],A,t,_,_=>by simp[zd7]
 |a::r,A,t,hA,hs=>by
  rw[zd7]
  have h0:=hs a (by simp)
  by_cases ho:zbV l a=true
  ·rw[if_pos ho,List.filter_cons_of_pos ho]
   split
   ·rename_i hc
    obtain ⟨rfl,hc⟩:=hc
    have ih:=zf4 l C r (A.set a.pnt.toNat a.lie) true (by simpa using hA) fun x hx=>hs x (by simp[hx])
    refine ⟨?_, ?_⟩
    ·rw[ih.1]
     simp only[List.mem_cons,forall_eq_or_imp,true_and]
     exact ⟨fun h=>⟨hc,h⟩,fun h=>h.2⟩
    ·intro ht
     have h2:=ih.2 ht
     have h3:=(ih.1.1 ht).2
     refine ⟨fun x hx=>?_,fun k hk=>?_⟩
     ·rcases List.mem_cons.1 hx with rfl|hx
      ·rcases Classical.em (∃ y∈r.filter (zbV l),y.pnt.toNat=x.pnt.toNat) with ⟨y,hy,e⟩|h4
       ·have h5:=hs y (by simp[(List.mem_filter.1 hy).1])
        have h6:=h2.1 y hy
        rw[e]at h6
        rw[h6,←h3 y hy,←hc,show y.pnt=x.pnt by omega]
       ·rw[h2.2 _ (fun y hy e=>h4 ⟨y,hy,e⟩),zbe _ _ _ _ (by omega),if_pos rfl]
      ·exact h2.1 x hx
     ·rw[h2.2 k fun y hy=>hk y (by simp[hy]),zbe _ _ _ _ (by omega),if_neg (fun e=>hk a (by simp) e.symm)]
   ·rename_i hc
    refine ⟨?_,fun h=>by cases h⟩
    simp only[Bool.false_eq_true,false_iff,not_and]
    intro ht h1
    exact absurd ⟨ht,h1 a (by simp)⟩ hc
  ·rw[if_neg ho,List.filter_cons_of_neg ho]
   exact zf4 l C r A t hA fun x hx=>hs x (by simp[hx])
def zfm (C:List (Int×Int)):List WL→List Int→List Int→Bool→List Int×List Int×Bool
 |[],H,A,t=>(H,A,t)
 |z::r,H,A,t=>zfm C r (zbN z.2.id (zbk z.1 z.2) H t).1 (zd7 z.2 C (zbG z.1 z.2) A (zbN z.2.id (zbk z.1 z.2) H t).2).1 (zd7 z.2 C (zbG z.1 z.2) A (zbN z.2.id (zbk z.1 z.2) H t).2).2
theorem zqP (ws:List WayR) (C:List (Int×Int)):∀ (l:List Lock) (i:Nat) (H A:List Int) (t:Bool),i+l.length=ws.length→zdi ws C i l H A t=zfm C ((ws.drop i).zip l) H A t
 |[],i,H,A,t,_=>by rw[zdi,List.zip_nil_right,zfm]
 |x::r,i,H,A,t,h=>by
  simp only[List.length_cons]at h
  rw[zdi,zad (show i<ws.length by omega),List.zip_cons_cons,zfm,zqP ws C r (i+1) _ _ _ (by omega)]
structure ZOk (Z:List WL):Prop where
 id:∀ z∈Z,z.2.id≠0
 sec:∀ z∈Z,∀ n∈hdl z,0≤n∧n≤99
 pnt:∀ z∈Z,∀ a∈zbG z.1 z.2,0≤a.pnt∧a.pnt≤99
theorem zmJ (C:List (Int×Int)):∀ (Z:List WL) (H A:List Int),(zfm C Z H A false).2.2=false
 |[],H,A=>rfl
 |z::r,H,A=>by
  rw[zfm]
  have h1:(zbN z.2.id (zbk z.1 z.2) H false).2=false:=by
   cases zbk z.1 z.2 with
   |nil=>rfl
   |cons s q=>rw[zbN,if_neg (by simp)]
  have h2:∀ q:List AskR,(zd7 z.2 C q A false).2=false:=by
   intro q
   induction q with
   |nil=>rfl
   |cons a q ih =>
    rw[zd7]
    split
    ·rw[if_neg (by simp)]
    ·exact ih
  rw[h1,h2]
  exact zmJ C r _ _
theorem zeL (C:List (Int×Int)):∀ (Z:List WL) (H A:List Int),ZOk Z→H.length=100→A.length=100 →
  ((zfm C Z H A true).2.2=true↔(∀ z∈Z,(∀ n∈hdl z,nth H n.toNat=0)∧(hdl z).Nodup∧∀ a∈asl z,zf7 C a.pnt=a.lie)∧Z.Pairwise fun z z'=>∀ n∈hdl z,n∉hdl z') ∧
  ((zfm C Z H A true).2.2=true→(∀ z∈Z,(∀ n∈hdl z,nth (zfm C Z H A true).1 n.toNat=z.2.id)∧∀ a∈asl z,nth (zfm C Z H A true).2.1 a.pnt.toNat=a.lie) ∧
   (∀ k:Nat,(∀ z∈Z,∀ n∈hdl z,n.toNat≠k)→nth (zfm C Z H A true).1 k=nth H k)∧(∀ k:Nat,(∀ z∈Z,∀ a∈asl z,a.pnt.toNat≠k)→nth (zfm C Z H A true).2.1 k=nth A k))
 |[],H,A,_,_,_=>by simp[zfm]
 |z::r,H,A,hZ,hH,hA=>by
  have hZr:ZOk r:=⟨fun y hy=>hZ.id y (by simp[hy]),fun y hy=>hZ.sec y (by simp[hy]),fun y hy=>hZ.pnt y (by simp[hy])⟩
  have hs:=zjm z.2.id (hZ.id z (by simp)) (zbk z.1 z.2) H true hH (hZ.sec z (by simp))
  have hse:∀ n∈hdl z,0≤n∧n≤99:=hZ.sec z (by simp)
  have hlen:=zfT z.2.id (zbk z.1 z.2) H true
  rw[zfm]
  rw[show zbk z.1 z.2=hdl z from rfl]at hs hlen ⊢
  revert hs hlen
  generalize zbN z.2.id (hdl z) H true=HT
  intro hs hlen
  cases ht:HT.2 with
  |false =>
   have hf:(zd7 z.2 C (zbG z.1 z.2) A false).2=false:=by
    have:=(zf4 z.2 C (zbG z.1 z.2) A false hA (hZ.pnt z (by simp))).1
    cases h:(zd7 z.2 C (zbG z.1 z.2) A false).2 with
    |false=>rfl
    |true=>have:=(this.1 h).1;cases this
   rw[hf,zmJ]
   refine ⟨?_,fun h=>by cases h⟩
   simp only[Bool.false_eq_true,false_iff,not_and]
   intro h1 _
   have h2:=h1 z (by simp)
   have h3:=hs.1.2 ⟨rfl,h2.1,h2.2.1⟩
   rw[ht]at h3
   cases h3
  |true =>
   have hs1:=(hs.1.1 ht).2
   have hs2:=hs.2 ht
   have ha:=zf4 z.2 C (zbG z.1 z.2) A true hA (hZ.pnt z (by simp))
   have hpn:=hZ.pnt z (by simp)
   have halen:=zf5 z.2 C (zbG z.1 z.2) A true
   rw[show (zbG z.1 z.2).filter (zbV z.2)=asl z from rfl]at ha
   revert ha halen
   generalize zd7 z.2 C (zbG z.1 z.2) A true=AT
   intro ha halen
   cases hat:AT.2 with
   |false =>
    rw[zmJ]
    refine ⟨?_,fun h=>by cases h⟩
    simp only[Bool.false_eq_true,false_iff,not_and]
    intro h1 _
    have h3:=ha.1.2 ⟨rfl,(h1 z (by simp)).2.2⟩
    rw[hat]at h3
    cases h3
   |true =>
    have ha1:=(ha.1.1 hat).2
    have ha2:=ha.2 hat
    have ih:=zeL C r HT.1 AT.1 hZr (by omega) (by omega)
    have key:∀ y∈r,((∀ n∈hdl y,nth HT.1 n.toNat=0)↔(∀ n∈hdl y,nth H n.toNat=0)∧∀ n∈hdl z,n∉hdl y):=by
     intro y hy
     constructor
     ·intro h
      have hne:∀ n∈hdl z,n∉hdl y:=fun n hn hny=>by
       have:=h n hny
       rw[hs2.1 n hn]at this
       exact hZ.id z (by simp) this
      refine ⟨fun n hn=>?_,hne⟩
      have:=h n hn
      rw[hs2.2 _ (fun m hm e=>hne m hm (by have:=hse m hm;have:=hZ.sec y (by simp[hy]) n hn;rw[show m=n by omega];exact hn))]at this
      exact this
     ·rintro ⟨h1,h2⟩ n hn
      rw[hs2.2 _ (fun m hm e=>h2 m hm (by have:=hse m hm;have:=hZ.sec y (by simp[hy]) n hn;rw[show m=n by omega];exact hn))]
      exact h1 n hn
    refine ⟨?_, ?_⟩
    ·rw[ih.1]
     simp only[List.mem_cons,forall_eq_or_imp,List.pairwise_cons]
     constructor
     ·rintro ⟨h1,h2⟩
      refine ⟨⟨⟨hs1.1,hs1.2,ha1⟩,fun y hy=>⟨((key y hy).1 (h1 y hy).1).1,(h1 y hy).2⟩⟩,fun y hy=>((key y hy).1 (h1 y hy).1).2,h2⟩
     ·rintro ⟨⟨_,h1⟩,h3,h2⟩
      exact ⟨fun y hy=>⟨(key y hy).2 ⟨(h1 y hy).1,h3 y hy⟩,(h1 y hy).2⟩,h2⟩
    ·intro hg
     have h1:=ih.2 hg
     have h2:=ih.1.1 hg
     refine ⟨?_, ?_, ?_⟩
     ·intro y hy
      rcases List.mem_cons.1 hy with rfl|hy
      ·refine ⟨fun n hn=>?_,fun a haa=>?_⟩
       ·rw[h1.2.1 n.toNat fun x hx m hm e=>?_]
        ·exact hs2.1 n hn
        ·have h5:=((key x hx).1 (h2.1 x hx).1).2 n hn
         have:=hse n hn
         have:=hZ.sec x (by simp[hx]) m hm
         exact h5 (by rw[show n=m by omega];exact hm)
       ·have hpa:=hpn a (List.mem_filter.1 haa).1
        rcases Classical.em (∃ x∈r,∃ b∈asl x,b.pnt.toNat=a.pnt.toNat) with ⟨x,hx,b,hb,e⟩|h4
        ·have hpb:=hZ.pnt x (by simp[hx]) b (List.mem_filter.1 hb).1
         rw[←e,(h1.1 x hx).2 b hb,←(h2.1 x hx).2.2 b hb,←ha1 a haa,show b.pnt=a.pnt by omega]
        ·rw[h1.2.2 _ fun x hx b hb e=>h4 ⟨x,hx,b,hb,e⟩]
         exact ha2.1 a haa
      ·exact h1.1 y hy
     ·intro k hk
      rw[h1.2.1 k fun y hy=>hk y (by simp[hy])]
      exact hs2.2 k fun n hn=>hk z (by simp) n hn
     ·intro k hk
      rw[h1.2.2 k fun y hy=>hk y (by simp[hy])]
      exact ha2.2 k fun a haa=>hk z (by simp) a haa
end Go.Lev
namespace Go.Lev
open Go.Eng
theorem zfP (C:List (Int×Int)) (k v k':Int):zf7 (zmx C k v) k'=if k'=k then v else zf7 C k':=by
 induction C with
 |nil=>simp[zmx,zf7]
 |cons q r ih =>
  rw[zmx]
  split
  ·rename_i h;subst h;simp only[zf7];split<;>rfl
  ·rename_i h
   simp only[zf7,ih]
   by_cases h1:k'=q.1
   ·rw[if_pos h1,if_pos h1,if_neg (by omega)]
   ·rw[if_neg h1,if_neg h1]
theorem zjf:∀ (l:List Switch) (C:List (Int×Int)) (k:Int),(∀ x∈l,x.id≠k)→zf7 (zf8 C l) k=zf7 C k
 |[],_,_,_=>rfl
 |x::r,C,k,h=>by
  rw[zf8,zjf r _ k fun y hy=>h y (by simp[hy]),zfP,if_neg (fun e=>h x (by simp) e.symm)]
theorem zmz:∀ (l:List Switch) (C:List (Int×Int)),(l.map Switch.id).Nodup→∀ x∈l,zf7 (zf8 C l) x.id=x.call
 |[],_,_,x,h=>by cases h
 |y::r,C,hn,x,hx=>by
  simp only[List.map_cons,List.nodup_cons]at hn
  rw[zf8]
  rcases List.mem_cons.1 hx with rfl|hx
  ·rw[zjf r _ _ fun z hz e=>hn.1 (by rw[←e];exact List.mem_map_of_mem hz),zfP,if_pos rfl]
  ·exact zmz r _ hn.2 x hx
def zbs (s:State) (n:Int):Int:=zf7 (zf8 [] s.switches) n
def zof (p:Pln) (s:State):List WL:=(zaV p).zip s.locks
theorem zew {α β:Type} {q:α→β→Bool} {f:α→Int} {g:β→Int} (hq:∀ x y,q x y=true→f x=g y):∀ {a:List α} {b:List β},zav q a b=true→a.map f=b.map g
 |[],[],_=>rfl
 |[],_::_,h=>by simp[zav]at h
 |_::_,[],h=>by simp[zav]at h
 |x::xs,y::ys,h=>by
  simp only[zav,Bool.and_eq_true]at h
  simp only[List.map_cons,zew hq h.2,hq x y h.1]
theorem zl4 {p:Pln} {s:State} (h:zaj p s=true):s.tracks.map Track.id=p.sections.map Section.id:=by
 simp only[zaj,Bool.and_eq_true]at h
 exact zew (fun x y h=>by simp only[ze9,Bool.and_eq_true,decide_eq_true_eq]at h;exact h.1) h.1
theorem zcJ {p:Pln} {s:State} (h:zaj p s=true):s.switches.map Switch.id=p.points.map Pnt.id:=by
 simp only[zaj,Bool.and_eq_true]at h
 exact zew (fun x y h=>by simp only[zeV,Bool.and_eq_true,decide_eq_true_eq]at h;exact h.1) h.2.1
theorem lck_ids {p:Pln} {s:State} (h:zaj p s=true):s.locks.map Lock.id=p.routes.map Rte.id:=by
 simp only[zaj,Bool.and_eq_true]at h
 exact zew (fun x y h=>by simp only[zcK,Bool.and_eq_true,decide_eq_true_eq]at h;exact h.1) h.2.2
theorem zcc {p:Pln} (h:OkP p):(p.points.map Pnt.id).Nodup:=by
 have hp:=h.pts
 simp only[points,Bool.and_eq_true]at hp
 exact zjR hp.1
theorem zfD {p:Pln} (h:OkP p):(p.routes.map Rte.id).Nodup:=zjR h.rise
theorem zkR {p:Pln} (h:OkP p):(p.sections.map Section.id).Nodup:=zeJ (zkT h.sec)
theorem zkX {p:Pln} (h:OkP p) {r:Rte} (hr:r∈p.routes):1≤r.id∧r.id≤99:=((zdL _ _).1 h.rise).1 r.id (List.mem_map_of_mem hr)
theorem zaD {p:Pln} (h:za3 p=true):OkP p∧(∀ r∈p.routes,(zah p r).2.2=0)∧∀ r∈p.routes,zbw p r=true:=by
 simp only[za3,Bool.and_eq_true]at h
 refine ⟨zgR h.1,fun r hr=>?_,fun r hr=>?_⟩
 ·simpa using (List.all_eq_true.1 h.2.1) r hr
 ·exact (List.all_eq_true.1 h.2.2) r hr
theorem ziA {p:Pln} {s:State} (ho:OkP p) (h:zaj p s=true) {x:Switch} (hx:x∈s.switches):zbs s x.id=x.call :=
 zmz _ _ (by rw[zcJ h];exact zcc ho) x hx
theorem zf9 {p:Pln} {s:State} (h:zaj p s=true) {z:WL} (hz:z∈zof p s):∃ i,∃ r∈p.routes,i<p.routes.length∧nth p.routes i=r∧nth s.locks i=z.2∧z.2∈s.locks∧z.1=(zah p r).1∧zcK z.2 r=true:=by
 have hl:=zan h
 simp only[zaj,Bool.and_eq_true]at h
 obtain ⟨i,hi,e⟩:=List.mem_iff_getElem.1 hz
 have hi1:i<p.routes.length:=by simp only[zof,List.length_zip,zaV,List.length_map]at hi;omega
 have hi2:i<s.locks.length:=by omega
 have e1:z.1=(zah p (nth p.routes i)).1:=by
  rw[←e];simp[zof,zaV,zaT hi1]
 have e2:nth s.locks i=z.2:=by
  rw[←e];simp[zof,zaT hi2]
 refine ⟨i,nth p.routes i,zab hi1,hi1,rfl,e2,by rw[←e2];exact zab hi2,e1, ?_⟩
 rw[←e2]
 exact zfp h.2.2 hi2
theorem zof_at {p:Pln} {s:State} (h:zaj p s=true) {i:Nat} (hi:i<p.routes.length):((zah p (nth p.routes i)).1,nth s.locks i)∈zof p s:=by
 have hl:=zan h
 have hi2:i<s.locks.length:=by omega
 rw[List.mem_iff_getElem]
 refine ⟨i,by simp[zof,zaV];omega, ?_⟩
 simp[zof,zaV,zaT hi,zaT hi2]
theorem zm5 {p:Pln} {s:State} (ho:za3 p=true) (h:zaj p s=true):ZOk (zof p s):=by
 obtain ⟨hok,hw,_⟩:=zaD ho
 refine ⟨fun z hz=>?_,fun z hz n hn=>?_,fun z hz a ha=>?_⟩
 ·obtain ⟨i,r,hr,_,_,_,_,_,hl⟩:=zf9 h hz
  simp only[zcK,Bool.and_eq_true,decide_eq_true_eq]at hl
  have:=zkX hok hr
  omega
 ·obtain ⟨i,r,hr,_,_,_,_,e,hl⟩:=zf9 h hz
  have hp:=zbo (hw r hr)
  unfold hdl zbk at hn
  split at hn
  ·simp at hn
  ·have h1:n∈r.path++r.over:=by
    rw[e,hp.1,hp.2.1]at hn
    rcases List.mem_append.1 hn with h2|h2
    ·exact List.mem_append.2 (.inl (List.mem_of_mem_drop h2))
    ·exact List.mem_append.2 (.inr h2)
   obtain ⟨q,hq,rfl⟩:=(zcx hok hr).1 n h1
   have:=zdr hok hq
   omega
 ·obtain ⟨i,r,hr,_,_,_,_,e,hl⟩:=zf9 h hz
  unfold zbG at ha
  split at ha
  ·simp at ha
  ·rw[e]at ha
   have:=zbi hok hr ha
   omega
theorem zqN {p:Pln} {s:State} (ho:za3 p=true) (h:zaj p s=true) {z:WL} (hz:z∈zof p s):(hdl z).Nodup:=by
 obtain ⟨hok,hw,_⟩:=zaD ho
 obtain ⟨i,r,hr,_,_,_,_,e,_⟩:=zf9 h hz
 have hp:=zbo (hw r hr)
 unfold hdl zbk
 split
 ·simp
 ·rw[e,hp.1,hp.2.1]
  have:=(zcx hok hr).2
  exact List.Nodup.sublist (List.Sublist.append (List.drop_sublist _ _) (List.Sublist.refl _)) this
theorem zmI {p:Pln} {s:State} (h:zaj p s=true):zaQ p s=zfm (zf8 [] s.switches) (zof p s) zdd zdd true:=by
 unfold zaQ zof
 rw[zqP _ _ _ _ _ _ _ (by have:=zan h;simp[zaV];omega),List.drop_zero]
theorem zjC (k:Nat):nth zdd k=0:=by
 rcases Nat.lt_or_ge k 100 with h|h
 ·exact zdg _ _ _ h
 ·unfold zdd nth;rw[getElem!_neg _ _ (by simp;omega)];rfl
def zm4 (Z:List WL):Prop:=Z.Pairwise fun z z'=>∀ n∈hdl z,n∉hdl z'
def zn1 (s:State) (Z:List WL):Prop:=∀ z∈Z,∀ a∈asl z,zbs s a.pnt=a.lie
theorem zge (p:Pln) (s:State):zac p s=0↔za3 p=true∧zaj p s=true∧zm4 (zof p s)∧zn1 s (zof p s):=by
 constructor
 ·intro h
  obtain ⟨h1,h2,h3⟩:=zae h
  rw[zmI h2]at h3
  have:=((zeL _ _ _ _ (zm5 h1 h2) zbD zbD).1).1 h3
  exact ⟨h1,h2,this.2,fun z hz a ha=>(this.1 z hz).2.2 a ha⟩
 ·rintro ⟨h1,h2,h3,h4⟩
  unfold zac
  have h5:(zaQ p s).2.2=true:=by
   rw[zmI h2]
   exact ((zeL _ _ _ _ (zm5 h1 h2) zbD zbD).1).2 ⟨fun z hz=>⟨fun n _=>zjC _,zqN h1 h2 hz,h4 z hz⟩,h3⟩
  rw[if_pos h1,if_pos ⟨h2,h5⟩]
section
variable {p:Pln} {s:State} (h:zac p s=0)
include h
theorem zic:(∀ z∈zof p s,(∀ n∈hdl z,nth (zaQ p s).1 n.toNat=z.2.id)∧∀ a∈asl z,nth (zaQ p s).2.1 a.pnt.toNat=a.lie) ∧
  (∀ k:Nat,(∀ z∈zof p s,∀ n∈hdl z,n.toNat≠k)→nth (zaQ p s).1 k=0)∧(∀ k:Nat,(∀ z∈zof p s,∀ a∈asl z,a.pnt.toNat≠k)→nth (zaQ p s).2.1 k=0):=by
 obtain ⟨h1,h2,h3⟩:=zae h
 rw[zmI h2]at h3 ⊢
 have:=(zeL _ _ _ _ (zm5 h1 h2) zbD zbD).2 h3
 refine ⟨this.1,fun k hk=>?_,fun k hk=>?_⟩
 ·rw[this.2.1 k hk];exact zjC k
 ·rw[this.2.2 k hk];exact zjC k
theorem zmH {z:WL} (hz:z∈zof p s) {n:Int} (hn:n∈hdl z):nth (zaQ p s).1 n.toNat=z.2.id:=((zic h).1 z hz).1 n hn
theorem hold_no {n:Int} (h0:0≤n) (hn:∀ z∈zof p s,n∉hdl z):nth (zaQ p s).1 n.toNat=0:=(zic h).2.1 _ fun z hz m hm e=>by
 have:=(zm5 (zae h).1 (zae h).2.1).sec z hz m hm
 exact hn z hz (by rw[show n=m by omega];exact hm)
theorem zoJ {n:Int} (h0:0≤n):(∃ z∈zof p s,n∈hdl z∧nth (zaQ p s).1 n.toNat=z.2.id)∨((∀ z∈zof p s,n∉hdl z)∧nth (zaQ p s).1 n.toNat=0):=by
 rcases Classical.em (∃ z∈zof p s,n∈hdl z) with ⟨z,hz,hn⟩|h1
 ·exact .inl ⟨z,hz,hn,zmH h hz hn⟩
 ·exact .inr ⟨fun z hz hn=>h1 ⟨z,hz,hn⟩,hold_no h h0 fun z hz hn=>h1 ⟨z,hz,hn⟩⟩
theorem ask_at {z:WL} (hz:z∈zof p s) {a:AskR} (ha:a∈asl z):nth (zaQ p s).2.1 a.pnt.toNat=a.lie:=((zic h).1 z hz).2 a ha
end
end Go.Lev
namespace Go.Lev
open Go.Eng
set_option maxRecDepth 10000
set_option maxHeartbeats 4000000
variable {P:Program} {inv:Nat→Option Nat} {w0:World} {M:Nat→Prop}
def minK (n:Int):Int:=if 1000<n then 1000 else n
def sumS:Int→List Section→Int
 |t,[]=>t
 |t,s::r=>sumS (t+minK s.ends.length) r
def sumR:Int→List Rte→Int
 |t,[]=>t
 |t,r::l=>sumR (t+minK r.path.length+minK r.over.length+minK r.flanks.length) l
def zdz (p:Pln):Bool:=decide (100<(p.sections.length:Int))||(decide (100<(p.points.length:Int))||(decide (100<(p.signals.length:Int))||decide (100<(p.routes.length:Int))))
def zeo (p:Pln):Bool:=zdz p||decide (1000<sumR (sumS 0 p.sections) p.routes)
theorem znB (n:Nat):0≤minK n∧minK n≤1000:=by unfold minK;split<;>omega
theorem zbO (hH:HasAll P inv) (p:Pln):PC P inv 71 [.agg p.c] (·=.b (zeo p)):=by
 unfold zeo
 cases hg0:zdz p with
 |true =>
  rw[Bool.true_or]
  refine PC.fn hH cd71 fun w0 M Q hM hE hQ hR=>?_;dsimp only[cd71,qm,ql,qf,qi,qb,qc,qp,qv,qN,qT,qF,qt]at hQ ⊢
  (repeat' first|refine zaa [0,1,2,3,4,5,27,32,49] fun K hK=>?_|(refine hK.go ?_;clear hK K)|with_reducible exact wT|refine wA ?_|(refine wB (fun h=>?_) (fun h=>?_)<;>first|exact wN h|subst (h:(_:Bool)=_)|skip)|(refine wQ ?_;clear hQ hR hE hM)|fail)
  all_goals first|rfl|(exfalso;simp[zdz]at hg0;omega)
 |false =>
  rw[Bool.false_or]
  have hb:p.sections.length≤100∧p.points.length≤100∧p.signals.length≤100∧p.routes.length≤100:=by
   simp[zdz]at hg0;omega
  refine PC.fn hH cd71 fun w0 M Q hM hE hQ hR=>?_;dsimp only[cd71,qm,ql,qf,qi,qb,qc,qp,qv,qN,qT,qF,qt]at hQ ⊢
  (repeat' first|refine zaa [0,1,2,3,4,5,27,32,49] fun K hK=>?_|(refine hK.go ?_;clear hK K)|with_reducible exact wT|refine wA ?_|(refine wB (fun h=>?_) (fun h=>?_)<;>first|exact wN h|subst (h:(_:Bool)=_)|skip)|(refine wQ ?_;clear hQ hR hE hM)|fail)
  all_goals first|(exfalso;omega)|skip
  refine zai (ι:=Nat×Int) [1,2,3,4] (fun z=>[(3,.n z.2),(4,.n z.1)]) (fun _=>[]) (fun z=>z.1) (p.sections.length) (fun z=>(0≤z.2∧z.2≤1000*z.1)∧(sumS z.2 (p.sections.drop z.1)=sumS 0 p.sections)) (0,0) ?_;rintro ⟨k,t⟩ ⟨hk,ht,hg⟩;(try dsimp only at hk ht hg ⊢);rcases Nat.lt_or_ge k p.sections.length with hlt|hge
  ·rw[zad hlt]at hg
   rw[sumS]at hg
   have hm:=znB (nth p.sections k).ends.length
   unfold minK at hg hm
   (repeat' first|refine zaa [0,1,2,3,4,5,27,32,49] fun K hK=>?_|(refine hK.go ?_;clear hK K)|with_reducible exact wT|refine wA ?_|(refine wB (fun h=>?_) (fun h=>?_)<;>first|exact wN h|subst (h:(_:Bool)=_)|skip)|(refine wQ ?_;clear hQ hR hE hM)|fail)
   exact nY (k+1,_) ⟨by (try dsimp only);omega,by (try dsimp only);omega,hg⟩
  ·rw[List.drop_eq_nil_of_le hge,sumS]at hg
   (repeat' first|refine zaa [0,1,2,3,4,5,27,32,49] fun K hK=>?_|(refine hK.go ?_;clear hK K)|with_reducible exact wT|refine wA ?_|(refine wB (fun h=>?_) (fun h=>?_)<;>first|exact wN h|subst (h:(_:Bool)=_)|skip)|(refine wQ ?_;clear hQ hR hE hM)|fail)
   refine zai (ι:=Nat×Int) [1,2,3,5] (fun z=>[(3,.n z.2),(5,.n z.1)]) (fun _=>[]) (fun z=>z.1) (p.routes.length) (fun z=>(0≤z.2∧z.2≤100000+3000*z.1)∧(sumR z.2 (p.routes.drop z.1)=sumR t p.routes)) (0,t) ?_;rintro ⟨k2,u⟩ ⟨hk,hu,hg2⟩;(try dsimp only at hk hu hg2 ⊢);rcases Nat.lt_or_ge k2 p.routes.length with hlt|hge
   ·rw[zad (by assumption),sumR]at hg2
    have hm1:=znB (nth p.routes k2).path.length
    have hm2:=znB (nth p.routes k2).over.length
    have hm3:=znB (nth p.routes k2).flanks.length
    unfold minK at hg2 hm1 hm2 hm3
    (repeat' first|refine zaa [0,1,2,3,4,5,27,32,49] fun K hK=>?_|(refine hK.go ?_;clear hK K)|with_reducible exact wT|refine wA ?_|(refine wB (fun h=>?_) (fun h=>?_)<;>first|exact wN h|subst (h:(_:Bool)=_)|skip)|(refine wQ ?_;clear hQ hR hE hM)|fail)
    exact nY (k2+1,_) ⟨by (try dsimp only);omega,by (try dsimp only);omega,hg2⟩
   ·rw[List.drop_eq_nil_of_le (by assumption),sumR]at hg2
    (repeat' first|refine zaa [0,1,2,3,4,5,27,32,49] fun K hK=>?_|(refine hK.go ?_;clear hK K)|with_reducible exact wT|refine wA ?_|(refine wB (fun h=>?_) (fun h=>?_)<;>first|exact wN h|subst (h:(_:Bool)=_)|skip)|(refine wQ ?_;clear hQ hR hE hM)|fail)
    rw[hg2,hg]
theorem zmc {p:Pln} (hp:Pln.ok p) (hg:zeo p=false):Sm p:=by
 have h1:zdz p=false:=by
  unfold zeo at hg
  simp only[Bool.or_eq_false_iff]at hg
  exact hg.1
 have hb:p.sections.length≤100∧p.points.length≤100∧p.signals.length≤100∧p.routes.length≤100:=by
  simp[zdz]at h1;omega
 obtain ⟨_,_,h3,h4,h5,h6⟩:=hp
 refine ⟨by omega,fun s hs=>?_,by omega,by omega,by omega,fun r hr=>?_⟩
 ·have:=(h3.2 s hs).2.2.1
  exact Nat.le_trans this (by decide)
 ·have:=h6.2 r hr
  exact ⟨Nat.le_trans this.2.2.2.1.1 (by decide),Nat.le_trans this.2.2.2.2.1.1 (by decide),Nat.le_trans this.2.2.2.2.2.1.1 (by decide)⟩
theorem zhp {s:State} (h:zfU s=false):SmS s:=by
 unfold zfU at h;unfold SmS;simp at h;omega
end Go.Lev
namespace Go.Lev
open Go.Eng
set_option maxRecDepth 10000
set_option maxHeartbeats 4000000
variable {P:Program} {inv:Nat→Option Nat} {w0:World} {M:Nat→Prop}
def zdG {α:Type} (f:α→Int) (n:Int) (g:α→α) (l:List α):List α:=l.map fun x=>if f x=n then g x else x
theorem zbE {α:Type} (f:α→Int) (n:Int) (g:α→α) (l:List α):(zdG f n g l).length=l.length:=by simp[zdG]
theorem zaP {α:Type} [Inhabited α] (f:α→Int) (n:Int) (l:List α):(zaW (fun x=>decide (f x=n)) 0 l=-1∧∀ x∈l,f x≠n)∨∃ i:Nat,i<l.length∧zaW (fun x=>decide (f x=n)) 0 l=(i:Int)∧f (nth l i)=n:=by
 rcases zbJ (fun x:α=>decide (f x=n)) l 0 with ⟨h1,h2⟩|⟨i,h1,h2,h3⟩
 ·exact .inl ⟨h1,zq1 h2⟩
 ·exact .inr ⟨i,h1,by omega,(zdA (f:=f) h3).2⟩
end Go.Lev
namespace Go.Lev
open Go.Eng
set_option maxRecDepth 10000
set_option maxHeartbeats 4000000
variable {P:Program} {inv:Nat→Option Nat} {w0:World} {M:Nat→Prop}
def zhx (s:State) (n v:Int):State:=⟨zdG Track.id n (fun t=>⟨t.id,v⟩) s.tracks,s.switches,s.locks⟩
def zkQ (s:State) (n v:Int):State:=⟨s.tracks,zdG Switch.id n (fun t=>⟨t.id,v,t.call⟩) s.switches,s.locks⟩
def zqu (s:State) (n:Int):Prop:=∃ t∈s.tracks,t.id=n
def zmE (s:State) (n:Int):Prop:=∃ t∈s.switches,t.id=n
instance (s:State) (n:Int):Decidable (zqu s n):=by unfold zqu;infer_instance
instance (s:State) (n:Int):Decidable (zmE s n):=by unfold zmE;infer_instance
def zb2 (p:Pln) (s:State) (n v:Int):Int:=if zac p s=0 then (if zqu s n then (if v=0∨v=1 then 0 else 2) else 6) else zac p s
def zbz (p:Pln) (s:State) (n v:Int):Int:=if zac p s=0 then (if zmE s n then (if 0≤v∧v≤2 then 0 else 2) else 6) else zac p s
def secR (p:Pln) (s:State) (n v:Int):State:=if zb2 p s n v=0 then zhx s n v else State.z
def ziQ (p:Pln) (s:State) (n v:Int):State:=if zbz p s n v=0 then zkQ s n v else State.z
end Go.Lev
namespace Go.Lev
open Go.Eng
theorem zbf {α β:Type} [Inhabited α] [Inhabited β] (q:α→β→Bool):∀ (a:List α) (b:List β),zav q a b=true↔a.length=b.length∧∀ i,i<a.length→q (nth a i) (nth b i)=true
 |[],[]=>by simp[zav]
 |[],_::_=>by simp[zav]
 |_::_,[]=>by simp[zav]
 |x::xs,y::ys=>by
  simp only[zav,Bool.and_eq_true,zbf q xs ys,List.length_cons,Nat.add_right_cancel_iff]
  constructor
  ·rintro ⟨h1,h2,h3⟩
   refine ⟨h2,fun i hi=>?_⟩
   cases i with
   |zero=>exact h1
   |succ i=>exact h3 i (by omega)
  ·rintro ⟨h2,h3⟩
   exact ⟨h3 0 (by omega),h2,fun i hi=>h3 (i+1) (by omega)⟩
theorem zji {p:Pln} {s:State} (h:zaj p s=true) {i:Nat} (hi:i<s.locks.length):zcK (nth s.locks i) (nth p.routes i)=true:=by
 simp only[zaj,Bool.and_eq_true]at h
 exact zfp h.2.2 hi
theorem zjD {α:Type} (f:α→Int) (n:Int) (g:α→α) (hg:∀ x,f (g x)=f x) (l:List α):(zdG f n g l).map f=l.map f:=by
 unfold zdG
 rw[List.map_map]
 refine List.map_congr_left fun x _=>?_
 simp only[Function.comp]
 split
 ·exact hg x
 ·rfl
end Go.Lev
namespace Go.Lev
open Go.Eng
theorem zke {p:Pln} {s:State} (h:zac p s=0) {i j:Nat} (hi:i<s.locks.length) (hj:j<s.locks.length) (e:(nth s.locks i).id=(nth s.locks j).id):i=j:=by
 obtain ⟨h1,h2,_⟩:=zae h
 have hn:(s.locks.map Lock.id).Nodup:=by rw[lck_ids h2];exact zfD (zaD h1).1
 have:=(List.nodup_iff_pairwise_ne.1 hn)
 rcases Nat.lt_trichotomy i j with hlt|he|hlt
 ·have:=List.pairwise_iff_getElem.1 this i j (by simpa using hi) (by simpa using hj) hlt
  simp only[List.getElem_map]at this
  rw[←zaT hi,←zaT hj]at this
  exact absurd e this
 ·exact he
 ·have:=List.pairwise_iff_getElem.1 this j i (by simpa using hj) (by simpa using hi) hlt
  simp only[List.getElem_map]at this
  rw[←zaT hi,←zaT hj]at this
  exact absurd e.symm this
theorem zmB {p:Pln} {s:State} (h:zac p s=0) {i:Nat} (hi:i<s.locks.length):1≤(nth s.locks i).id∧(nth s.locks i).id≤99:=by
 obtain ⟨h1,h2,_⟩:=zae h
 have hl:=zan h2
 have hl2:=zji h2 hi
 simp only[zcK,Bool.and_eq_true,decide_eq_true_eq]at hl2
 rw[hl2.1]
 exact zkX (zaD h1).1 (zab (by omega))
def zdy (p:Pln) (s:State) (i:Nat):List Int:=zbk (zah p (nth p.routes i)).1 (nth s.locks i)
def zd8 (p:Pln) (s:State) (i:Nat):List AskR:=(zbG (zah p (nth p.routes i)).1 (nth s.locks i)).filter (zbV (nth s.locks i))
theorem zkB {p:Pln} {s:State} (h:zac p s=0) {z:WL} (hz:z∈zof p s):∃ i,i<s.locks.length∧z=((zah p (nth p.routes i)).1,nth s.locks i):=by
 have h2:=(zae h).2.1
 have hl:=zan h2
 obtain ⟨i,r,hr,hi,e1,e2,_,e3,_⟩:=zf9 h2 hz
 refine ⟨i,by omega, ?_⟩
 rw[e1,e2,←e3]
theorem zhZ {p:Pln} {s:State} (h:zac p s=0) {i:Nat} (hi:i<s.locks.length):((zah p (nth p.routes i)).1,nth s.locks i)∈zof p s:=by
 have h2:=(zae h).2.1
 have hl:=zan h2
 exact zof_at h2 (by omega)
theorem hold_iff {p:Pln} {s:State} (h:zac p s=0) {i:Nat} (hi:i<s.locks.length) {n:Int} (hn:0≤n):nth (zaQ p s).1 n.toNat=(nth s.locks i).id↔n∈zdy p s i:=by
 constructor
 ·intro e
  rcases zoJ h hn with ⟨z,hz,hm,e2⟩|⟨_,e2⟩
  ·obtain ⟨j,hj,rfl⟩:=zkB h hz
   rw[e2]at e
   obtain rfl:=zke h hj hi e
   exact hm
  ·have:=zmB h hi
   omega
 ·intro hm
  exact zmH h (zhZ h hi) hm
theorem ask_is {p:Pln} {s:State} (h:zac p s=0) {i:Nat} (hi:i<s.locks.length) {a:AskR} (ha:a∈zd8 p s i):nth (zaQ p s).2.1 a.pnt.toNat=a.lie:=ask_at h (zhZ h hi) ha
theorem zqn {p:Pln} {s:State} (h:zac p s=0) {i:Nat} (hi:i<s.locks.length) {a:AskR} (ha:a∈zd8 p s i):a.lie=1∨a.lie=2:=by
 obtain ⟨h1,h2,_⟩:=zae h
 have hl:=zan h2
 have h3:=(List.mem_filter.1 ha).1
 unfold zbG at h3
 split at h3
 ·simp at h3
 ·exact (zbi (zaD h1).1 (zab (by omega)) h3).2.2
def pathG (g n:Int):Nat→List Int→Bool
 |_,[]=>false
 |k,x::r=>(decide (x=n)&&decide (g≤k))||pathG g n (k+1) r
end Go.Lev
namespace Go.Eng
mutual
def nz:AV→AV
 |.s0 sz=>.sl sz []
 |.agg cs=>.agg (nzL cs)
 |.tup cs=>.tup (nzL cs)
 |.fn j cs=>.fn j (nzL cs)
 |.sl sz es=>.sl sz (nzR es)
 |.ip sz es i k=>.ip sz (nzR es) i k
 |.i k n=>.i k n
 |.b t=>.b t
 |.v x=>.v x
 |.u=>.u
 |.ptr l ver off=>.ptr l ver off
 |.sm l ver off n sz=>.sm l ver off n sz
 |.mp l=>.mp l
 |.top=>.top
def nzL:List AV→List AV
 |[]=>[]
 |x::xs=>nz x::nzL xs
def nzR:List (List AV)→List (List AV)
 |[]=>[]
 |r::rs=>nzL r::nzR rs
end
theorem zqe:∀ xs:List AV,(nzL xs).length=xs.length
 |[]=>by simp only[nzL]
 |x::xs=>by simp only[nzL,List.length_cons,zqe xs]
theorem zmw:∀ xs:List (List AV),(nzR xs).length=xs.length
 |[]=>by simp only[nzR]
 |x::xs=>by simp only[nzR,List.length_cons,zmw xs]
mutual
theorem zmv:∀ x:AV,x.bare=true→(nz x).bare=true
 |.s0 sz,_=>by simp only[nz,AV.bare]
 |.agg cs,h=>by simp only[nz,AV.bare]at h ⊢;exact zhb cs h
 |.tup cs,h=>by simp only[nz,AV.bare]at h ⊢;exact zhb cs h
 |.fn j cs,h=>by simp only[nz,AV.bare]at h ⊢;exact zhb cs h
 |.sl sz es,_=>by simp only[nz,AV.bare]
 |.ip sz es i k,_=>by simp only[nz,AV.bare]
 |.i k n,_=>by simp only[nz,AV.bare]
 |.b t,_=>by simp only[nz,AV.bare]
 |.v x,_=>by simp only[nz,AV.bare]
 |.u,_=>by simp only[nz,AV.bare]
 |.ptr l ver off,h=>by simp only[nz];exact h
 |.sm l ver off n sz,h=>by simp only[nz];exact h
 |.mp l,h=>by simp only[nz];exact h
 |.top,_=>by simp only[nz,AV.bare]
theorem zhb:∀ xs:List AV,zag xs=true→zag (nzL xs)=true
 |[],_=>by simp only[nzL,zag]
 |x::xs,h=>by
  simp only[zag,Bool.and_eq_true]at h
  simp only[nzL,zag,zmv x h.1,zhb xs h.2,Bool.and_self]
end
mutual
theorem zno:∀ (c:Ctx) (x:AV) (y:Value),rel c x y→rel c (nz x) y
 |c,.s0 sz,y,r=>by
  simp only[nz,rel]at r ⊢
  obtain ⟨ad,e⟩:=r
  exact ⟨ad,0,e,Nat.le_refl _,fun h=>absurd rfl h⟩
 |c,.agg cs,y,r=>by
  simp only[nz,rel]at r ⊢
  obtain ⟨xs,e,r⟩:=r
  exact ⟨xs,e,znr c cs _ r⟩
 |c,.tup cs,y,r=>by
  simp only[nz,rel]at r ⊢
  obtain ⟨xs,e,r⟩:=r
  exact ⟨xs,e,zmq c cs _ r⟩
 |c,.fn j cs,y,r=>by
  simp only[nz,rel]at r ⊢
  obtain ⟨g,xs,e,hi,r⟩:=r
  exact ⟨g,xs,e,hi,zmq c cs _ r⟩
 |c,.sl sz es,y,r=>by
  simp only[nz,rel]at r ⊢
  obtain ⟨ad,cap,e,h,r⟩:=r
  refine ⟨ad,cap,by rw[zmw];exact e,by rw[zmw];exact h,fun hne=>?_⟩
  have hne':es≠[]:=fun e0=>hne (by rw[e0];simp only[nzR])
  obtain ⟨a,e1,h1,h2,h3⟩:=r hne'
  exact ⟨a,e1,h1,h2,zgk c sz a 0 es h3⟩
 |c,.ip sz es i k,y,r=>by
  simp only[nz,rel]at r ⊢
  obtain ⟨a,e,h1,h2,h3⟩:=r
  exact ⟨a,e,h1,h2,zgk c sz a 0 es h3⟩
 |c,.i k n,y,r=>by simp only[nz];exact r
 |c,.b t,y,r=>by simp only[nz];exact r
 |c,.v x,y,r=>by simp only[nz];exact r
 |c,.u,y,r=>by simp only[nz];exact r
 |c,.ptr l ver off,y,r=>by simp only[nz];exact r
 |c,.sm l ver off n sz,y,r=>by simp only[nz];exact r
 |c,.mp l,y,r=>by simp only[nz];exact r
 |c,.top,y,r=>by simp only[nz];exact r
theorem zmq:∀ (c:Ctx) (xs:List AV) (ys:List Value),zbY c xs ys→zbY c (nzL xs) ys
 |c,[],ys,r=>by simp only[nzL];exact r
 |c,x::xs,ys,r=>by
  simp only[nzL,zbY]at r ⊢
  obtain ⟨y,ys',e,r1,r2⟩:=r
  exact ⟨y,ys',e,zno c x y r1,zmq c xs ys' r2⟩
theorem znr:∀ (c:Ctx) (xs:List AV) (ys:List Value),relCs c xs ys→relCs c (nzL xs) ys
 |c,[],ys,r=>by simp only[nzL];exact r
 |c,x::xs,ys,r=>by
  simp only[nzL,relCs]at r ⊢
  obtain ⟨y,ys',e,ho,r1,r2⟩:=r
  exact ⟨y,ys',e,ho,zno c x y r1,znr c xs ys' r2⟩
theorem zkZ:∀ (c:Ctx) (a:Addr) (k:Nat) (xs:List AV),zbM c a k xs→zbM c a k (nzL xs)
 |c,a,k,[],r=>by simp only[nzL];exact r
 |c,a,k,x::xs,r=>by
  simp only[nzL,zbM]at r ⊢
  obtain ⟨⟨y,h1,h2,h3,h4⟩,r⟩:=r
  exact ⟨⟨y,h1,h2,zmv x h3,zno _ x y h4⟩,zkZ c a (k+1) xs r⟩
theorem zgk:∀ (c:Ctx) (sz:Nat) (a:Addr) (k:Nat) (es:List (List AV)),zaA c sz a k es→zaA c sz a k (nzR es)
 |c,sz,a,k,[],r=>by simp only[nzR];exact r
 |c,sz,a,k,x::xs,r=>by
  simp only[nzR,zaA]at r ⊢
  exact ⟨by rw[zqe];exact r.1,zkZ c a k x r.2.1,zgk c sz a (k+sz) xs r.2.2⟩
end
attribute [go_sem] nz nzL nzR
end Go.Eng
namespace Go.Eng
open Go.RowKit
theorem bo9:(∀ (α:Type) (a b:α),(cond true a b)=a)∧(∀ (α:Type) (a b:α),(cond false a b)=b)∧(∀ b:Bool,(true||b)=true)∧(∀ b:Bool,(b||true)=true)∧(∀ b:Bool,(false||b)=b)∧(∀ b:Bool,(b||false)=b)∧(∀ b:Bool,(true&&b)=b)∧(∀ b:Bool,(b&&true)=b)∧(∀ b:Bool,(false&&b)=false)∧(∀ b:Bool,(b&&false)=false)∧((!true)=false)∧((!false)=true)∧(∀ b:Bool,(!!b)=b)∧(∀ [Decidable True],decide True=true)∧(∀ [Decidable False],decide False=false)∧(∀ (α:Type) (a:α),(a=a)=True) :=
 ⟨fun _ _ _=>rfl,fun _ _ _=>rfl,fun _=>Bool.true_or _,fun _=>Bool.or_true _,fun _=>Bool.false_or _,fun _=>Bool.or_false _,fun _=>Bool.true_and _,fun _=>Bool.and_true _,fun _=>Bool.false_and _,fun _=>Bool.and_false _,rfl,rfl,fun _=>Bool.not_not _,@fun i=>decide_true i,@fun i=>decide_false i,fun _ _=>eq_self _⟩
theorem wX {A B:Prop} (a:A) (h:Rw A B:=by first|(simp only[h0,bo9,reduceCtorEq,Int.reduceEq,Nat.reduceEqDiff];exact zci _)|(simp only[bo9,reduceCtorEq,Int.reduceEq,Nat.reduceEqDiff];exact zci _)):B:=Eq.mp h a
def zaB {S R:Type} (body:Nat→S→(S→R)→R) (fin:S→R):Nat→Nat→S→R
 |0,_,s=>fin s
 |m+1,k,s=>body k s fun s'=>zaB body fin m (k+1) s'
section
variable {S R:Type} {body:Nat→S→(S→R)→R} {fin:S→R} {n k:Nat} {s:S}
theorem zoA (h:k<n):zaB body fin (n-k) k s=body k s fun s'=>zaB body fin (n-(k+1)) (k+1) s':=by
 obtain ⟨m,hm⟩:∃ m,n-k=m+1:=⟨n-k-1,by omega⟩
 rw[hm,show n-(k+1)=m by omega]
 rfl
theorem zar {B:Nat→S→(S→R)→R} (hB:B=body) (h:k<n):zaB B fin (n-k) k s=body k s fun s'=>zaB B fin (n-(k+1)) (k+1) s':=by rw[zoA h];subst hB;rfl
theorem zaI (h:n≤k):zaB body fin (n-k) k s=fin s:=by
 rw[show n-k=0 by omega]
 rfl
theorem zaJ {X:R} (hF:zaB body fin n 0 s=X) {G:Prop} (h:∀ B F,B=body→F=fin→zaB B F (n-0) 0 s=X→G):G:=h _ _ rfl rfl hF
theorem zaU (good:R→Prop) (Inv:Nat→S→Prop) (h0:Inv 0 s) (hs:∀ k s za0,k<n→Inv k s→(∀ s',Inv (k+1) s'→good (za0 s'))→good (body k s za0)) (hf:∀ s,Inv n s→good (fin s)):good (zaB body fin n 0 s):=by
 have key:∀ m k s,k+m=n→Inv k s→good (zaB body fin m k s):=by
  intro m
  induction m with
  |zero=>intro k s hk hi;exact hf s (by rw[show n=k by omega];exact hi)
  |succ m ih=>intro k s hk hi;exact hs k s _ (by omega) hi fun s' h'=>ih (k+1) s' (by omega) h'
 exact key n 0 s (by omega) h0
end
mutual
def okS (g:Nat→Bool):AV→Bool
 |.agg cs=>zpb g cs
 |.tup cs=>zpb g cs
 |.fn _ cs=>zpb g cs
 |.ptr l _ _=>g l
 |.sm l _ _ _ _=>g l
 |.i _ _=>true|.b _=>true|.v _=>true|.u=>true|.s0 _=>true|.sl _ _=>true|.ip _ _ _ _=>true|.mp _=>true|.top=>true
def zpb (g:Nat→Bool):List AV→Bool
 |[]=>true
 |x::xs=>okS g x&&zpb g xs
end
def okF:Nat→AS→Nat→Bool
 |0,_,_=>false
 |k+1,σ,l=>match zaF σ l with
  |some (.cells cs _)=>zpb (okF k σ) cs
  |_=>false
section
variable {f f':Nat→Option (List AV)} {g:Nat→Bool} (h:∀ l,g l=true→f' l=f l)
include h
mutual
theorem zpr:∀ x:AV,okS g x=true→zaZ f' x=zaZ f x
 |.agg cs,e=>by simp only[okS]at e;simp only[zaZ,zdn cs e]
 |.tup cs,e=>by simp only[okS]at e;simp only[zaZ,zdn cs e]
 |.fn j cs,e=>by simp only[okS]at e;simp only[zaZ,zdn cs e]
 |.ptr l ver off,e=>by simp only[okS]at e;simp only[zaZ,h l e]
 |.sm l ver off n sz,e=>by simp only[okS]at e;simp only[zaZ,h l e]
 |.i _ _,_=>by simp only[zaZ]
 |.b _,_=>by simp only[zaZ]
 |.v _,_=>by simp only[zaZ]
 |.u,_=>by simp only[zaZ]
 |.s0 _,_=>by simp only[zaZ]
 |.sl _ _,_=>by simp only[zaZ]
 |.ip _ _ _ _,_=>by simp only[zaZ]
 |.mp _,_=>by simp only[zaZ]
 |.top,_=>by simp only[zaZ]
theorem zdn:∀ xs:List AV,zpb g xs=true→zb9 f' xs=zb9 f xs
 |[],_=>by simp only[zb9]
 |x::xs,e=>by
  simp only[zpb,Bool.and_eq_true]at e
  simp only[zb9,zpr x e.1,zdn xs e.2]
end
end
theorem zkH {σ σ':AS} (hle:SLe σ σ'):∀ (k l:Nat),okF k σ l=true→zho k σ' l=zho k σ l
 |0,_,e=>by simp[okF]at e
 |k+1,l,e=>by
  simp only[okF]at e
  split at e
  ·rename_i cs r hg
   simp only[zho,hg,hle l _ hg (by intro h;cases h),zdn (fun l=>zkH hle k l) cs e]
  ·cases e
def oks (k:Nat) (σ:List (Nat×AO)) (xs:List AV):Bool:=zpb (okF k σ) xs
def ok1 (k:Nat) (σ:List (Nat×AO)) (x:AV):Bool:=okS (okF k σ) x
def okR (o:Option AO) (l:Nat) (K:List AV→Bool) (_:l=l):Bool:=match o with|some (.cells cs _)=>K cs|_=>false
theorem okR_c (cs:List AV) (r:Bool) (l:Nat) (K:List AV→Bool) (h:l=l):okR (some (.cells cs r)) l K h=K cs:=rfl
section
variable (k:Nat) (σ:List (Nat×AO))
theorem ok_i (q:IntKind) (n:Int):ok1 k σ (.i q n)=true:=by simp only[ok1,okS]
theorem ok_b (t:Bool):ok1 k σ (.b t)=true:=by simp only[ok1,okS]
theorem ok_v (x:Value):ok1 k σ (.v x)=true:=by simp only[ok1,okS]
theorem ok_u:ok1 k σ .u=true:=by simp only[ok1,okS]
theorem ok_s0 (sz:Nat):ok1 k σ (.s0 sz)=true:=by simp only[ok1,okS]
theorem ok_sl (sz:Nat) (es:List (List AV)):ok1 k σ (.sl sz es)=true:=by simp only[ok1,okS]
theorem ok_ip (sz:Nat) (es:List (List AV)) (i j:Nat):ok1 k σ (.ip sz es i j)=true:=by simp only[ok1,okS]
theorem ok_agg (cs:List AV):ok1 k σ (.agg cs)=oks k σ cs:=by simp only[ok1,okS,oks]
theorem ok_tup (cs:List AV):ok1 k σ (.tup cs)=oks k σ cs:=by simp only[ok1,okS,oks]
theorem ok_fn (j:Nat) (cs:List AV):ok1 k σ (.fn j cs)=oks k σ cs:=by simp only[ok1,okS,oks]
theorem ok_nil:oks k σ []=true:=by simp only[oks,zpb]
theorem ok_cons (x:AV) (xs:List AV):oks k σ (x::xs)=(ok1 k σ x&&oks k σ xs):=by simp only[ok1,zpb,oks]
theorem ok_ptr (l ver off:Nat):ok1 (k+1) σ (.ptr l ver off)=okR (zaF σ l) l (fun cs=>oks k σ cs) rfl:=by
 simp only[ok1,okS,okF,okR,oks]
theorem ok_sm (l ver off n sz:Nat):ok1 (k+1) σ (.sm l ver off n sz)=okR (zaF σ l) l (fun cs=>oks k σ cs) rfl:=by
 simp only[ok1,okS,okF,okR,oks]
end
mutual
theorem plain_ok (g:Nat→Bool):∀ x:AV,x.plain=true→okS g x=true
 |.agg cs,h=>by simp only[AV.plain]at h;simp only[okS];exact zej g cs h
 |.i _ _,_=>rfl|.b _,_=>rfl|.v _,_=>rfl|.sl _ _,_=>rfl|.ip _ _ _ _,_=>rfl
 |.tup _,h=>by simp[AV.plain]at h
 |.u,h=>by simp[AV.plain]at h
 |.s0 _,h=>by simp[AV.plain]at h
 |.ptr _ _ _,h=>by simp[AV.plain]at h
 |.sm _ _ _ _ _,h=>by simp[AV.plain]at h
 |.fn _ _,h=>by simp[AV.plain]at h
 |.mp _,h=>by simp[AV.plain]at h
 |.top,h=>by simp[AV.plain]at h
theorem zej (g:Nat→Bool):∀ xs:List AV,zaz xs=true→zpb g xs=true
 |[],_=>rfl
 |x::xs,h=>by
  simp only[zaz,Bool.and_eq_true]at h
  simp only[zpb,plain_ok g x h.1,zej g xs h.2,Bool.and_self]
end
theorem ok_flat {α:Type} {c:α→List AV} {sz:Nat} [h:Cells c sz] (k:Nat) (σ:AS) (l:List α):oks k σ (l.map c).flatten=true:=zej _ _ (zct l)
theorem ok_bmap (k:Nat) (σ:AS) (l:List Bool):oks k σ (l.map AV.b)=true:=zej _ _ (zeR l)
theorem ok_imap (k:Nat) (σ:AS) (q:IntKind) (l:List Int):oks k σ (l.map (AV.i q))=true:=zej _ _ (zcU q l)
attribute [go_sem] okR_c ok_i ok_b ok_v ok_u ok_s0 ok_sl ok_ip ok_agg ok_tup ok_fn ok_nil ok_cons ok_ptr ok_sm ok_flat ok_bmap ok_imap
section
variable {P:Program} {inv:Nat→Option Nat} {w0:World} {M:Nat→Prop} {σ:AS}
theorem zrB (hM:∀ b,M b→b<w0.heap.size) (k:Nat) {j:Nat} {args args':List AV} {r:AV} (h:PC P inv j args' (·=r)) (he:zb1 k σ args=args') (hok:oks k σ args=true) (hs:r.scalar=true) {K:AV→Prop} (hk:K r):PureK P inv w0 M σ j args K :=
 ⟨r,fun _ _ σ' hle=>zeT hM k h (by rw[←he];exact zdn (fun l=>zkH hle k l) args hok) hs ⟨rfl,rfl⟩,hk⟩
end
section
variable {P:Program} {inv:Nat→Option Nat} {w0:World} {M:Nat→Prop} {n N:Nat} {φ:AF} {σ:AS}
variable {l:Nat} {J:AF→AS→Prop} {Q:Exit→AF→AS→Prop}
theorem jt_ret:ziO l J Q .ret φ σ=Q .ret φ σ:=rfl
theorem zqr:ziO l J Q .normal φ σ=Q .normal φ σ:=rfl
theorem jt_exit (i:Nat):ziO l J Q (.exit i) φ σ=Q (.exit i) φ σ:=rfl
theorem jt_goto (l':Nat):ziO l J Q (.goto l') φ σ=(l'=l∧J φ σ):=rfl
attribute [go_sem] jt_ret zqr jt_exit jt_goto
end
section
variable {P:Program} {inv:Nat→Option Nat} {w0:World} {M:Nat→Prop} {n N:Nat} {φ:AF} {σ:AS}
end
end Go.Eng
namespace Go.Lev
open Go.Eng
set_option maxRecDepth 10000
set_option maxHeartbeats 4000000
variable {P:Program} {inv:Nat→Option Nat} {w0:World} {M:Nat→Prop}
def zdx (s:State) (n:Int):Int:=match s.tracks.find? fun t=>decide (t.id=n) with|some t=>t.is|none=>2
def zei (p:Pln) (n:Int):Int:=match p.points.find? fun t=>decide (t.id=n) with|some t=>t.sec|none=>0
def mayC (p:Pln) (s:State) (n:Int):Int:=if zac p s=0 then (if zh9 p n=true then (if nth (zaQ p s).2.1 n.toNat=0 then (if zdx s (zei p n)=0 then 0 else 171) else 170) else 6) else zac p s
def setC (s:State) (n v:Int):State:=⟨s.tracks,zdG Switch.id n (fun t=>⟨t.id,t.lie,v⟩) s.switches,s.locks⟩
def callC (p:Pln) (s:State) (n v:Int):Int:=if zac p s=0 then (if zh9 p n=true then (if v=1∨v=2 then mayC p s n else 2) else 6) else zac p s
def callR (p:Pln) (s:State) (n v:Int):State:=if callC p s n v=0 then setC s n v else State.z
theorem zkm {α:Type} [Inhabited α] (f:α→Int) {l:List α} (hn:(l.map f).Nodup) {k:Nat} (hk:k<l.length) {n:Int} (e:f (nth l k)=n):(l.find? fun t=>decide (f t=n))=some (nth l k):=by
 subst e
 exact zil f hn (zab hk)
end Go.Lev
namespace Go.Lev
open Go.Eng
theorem zj9 (n v m:Int) (hm:m≠n):∀ (l:List Switch) (C D:List (Int×Int)),zf7 C m=zf7 D m→zf7 (zf8 C (zdG Switch.id n (fun t=>⟨t.id,t.lie,v⟩) l)) m=zf7 (zf8 D l) m
 |[],_,_,h=>h
 |x::r,C,D,h=>by
  show zf7 (zf8 (zmx C (if x.id=n then (⟨x.id,x.lie,v⟩:Switch) else x).id (if x.id=n then (⟨x.id,x.lie,v⟩:Switch) else x).call) (zdG Switch.id n (fun t=>⟨t.id,t.lie,v⟩) r)) m=zf7 (zf8 (zmx D x.id x.call) r) m
  refine zj9 n v m hm r _ _ ?_
  rw[zfP,zfP]
  by_cases hx:x.id=n
  ·rw[if_pos hx]
   dsimp only
   rw[if_neg (by omega),if_neg (by omega)]
   exact h
  ·rw[if_neg hx,h]
theorem zmS (s:State) {n m:Int} (v:Int) (hm:m≠n):zbs (setC s n v) m=zbs s m:=zj9 n v m hm s.switches [] [] rfl
theorem zog {p:Pln} {s:State} {n v:Int} (h:zaj p s=true) (hv:0≤v∧v≤2):zaj p (setC s n v)=true:=by
 unfold zaj at h ⊢
 simp only[Bool.and_eq_true,zbf]at h ⊢
 unfold setC
 simp only[zbE]
 refine ⟨h.1,⟨h.2.1.1,fun i hi=>?_⟩,h.2.2⟩
 have:=h.2.1.2 i hi
 unfold zdG
 rw[zlg (fun x=>if Switch.id x=n then (⟨x.id,x.lie,v⟩:Switch) else x) hi]
 simp only[zeV,zem,Bool.and_eq_true,decide_eq_true_eq]at this ⊢
 split
 ·exact ⟨this.1,this.2.1,hv⟩
 ·exact this
theorem asl_lie {p:Pln} {s:State} (h:zac p s=0) {z:WL} (hz:z∈zof p s) {a:AskR} (ha:a∈asl z):a.lie=1∨a.lie=2:=by
 obtain ⟨i,hi,rfl⟩:=zkB h hz
 exact zqn h hi ha
theorem zpA {p:Pln} {s:State} {n v:Int} (h:zac p s=0) (hn:nth (zaQ p s).2.1 n.toNat=0) (hv:0≤v∧v≤2):zac p (setC s n v)=0:=by
 obtain ⟨h1,h2,h3,h4⟩:=(zge p s).1 h
 refine (zge p _).2 ⟨h1,zog h2 hv,h3,fun z hz a ha=>?_⟩
 have hne:a.pnt≠n:=fun e=>by
  have h5:=ask_at h hz ha
  have h6:=asl_lie h hz ha
  rw[e,hn]at h5
  omega
 rw[zmS s v hne]
 exact h4 z hz a ha
structure MayCall (p:Pln) (s:State) (n:Int):Prop where
 st:zac p s=0
 pt:zh9 p n=true
 ask:nth (zaQ p s).2.1 n.toNat=0
 free:zdx s (zei p n)=0
theorem MayCall.code {p:Pln} {s:State} {n v:Int} (h:MayCall p s n) (hv:v=1∨v=2):zac p (setC s n v)=0:=zpA h.st h.ask (by omega)
theorem zj4 {α:Type} [Inhabited α] (f:α→Int) {l:List α} (hn:(l.map f).Nodup) {i j:Nat} (hi:i<l.length) (hj:j<l.length) (e:f (nth l i)=f (nth l j)):i=j:=by
 have:=List.nodup_iff_pairwise_ne.1 hn
 rcases Nat.lt_trichotomy i j with hlt|he|hlt
 ·have:=List.pairwise_iff_getElem.1 this i j (by simpa using hi) (by simpa using hj) hlt
  simp only[List.getElem_map]at this
  rw[←zaT hi,←zaT hj]at this
  exact absurd e this
 ·exact he
 ·have:=List.pairwise_iff_getElem.1 this j i (by simpa using hj) (by simpa using hi) hlt
  simp only[List.getElem_map]at this
  rw[←zaT hi,←zaT hj]at this
  exact absurd e.symm this
theorem zbb {α:Type} [Inhabited α] {l:List α} {x:α} (h:x∈l):∃ k,k<l.length∧nth l k=x:=by
 obtain ⟨k,hk,e⟩:=List.mem_iff_getElem.1 h
 exact ⟨k,hk,by rw[zaT hk];exact e⟩
end Go.Lev
namespace Go.Lev
open Go.Eng
theorem zkg {p:Pln} {s:State} (ho:OkP p) (h:zaj p s=true) {k:Nat} (hk:k<s.tracks.length):zdx s (nth s.tracks k).id=(nth s.tracks k).is:=by
 unfold zdx
 rw[zkm Track.id (by rw[zl4 h];exact zkR ho) hk rfl]
theorem znF {p:Pln} {n:Int} (h:zh9 p n=true):∃ k,k<p.points.length∧(nth p.points k).id=n:=by
 obtain ⟨x,hx,e⟩:=List.any_eq_true.1 h
 obtain ⟨k,hk,rfl⟩:=zbb hx
 exact ⟨k,hk,by simpa using e⟩
def peF (p:Pln) (s:State) (n e a g m:Int):Bool :=
 zaB (fun i _ za0=>cond (!decide ((nth p.points i).id=n)) (za0 ())
   (cond (!decide (a=0)) (decide (e=170))
    (zaB (fun k _ next2=>cond (decide ((nth s.tracks k).id=(nth p.points i).sec)&&!decide ((nth s.tracks k).is=0)) (decide (e=171)) (next2 ()))
     (fun _=>decide (e=0)&&decide (g=0)&&decide (m=0)) s.tracks.length 0 ())))
  (fun _=>decide (e=6)) p.points.length 0 ()
def pfF (p:Pln) (s:State) (n v e a c:Int):Bool :=
 zaB (fun i (st:Bool×Int) za0=>cond (!decide ((nth p.points i).id=n)) (za0 st)
   (zaB (fun k (fr:Bool) next2=>next2 (fr||decide ((nth s.tracks k).id=(nth p.points i).sec)&&decide ((nth s.tracks k).is=0)))
    (fun fr=>za0 (fr,(i:Int))) s.tracks.length 0 st.1))
  (fun st=>cond (!decide (decide (e=0)=(decide (0≤st.2)&&(decide (v=1)||decide (v=2))&&decide (c=0)&&decide (a=0)&&st.1))) false true) p.points.length 0 (false,-1)
end Go.Lev
namespace Go.Lev
open Go.Eng
set_option maxRecDepth 10000
set_option maxHeartbeats 4000000
variable {P:Program} {inv:Nat→Option Nat} {w0:World} {M:Nat→Prop}
theorem zqF (hH:HasAll P inv) (l:List Track) (v:Track) (hl:l.length≤1000000000):PC P inv 184 [.sl 2 (l.map Track.c),.agg v.c] (·=.n (zaW (fun x=>decide (v.id=x.id)&&decide (v.is=x.is)) 0 l)):=by
 refine PC.fn hH cd184 fun w0 M Q hM hE hQ hR=>?_;dsimp only[cd184,qm,ql,qf,qi,qb,qc,qp,qv,qN,qT,qF,qt]at hQ ⊢
 (repeat' first|refine zaa [0,1,3,4,5,7,8,9,16] fun K hK=>?_|(refine hK.go ?_;clear hK K)|with_reducible exact wT|refine wA ?_|(refine wB (fun h=>?_) (fun h=>?_)<;>first|exact wN h|subst (h:(_:Bool)=_)|skip)|(refine wQ ?_;clear hQ hR hE hM)|fail)
 refine zai (ι:=Nat) [0,3,4,7,8] (fun z=>[(8,.n z)]) (fun _=>[]) (fun z=>z) (l.length) (fun z=>(zaW (fun x=>decide (v.id=x.id)&&decide (v.is=x.is)) z (l.drop z)=zaW (fun x=>decide (v.id=x.id)&&decide (v.is=x.is)) 0 l)) (0) ?_;rintro k ⟨hk,hg⟩;(try dsimp only at hk hg ⊢);rcases Nat.lt_or_ge k l.length with hlt|hge
 ·rw[zad hlt]at hg
  rw[zaW]at hg
  cases ht:decide (v.id=(nth l k).id)&&decide (v.is=(nth l k).is) with
  |true =>
   rw[if_pos ht]at hg
   (have hX:=@ht;(repeat' first|refine zaa [0,1,3,4,5,7,8,9,16] fun K hK=>?_|(refine hK.go ?_;clear hK K)|with_reducible exact wT|refine wA ?_|(refine wB (fun h=>?_) (fun h=>?_)<;>first|exact wN h|subst (h:(_:Bool)=_)|skip)|(refine wQ ?_;clear hQ hR hE hM)|fail);all_goals clear hX)
   all_goals first|exact hg|(exfalso;contradiction)
  |false =>
   rw[if_neg (by rw[ht];simp)]at hg
   (have hX:=@ht;(repeat' first|refine zaa [0,1,3,4,5,7,8,9,16] fun K hK=>?_|(refine hK.go ?_;clear hK K)|with_reducible exact wT|refine wA ?_|(refine wB (fun h=>?_) (fun h=>?_)<;>first|exact wN h|subst (h:(_:Bool)=_)|skip)|(refine wQ ?_;clear hQ hR hE hM)|fail);all_goals clear hX)
   all_goals first|(exfalso;contradiction)|exact ⟨k+1,by omega,⟨by omega,hg⟩,by omega⟩
 ·rw[List.drop_eq_nil_of_le hge]at hg
  (repeat' first|refine zaa [0,1,3,4,5,7,8,9,16] fun K hK=>?_|(refine hK.go ?_;clear hK K)|with_reducible exact wT|refine wA ?_|(refine wB (fun h=>?_) (fun h=>?_)<;>first|exact wN h|subst (h:(_:Bool)=_)|skip)|(refine wQ ?_;clear hQ hR hE hM)|fail)
  rw[←hg];rfl
theorem zqG (hH:HasAll P inv) (l:List Lock) (v:Lock) (hl:l.length≤1000000000):PC P inv 265 [.sl 4 (l.map Lock.c),.agg v.c] (·=.n (zaW (fun x=>decide (v.id=x.id)&&(decide (v.phase=x.phase)&&(decide (v.gone=x.gone)&&decide (v.left=x.left)))) 0 l)):=by
 refine PC.fn hH cd265 fun w0 M Q hM hE hQ hR=>?_;dsimp only[cd265,qm,ql,qf,qi,qb,qc,qp,qv,qN,qT,qF,qt]at hQ ⊢
 (repeat' first|refine zaa [0,1,3,4,5,7,8,9,16] fun K hK=>?_|(refine hK.go ?_;clear hK K)|with_reducible exact wT|refine wA ?_|(refine wB (fun h=>?_) (fun h=>?_)<;>first|exact wN h|subst (h:(_:Bool)=_)|skip)|(refine wQ ?_;clear hQ hR hE hM)|fail)
 refine zai (ι:=Nat) [0,3,4,7,8] (fun z=>[(8,.n z)]) (fun _=>[]) (fun z=>z) (l.length) (fun z=>(zaW (fun x=>decide (v.id=x.id)&&(decide (v.phase=x.phase)&&(decide (v.gone=x.gone)&&decide (v.left=x.left)))) z (l.drop z)=zaW (fun x=>decide (v.id=x.id)&&(decide (v.phase=x.phase)&&(decide (v.gone=x.gone)&&decide (v.left=x.left)))) 0 l)) (0) ?_;rintro k ⟨hk,hg⟩;(try dsimp only at hk hg ⊢);rcases Nat.lt_or_ge k l.length with hlt|hge
 ·rw[zad hlt]at hg
  rw[zaW]at hg
  cases ht:(decide (v.id=(nth l k).id)&&(decide (v.phase=(nth l k).phase)&&(decide (v.gone=(nth l k).gone)&&decide (v.left=(nth l k).left)))) with
  |true =>
   rw[if_pos ht]at hg
   (have hX:=@ht;(repeat' first|refine zaa [0,1,3,4,5,7,8,9,16] fun K hK=>?_|(refine hK.go ?_;clear hK K)|with_reducible exact wT|refine wA ?_|(refine wB (fun h=>?_) (fun h=>?_)<;>first|exact wN h|subst (h:(_:Bool)=_)|skip)|(refine wQ ?_;clear hQ hR hE hM)|fail);all_goals clear hX)
   all_goals first|exact hg|(exfalso;contradiction)
  |false =>
   rw[if_neg (by rw[ht];simp)]at hg
   (have hX:=@ht;(repeat' first|refine zaa [0,1,3,4,5,7,8,9,16] fun K hK=>?_|(refine hK.go ?_;clear hK K)|with_reducible exact wT|refine wA ?_|(refine wB (fun h=>?_) (fun h=>?_)<;>first|exact wN h|subst (h:(_:Bool)=_)|skip)|(refine wQ ?_;clear hQ hR hE hM)|fail);all_goals clear hX)
   all_goals first|(exfalso;contradiction)|exact ⟨k+1,by omega,⟨by omega,hg⟩,by omega⟩
 ·rw[List.drop_eq_nil_of_le hge]at hg
  (repeat' first|refine zaa [0,1,3,4,5,7,8,9,16] fun K hK=>?_|(refine hK.go ?_;clear hK K)|with_reducible exact wT|refine wA ?_|(refine wB (fun h=>?_) (fun h=>?_)<;>first|exact wN h|subst (h:(_:Bool)=_)|skip)|(refine wQ ?_;clear hQ hR hE hM)|fail)
  rw[←hg];rfl
theorem zqO (hH:HasAll P inv) (l:List Track) (v:Track) (hl:l.length≤1000000000):PC P inv 176 [.sl 2 (l.map Track.c),.agg v.c] (·=.b (l.any fun x=>decide (v.id=x.id)&&decide (v.is=x.is))):=by
 have c1:=zqF hH l v hl
 have e:=zgq (fun x:Track=>decide (v.id=x.id)&&decide (v.is=x.is)) l
 revert c1 e
 generalize zaW (fun x:Track=>decide (v.id=x.id)&&decide (v.is=x.is)) 0 l=i
 generalize (l.any fun x=>decide (v.id=x.id)&&decide (v.is=x.is))=t
 intro c1 e
 refine PC.fn hH cd176 fun w0 M Q hM hE hQ hR=>?_;dsimp only[cd176,qm,ql,qf,qi,qb,qc,qp,qv,qN,qT,qF,qt]at hQ ⊢
 (have hX:=@e;(repeat' first|refine zaa [0,1,3,4] fun K hK=>?_|(refine hK.go ?_;clear hK K)|with_reducible exact wT|refine wA ?_|(refine wB (fun h=>?_) (fun h=>?_)<;>first|exact wN h|subst (h:(_:Bool)=_)|skip)|(refine wQ ?_;clear hQ hR hE hM)|refine wC c1 ?_|fail);all_goals clear hX)
theorem has_lck (hH:HasAll P inv) (l:List Lock) (v:Lock) (hl:l.length≤1000000000):PC P inv 241 [.sl 4 (l.map Lock.c),.agg v.c] (·=.b (l.any fun x=>decide (v.id=x.id)&&(decide (v.phase=x.phase)&&(decide (v.gone=x.gone)&&decide (v.left=x.left))))):=by
 have c1:=zqG hH l v hl
 have e:=zgq (fun x:Lock=>decide (v.id=x.id)&&(decide (v.phase=x.phase)&&(decide (v.gone=x.gone)&&decide (v.left=x.left)))) l
 revert c1 e
 generalize zaW (fun x:Lock=>decide (v.id=x.id)&&(decide (v.phase=x.phase)&&(decide (v.gone=x.gone)&&decide (v.left=x.left)))) 0 l=i
 generalize (l.any fun x=>decide (v.id=x.id)&&(decide (v.phase=x.phase)&&(decide (v.gone=x.gone)&&decide (v.left=x.left))))=t
 intro c1 e
 refine PC.fn hH cd241 fun w0 M Q hM hE hQ hR=>?_;dsimp only[cd241,qm,ql,qf,qi,qb,qc,qp,qv,qN,qT,qF,qt]at hQ ⊢
 (have hX:=@e;(repeat' first|refine zaa [0,1,3,4] fun K hK=>?_|(refine hK.go ?_;clear hK K)|with_reducible exact wT|refine wA ?_|(refine wB (fun h=>?_) (fun h=>?_)<;>first|exact wN h|subst (h:(_:Bool)=_)|skip)|(refine wQ ?_;clear hQ hR hE hM)|refine wC c1 ?_|fail);all_goals clear hX)
theorem hasInt (hH:HasAll P inv) {jc:Nat} {caps:List AV} {q:Int→Bool} (l:List Int) (hc:∀ x∈l,PC P inv jc ([.n x]++caps) (·=.b (q x))) (hl:l.length≤1000000000):PC P inv 177 [.sl 1 (l.map zck),.fn jc caps] (·=.b (l.any q)):=by
 have c1:=idx_int hH l hc hl
 have e:=zgq q l
 refine PC.fn hH cd177 fun w0 M Q hM hE hQ hR=>?_;dsimp only[cd177,qm,ql,qf,qi,qb,qc,qp,qv,qN,qT,qF,qt]at hQ ⊢
 (have hX:=@e;(repeat' first|refine zaa [0,1,4] fun K hK=>?_|(refine hK.go ?_;clear hK K)|with_reducible exact wT|refine wA ?_|(refine wB (fun h=>?_) (fun h=>?_)<;>first|exact wN h|subst (h:(_:Bool)=_)|skip)|(refine wQ ?_;clear hQ hR hE hM)|refine wC c1 ?_|fail);all_goals clear hX)
theorem hasSwt (hH:HasAll P inv) {jc:Nat} {caps:List AV} {q:Switch→Bool} (l:List Switch) (hc:∀ x∈l,PC P inv jc ([.agg x.c]++caps) (·=.b (q x))) (hl:l.length≤1000000000):PC P inv 238 [.sl 3 (l.map Switch.c),.fn jc caps] (·=.b (l.any q)):=by
 have c1:=zib hH l hc hl
 have e:=zgq q l
 refine PC.fn hH cd238 fun w0 M Q hM hE hQ hR=>?_;dsimp only[cd238,qm,ql,qf,qi,qb,qc,qp,qv,qN,qT,qF,qt]at hQ ⊢
 (have hX:=@e;(repeat' first|refine zaa [0,1,4] fun K hK=>?_|(refine hK.go ?_;clear hK K)|with_reducible exact wT|refine wA ?_|(refine wB (fun h=>?_) (fun h=>?_)<;>first|exact wN h|subst (h:(_:Bool)=_)|skip)|(refine wQ ?_;clear hQ hR hE hM)|refine wC c1 ?_|fail);all_goals clear hX)
theorem hasAsk (hH:HasAll P inv) {jc:Nat} {caps:List AV} {q:AskR→Bool} (l:List AskR) (hc:∀ x∈l,PC P inv jc ([.agg x.c]++caps) (·=.b (q x))) (hl:l.length≤1000000000):PC P inv 247 [.sl 3 (l.map AskR.c),.fn jc caps] (·=.b (l.any q)):=by
 have c1:=idx_ask hH l hc hl
 have e:=zgq q l
 refine PC.fn hH cd247 fun w0 M Q hM hE hQ hR=>?_;dsimp only[cd247,qm,ql,qf,qi,qb,qc,qp,qv,qN,qT,qF,qt]at hQ ⊢
 (have hX:=@e;(repeat' first|refine zaa [0,1,4] fun K hK=>?_|(refine hK.go ?_;clear hK K)|with_reducible exact wT|refine wA ?_|(refine wB (fun h=>?_) (fun h=>?_)<;>first|exact wN h|subst (h:(_:Bool)=_)|skip)|(refine wQ ?_;clear hQ hR hE hM)|refine wC c1 ?_|fail);all_goals clear hX)
theorem hasSgn (hH:HasAll P inv) {jc:Nat} {caps:List AV} {q:Sgn→Bool} (l:List Sgn) (hc:∀ x∈l,PC P inv jc ([.agg x.c]++caps) (·=.b (q x))) (hl:l.length≤1000000000):PC P inv 215 [.sl 3 (l.map Sgn.c),.fn jc caps] (·=.b (l.any q)):=by
 have c1:=zqL hH l hc hl
 have e:=zgq q l
 refine PC.fn hH cd215 fun w0 M Q hM hE hQ hR=>?_;dsimp only[cd215,qm,ql,qf,qi,qb,qc,qp,qv,qN,qT,qF,qt]at hQ ⊢
 (have hX:=@e;(repeat' first|refine zaa [0,1,4] fun K hK=>?_|(refine hK.go ?_;clear hK K)|with_reducible exact wT|refine wA ?_|(refine wB (fun h=>?_) (fun h=>?_)<;>first|exact wN h|subst (h:(_:Bool)=_)|skip)|(refine wQ ?_;clear hQ hR hE hM)|refine wC c1 ?_|fail);all_goals clear hX)
def frT (s:State) (n:Int):Bool:=s.tracks.any fun x=>decide (n=x.id)&&decide (0=x.is)
end Go.Lev
namespace Go.Lev
open Go.Eng
set_option maxRecDepth 10000
set_option maxHeartbeats 4000000
variable {P:Program} {inv:Nat→Option Nat} {w0:World} {M:Nat→Prop}
def zgZ (s:State) (n:Int):Int:=zaW (fun x=>decide (Lock.id x=n)) 0 s.locks
def zdh (H:List Int) (fr:Int→Bool):List Int→Int
 |[]=>0
 |x::r=>if nth H x.toNat=0 then (if fr x=true then zdh H fr r else 182) else 181
def zmV (p:Pln) (s:State) (A:List Int) (a:AskR):Bool:=decide (zbs s a.pnt=a.lie)||(decide (nth A a.pnt.toNat=0)&&frT s (zei p a.pnt))
def setE (p:Pln) (s:State) (i:Nat):Int :=
 if zdh (zaQ p s).1 (frT s) ((zah p (nth p.routes i)).1.path++(zah p (nth p.routes i)).1.over)=0 then (if (zah p (nth p.routes i)).1.asks.all (zmV p s (zaQ p s).2.1)=true then 0 else 183)
 else zdh (zaQ p s).1 (frT s) ((zah p (nth p.routes i)).1.path++(zah p (nth p.routes i)).1.over)
def lkC (p:Pln) (s:State) (n:Int):Int:=if zac p s=0 then (if zgZ s n<0 then 6 else if (nth s.locks (zgZ s n).toNat).phase=0 then setE p s (zgZ s n).toNat else 180) else zac p s
def lkW (p:Pln) (s:State) (n:Int):WayR:=if zac p s=0 then (if zgZ s n<0 then WayR.z else if (nth s.locks (zgZ s n).toNat).phase=0 then (zah p (nth p.routes (zgZ s n).toNat)).1 else WayR.z) else WayR.z
def askE (ok:AskR→Bool):Int→List AskR→Int
 |e,[]=>e
 |e,a::r=>askE ok (if e=0 then (if ok a=true then 0 else 183) else e) r
end Go.Lev
namespace Go.Lev
open Go.Eng
set_option maxRecDepth 10000
set_option maxHeartbeats 4000000
variable {P:Program} {inv:Nat→Option Nat} {w0:World} {M:Nat→Prop}
def zbc (q:List AskR) (l:List Switch):List Switch:=q.foldl (fun l a=>zdG Switch.id a.pnt (fun t=>⟨t.id,t.lie,a.lie⟩) l) l
theorem zgy (q:List AskR):∀ l:List Switch,(zbc q l).map Switch.id=l.map Switch.id:=by
 induction q with
 |nil=>intro l;rfl
 |cons a q ih=>intro l;show (zbc q _).map Switch.id=_;rw[ih,zjD Switch.id a.pnt (fun t=>⟨t.id,t.lie,a.lie⟩) (fun _=>rfl)]
theorem zdC (q:List AskR) (l:List Switch):(zbc q l).length=l.length:=by
 have:=congrArg List.length (zgy q l)
 simpa using this
theorem zoT (l:List Switch):zbc [] l=l:=rfl
attribute [go_sem] zoT
def ziP (s:State) (n:Int) (q:List AskR):State:=⟨s.tracks,zbc q s.switches,zdG Lock.id n (fun l=>⟨l.id,1,l.gone,l.left⟩) s.locks⟩
def zpe (n:Int) (_:Nat) (l:Lock):Lock:=if l.id=n then ⟨l.id,1,l.gone,l.left⟩ else l
end Go.Lev
namespace Go.Lev
open Go.Eng
theorem zle:∀ (l:List AskR) (m:List Bool),m.length=100→(∀ a∈l,0≤a.pnt∧a.pnt≤99)→(zlf m l=true↔(∀ a∈l,nth m a.pnt.toNat=false)∧(l.map AskR.pnt).Nodup)
 |[],m,_,_=>by simp[zlf]
 |a::r,m,hm,hr=>by
  have h0:=hr a (by simp)
  have ih:=zle r (m.set a.pnt.toNat true) (by simpa using hm) fun b hb=>hr b (by simp[hb])
  rw[zlf,Bool.and_eq_true,ih]
  simp only[List.map_cons,List.nodup_cons,List.mem_cons,forall_eq_or_imp,Bool.not_eq_true',List.mem_map,not_exists,not_and]
  have key:∀ b∈r,nth (m.set a.pnt.toNat true) b.pnt.toNat=false↔(nth m b.pnt.toNat=false∧b.pnt≠a.pnt):=fun b hb=>by
   have hb':=hr b (by simp[hb])
   rw[zbe _ _ _ _ (by omega)]
   by_cases e:b.pnt=a.pnt
   ·rw[e,if_pos rfl];simp
   ·rw[if_neg (by omega)];simp[e]
  constructor
  ·rintro ⟨h1,h2,h3⟩
   exact ⟨⟨h1,fun b hb=>((key b hb).1 (h2 b hb)).1⟩,fun b hb=>((key b hb).1 (h2 b hb)).2,h3⟩
  ·rintro ⟨⟨h1,h2⟩,h3,h4⟩
   exact ⟨h1,fun b hb=>(key b hb).2 ⟨h2 b hb,h3 b hb⟩,h4⟩
theorem znz {l:List AskR} (h:∀ a∈l,0≤a.pnt∧a.pnt≤99):once l=true↔(l.map AskR.pnt).Nodup:=by
 unfold once
 rw[zle l _ (by simp) h]
 constructor
 ·exact fun h=>h.2
 ·intro h2
  exact ⟨fun a ha=>by have:=h a ha;exact zdg _ _ _ (by omega),h2⟩
theorem zgD {p:Pln} (ho:za3 p=true) {r:Rte} (hr:r∈p.routes):((zah p r).1.asks.map AskR.pnt).Nodup:=by
 obtain ⟨hok,_,h3⟩:=zaD ho
 have:=h3 r hr
 simp only[zbw,Bool.and_eq_true]at this
 exact (znz fun a ha=>by have:=zbi hok hr ha;omega).1 this.1
def ze7 (l:List Switch) (n:Int):Int:=zf7 (zf8 [] l) n
theorem zoV (l:List Switch) {n m:Int} (v:Int) (h:m≠n):ze7 (zdG Switch.id n (fun t=>⟨t.id,t.lie,v⟩) l) m=ze7 l m:=zj9 n v m h l [] [] rfl
theorem zrj {l:List Switch} (hn:(l.map Switch.id).Nodup) {n:Int} (v:Int) (h:n∈l.map Switch.id):ze7 (zdG Switch.id n (fun t=>⟨t.id,t.lie,v⟩) l) n=v:=by
 obtain ⟨x,hx,e⟩:=List.mem_map.1 h
 have h1:(⟨x.id,x.lie,v⟩:Switch)∈zdG Switch.id n (fun t=>⟨t.id,t.lie,v⟩) l:=by
  unfold zdG
  exact List.mem_map.2 ⟨x,hx,by rw[if_pos e]⟩
 have:=zmz (zdG Switch.id n (fun t=>⟨t.id,t.lie,v⟩) l) [] (by rw[zjD Switch.id n (fun t=>⟨t.id,t.lie,v⟩) (fun _=>rfl)];exact hn) _ h1
 dsimp only at this
 rw[e]at this
 exact this
theorem zgx:∀ (q:List AskR) (l:List Switch) {n:Int},(∀ a∈q,a.pnt≠n)→ze7 (zbc q l) n=ze7 l n
 |[],_,_,_=>rfl
 |a::q,l,n,h=>by
  show ze7 (zbc q (zdG Switch.id a.pnt (fun t=>⟨t.id,t.lie,a.lie⟩) l)) n=_
  rw[zgx q _ fun b hb=>h b (by simp[hb]),zoV l a.lie (fun e=>h a (by simp) e.symm)]
theorem zf1:∀ (q:List AskR) (l:List Switch),(l.map Switch.id).Nodup→(q.map AskR.pnt).Nodup→∀ a∈q,a.pnt∈l.map Switch.id→ze7 (zbc q l) a.pnt=a.lie
 |[],_,_,_,a,ha,_=>by cases ha
 |b::q,l,hl,hq,a,ha,hi=>by
  simp only[List.map_cons,List.nodup_cons]at hq
  show ze7 (zbc q (zdG Switch.id b.pnt (fun t=>⟨t.id,t.lie,b.lie⟩) l)) a.pnt=_
  rcases List.mem_cons.1 ha with rfl|ha
  ·rw[zgx q _ fun c hc e=>hq.1 (by rw[←e];exact List.mem_map_of_mem hc),zrj hl _ hi]
  ·refine zf1 q _ (by rw[zjD Switch.id b.pnt (fun t=>⟨t.id,t.lie,b.lie⟩) (fun _=>rfl)];exact hl) hq.2 a ha ?_
   rw[zjD Switch.id b.pnt (fun t=>⟨t.id,t.lie,b.lie⟩) (fun _=>rfl)];exact hi
end Go.Lev
namespace Go.Lev
open Go.Eng
theorem zpg {p:Pln} {s:State} (h:zaj p s=true):(zof p s).length=s.locks.length:=by
 have:=zan h
 simp only[zof,List.length_zip,zaV,List.length_map]
 omega
theorem zga {p:Pln} {s:State} (h:zaj p s=true) {i:Nat} (hi:i<(zof p s).length):(zof p s)[i]=((zah p (nth p.routes i)).1,nth s.locks i):=by
 have h1:=zpg h
 have h2:=zan h
 simp[zof,zaV,zaT (show i<p.routes.length by omega),zaT (show i<s.locks.length by omega)]
theorem zlU {p:Pln} {s:State} (h:zaj p s=true):zm4 (zof p s)↔∀ i j,i<s.locks.length→j<s.locks.length→i≠j→∀ m∈zdy p s i,m∉zdy p s j:=by
 have hl:=zpg h
 unfold zm4
 rw[List.pairwise_iff_getElem]
 constructor
 ·intro hp i j hi hj hne m hm hm'
  rcases Nat.lt_trichotomy i j with hlt|e|hlt
  ·have:=hp i j (by omega) (by omega) hlt
   rw[zga h,zga h]at this
   exact this m hm hm'
  ·exact hne e
  ·have:=hp j i (by omega) (by omega) hlt
   rw[zga h,zga h]at this
   exact this m hm' hm
 ·intro hp i j hi hj hlt
  rw[zga h,zga h]
  exact hp i j (by omega) (by omega) (by omega)
theorem zgV {p:Pln} {s:State} (h:zaj p s=true):zn1 s (zof p s)↔∀ i,i<s.locks.length→∀ a∈zd8 p s i,zbs s a.pnt=a.lie:=by
 have h2:=zan h
 constructor
 ·intro hp i hi a ha
  exact hp _ (zof_at h (by omega)) a ha
 ·intro hp z hz a ha
  obtain ⟨i,r,_,hi,e1,e2,_,e3,_⟩:=zf9 h hz
  refine hp i (by omega) a ?_
  unfold zd8
  rw[e1,e2,←e3]
  exact ha
theorem zcW {p:Pln} {s:State}:zac p s=0↔za3 p=true∧zaj p s=true∧(∀ i j,i<s.locks.length→j<s.locks.length→i≠j→∀ m∈zdy p s i,m∉zdy p s j)∧∀ i,i<s.locks.length→∀ a∈zd8 p s i,zbs s a.pnt=a.lie:=by
 rw[zge]
 constructor
 ·rintro ⟨h1,h2,h3,h4⟩;exact ⟨h1,h2,(zlU h2).1 h3,(zgV h2).1 h4⟩
 ·rintro ⟨h1,h2,h3,h4⟩;exact ⟨h1,h2,(zlU h2).2 h3,(zgV h2).2 h4⟩
theorem zf2 (s:State) (n:Int):zbs s n=ze7 s.switches n:=rfl
theorem zoU (q:List AskR):∀ (l:List Switch) (k:Nat),k<l.length→(nth (zbc q l) k).id=(nth l k).id∧(nth (zbc q l) k).lie=(nth l k).lie∧((nth (zbc q l) k).call=(nth l k).call∨∃ a∈q,a.pnt=(nth l k).id∧(nth (zbc q l) k).call=a.lie):=by
 induction q with
 |nil=>intro l k _;exact ⟨rfl,rfl,.inl rfl⟩
 |cons b q ih =>
  intro l k hk
  have h1:=ih (zdG Switch.id b.pnt (fun t=>⟨t.id,t.lie,b.lie⟩) l) k (by rw[zbE];exact hk)
  have h2:nth (zdG Switch.id b.pnt (fun t=>(⟨t.id,t.lie,b.lie⟩:Switch)) l) k=if (nth l k).id=b.pnt then ⟨(nth l k).id,(nth l k).lie,b.lie⟩ else nth l k:=by
   unfold zdG
   exact zlg (fun x=>if Switch.id x=b.pnt then (⟨x.id,x.lie,b.lie⟩:Switch) else x) hk
  rw[show zbc (b::q) l=zbc q (zdG Switch.id b.pnt (fun t=>⟨t.id,t.lie,b.lie⟩) l) from rfl]
  rw[h2]at h1
  by_cases e:(nth l k).id=b.pnt
  ·rw[if_pos e]at h1
   dsimp only at h1
   refine ⟨h1.1,h1.2.1,.inr ?_⟩
   rcases h1.2.2 with h3|⟨a,ha,h3,h4⟩
   ·exact ⟨b,by simp,e.symm,h3⟩
   ·exact ⟨a,by simp[ha],h3,h4⟩
  ·rw[if_neg e]at h1
   refine ⟨h1.1,h1.2.1, ?_⟩
   rcases h1.2.2 with h3|⟨a,ha,h3,h4⟩
   ·exact .inl h3
   ·exact .inr ⟨a,by simp[ha],h3,h4⟩
section
variable {p:Pln} {s:State} {i:Nat} (h:zac p s=0) (hi:i<s.locks.length) (hph:(nth s.locks i).phase=0)
include h hi
theorem zfz {n:Int} (hid:(nth s.locks i).id=n) (q:List AskR) {j:Nat} (hj:j<s.locks.length):nth (ziP s n q).locks j=if j=i then ⟨n,1,(nth s.locks i).gone,(nth s.locks i).left⟩ else nth s.locks j:=by
 show nth (zdG Lock.id n (fun l=>⟨l.id,1,l.gone,l.left⟩) s.locks) j=_
 have h2:nth (zdG Lock.id n (fun l=>(⟨l.id,1,l.gone,l.left⟩:Lock)) s.locks) j=if (nth s.locks j).id=n then ⟨(nth s.locks j).id,1,(nth s.locks j).gone,(nth s.locks j).left⟩ else nth s.locks j:=by
  unfold zdG
  exact zlg (fun x=>if Lock.id x=n then (⟨x.id,1,x.gone,x.left⟩:Lock) else x) hj
 rw[h2]
 by_cases e:j=i
 ·subst e;rw[if_pos hid,if_pos rfl,hid]
 ·rw[if_neg e,if_neg (fun e2=>e (zke h hj hi (e2.trans hid.symm)))]
include hph
theorem zfF:(nth s.locks i).gone=0∧(nth s.locks i).left=0:=by
 have:=zji (zae h).2.1 hi
 simp only[zcK,zb3,hph,Bool.and_eq_true]at this
 simpa using this.2
theorem zoe {n:Int} (hid:(nth s.locks i).id=n):zaj p (ziP s n (zah p (nth p.routes i)).1.asks)=true:=by
 have hpa:=(zae h).2.1
 have hok:=zap h
 have hl:=zan hpa
 have hp2:=hpa
 unfold zaj at hpa ⊢
 simp only[Bool.and_eq_true,zbf]at hpa ⊢
 refine ⟨hpa.1,⟨by show (zbc _ _).length=_;rw[zdC];exact hpa.2.1.1,fun k hk=>?_⟩,by show (zdG _ _ _ _).length=_;rw[zbE];exact hpa.2.2.1,fun k hk=>?_⟩
 ·have hk':k<s.switches.length:=by have:k<(zbc (zah p (nth p.routes i)).1.asks s.switches).length:=hk;rw[zdC]at this;exact this
  have h1:=hpa.2.1.2 k hk'
  have h2:=zoU (zah p (nth p.routes i)).1.asks s.switches k hk'
  show zeV (nth (zbc _ s.switches) k) _=true
  simp only[zeV,zem,Bool.and_eq_true,decide_eq_true_eq]at h1 ⊢
  refine ⟨h2.1.trans h1.1,by rw[h2.2.1];exact h1.2.1, ?_⟩
  rcases h2.2.2 with e|⟨a,ha,_,e⟩
  ·rw[e];exact h1.2.2
  ·have:=(zbi hok (zab (show i<p.routes.length by omega)) ha).2.2
   rw[e];omega
 ·have hk':k<s.locks.length:=by have:k<(zdG Lock.id n (fun l=>(⟨l.id,1,l.gone,l.left⟩:Lock)) s.locks).length:=hk;rw[zbE]at this;exact this
  rw[zfz h hi hid _ hk']
  have h1:=hpa.2.2.2 k hk'
  split
  ·rename_i e
   subst e
   have hr:=zfF h hi hph
   simp only[zcK,zb3,Bool.and_eq_true,decide_eq_true_eq]at h1 ⊢
   refine ⟨hid▸h1.1, ?_⟩
   simp[hr.1,hr.2]
  ·exact h1
theorem zpz {n:Int} (hid:(nth s.locks i).id=n) (hf:∀ m∈(zah p (nth p.routes i)).1.path++(zah p (nth p.routes i)).1.over,nth (zaQ p s).1 m.toNat=0)
  (hk:∀ a∈(zah p (nth p.routes i)).1.asks,zbs s a.pnt=a.lie∨nth (zaQ p s).2.1 a.pnt.toNat=0):zac p (ziP s n (zah p (nth p.routes i)).1.asks)=0:=by
 have h':=zcW.1 h
 obtain ⟨h1,h2,h3,h4⟩:=h'
 have hok:=zap h
 have hl:=zan h2
 have hr:=zfF h hi hph
 have hsl:(ziP s n (zah p (nth p.routes i)).1.asks).locks.length=s.locks.length:=zbE _ _ _ _
 have hwr:nth p.routes i∈p.routes:=zab (by omega)
 have hd:∀ j,j<s.locks.length→zdy p (ziP s n (zah p (nth p.routes i)).1.asks) j=if j=i then (zah p (nth p.routes i)).1.path++(zah p (nth p.routes i)).1.over else zdy p s j:=fun j hj=>by
  unfold zdy
  rw[zfz h hi hid _ hj]
  by_cases e:j=i
  ·subst e
   rw[if_pos rfl,if_pos rfl]
   unfold zbk
   rw[if_neg (by dsimp only;omega)]
   dsimp only
   rw[hr.1];rfl
  ·rw[if_neg e,if_neg e]
 have ha:∀ j,j<s.locks.length→zd8 p (ziP s n (zah p (nth p.routes i)).1.asks) j=if j=i then (zah p (nth p.routes i)).1.asks else zd8 p s j:=fun j hj=>by
  unfold zd8
  rw[zfz h hi hid _ hj]
  by_cases e:j=i
  ·subst e
   rw[if_pos rfl,if_pos rfl]
   unfold zbG
   rw[if_neg (by dsimp only;omega)]
   refine List.filter_eq_self.2 fun a _=>?_
   simp only[zbV,hr.1,Bool.or_eq_true,decide_eq_true_eq]
   omega
  ·rw[if_neg e,if_neg e]
 have hnd:(s.switches.map Switch.id).Nodup:=by rw[zcJ h2];exact zcc hok
 refine zcW.2 ⟨h1,zoe h hi hph hid,fun a b ha' hb' hne m hm hm'=>?_,fun j hj a haj=>?_⟩
 ·rw[hsl]at ha' hb'
  rw[hd a ha']at hm
  rw[hd b hb']at hm'
  have free:∀ j,j<s.locks.length→∀ m∈(zah p (nth p.routes i)).1.path++(zah p (nth p.routes i)).1.over,m∉zdy p s j:=fun j hj m hm hm'=>by
   have e1:=hf m hm
   have e2:=zmH h (zhZ h hj) hm'
   have:=zmB h hj
   rw[e1]at e2
   dsimp only at e2
   omega
  by_cases e:a=i
  ·rw[if_pos e]at hm
   rw[if_neg (fun e2=>hne (e.trans e2.symm))]at hm'
   exact free b hb' m hm hm'
  ·rw[if_neg e]at hm
   by_cases e2:b=i
   ·rw[if_pos e2]at hm'
    exact free a ha' m hm' hm
   ·rw[if_neg e2]at hm'
    exact h3 a b ha' hb' hne m hm hm'
 ·rw[hsl]at hj
  rw[ha j hj]at haj
  rw[zf2]
  show ze7 (zbc _ s.switches) a.pnt=_
  by_cases e:j=i
  ·rw[if_pos e]at haj
   refine zf1 _ _ hnd (zgD h1 hwr) a haj ?_
   obtain ⟨x,hx,ex⟩:=(zbi hok hwr haj).1
   rw[zcJ h2,←ex]
   exact List.mem_map_of_mem hx
  ·rw[if_neg e]at haj
   have h5:=h4 j hj a haj
   rcases Classical.em (∃ b∈(zah p (nth p.routes i)).1.asks,b.pnt=a.pnt) with ⟨b,hb,eb⟩|hno
   ·have h6:=zf1 _ s.switches hnd (zgD h1 hwr) b hb (by
     obtain ⟨x,hx,ex⟩:=(zbi hok hwr hb).1
     rw[zcJ h2,←ex]
     exact List.mem_map_of_mem hx)
    rw[←eb,h6]
    rcases hk b hb with h7|h7
    ·rw[←h7,eb];exact h5
    ·rw[eb,ask_is h hj haj]at h7
     have:=zqn h hj haj
     omega
   ·rw[zgx _ _ fun b hb e=>hno ⟨b,hb,e⟩]
    exact h5
end
end Go.Lev
namespace Go.Lev
open Go.Eng
theorem zjp {p:Pln} {s:State} (ho:OkP p) (h:zaj p s=true) (n:Int):frT s n=decide (zdx s n=0):=by
 rw[Bool.eq_iff_iff,decide_eq_true_eq]
 constructor
 ·intro h1
  obtain ⟨x,hx,e⟩:=List.any_eq_true.1 h1
  simp only[Bool.and_eq_true,decide_eq_true_eq]at e
  obtain ⟨k,hk,rfl⟩:=zbb hx
  rw[e.1,zkg ho h hk];exact e.2.symm
 ·intro h1
  unfold zdx at h1
  cases e:s.tracks.find? fun t=>decide (t.id=n) with
  |none=>rw[e]at h1;exact absurd h1 (by decide)
  |some t =>
   rw[e]at h1
   have h2:=List.find?_some e
   exact List.any_eq_true.2 ⟨t,List.mem_of_find?_eq_some e,by
    simp only[Bool.and_eq_true,decide_eq_true_eq]
    exact ⟨(show t.id=n by simpa using h2).symm,h1.symm⟩⟩
theorem zql {p:Pln} {s:State} (h:zac p s=0) {i:Nat} (hi:i<s.locks.length) {n:Int} (hid:(nth s.locks i).id=n):zgZ s n=(i:Int):=by
 unfold zgZ
 rcases zaP Lock.id n s.locks with ⟨_,h4⟩|⟨k,hk,h4,h5⟩
 ·exact absurd hid (h4 _ (zab hi))
 ·rw[h4,zke h hk hi (h5.trans hid.symm)]
theorem lkC_at {p:Pln} {s:State} (h:zac p s=0) {i:Nat} (hi:i<s.locks.length) {n:Int} (hid:(nth s.locks i).id=n):lkC p s n=if (nth s.locks i).phase=0 then setE p s i else 180:=by
 unfold lkC
 rw[if_pos h,zql h hi hid,if_neg (by omega),Int.toNat_natCast]
theorem lkC_no {p:Pln} {s:State} (h:zac p s=0) {n:Int} (hid:∀ x∈s.locks,x.id≠n):lkC p s n=6:=by
 unfold lkC
 rw[if_pos h,if_pos]
 unfold zgZ
 rcases zaP Lock.id n s.locks with ⟨h3,_⟩|⟨k,hk,h4,h5⟩
 ·rw[h3];decide
 ·exact absurd h5 (hid _ (zab hk))
def leF (p:Pln) (s:State) (n e:Int) (w:WayR) (H A:Int→Int):Bool :=
 zaB (fun i _ za0=>cond (!decide ((nth s.locks i).id=n)) (za0 ())
   (cond (!decide ((nth s.locks i).phase=0)) (decide (e=180))
    (zaB (fun k _ next2=>cond (!decide (H (nth (w.path++w.over) k)=0)) (decide (e=181)) (cond (!decide (zdx s (nth (w.path++w.over) k)=0)) (decide (e=182)) (next2 ())))
     (fun _=>zaB (fun k _ next3 =>
       zaB (fun m _ next4=>cond (decide ((nth s.switches m).id=(nth w.asks k).pnt)&&!decide ((nth s.switches m).call=(nth w.asks k).lie)&&(!decide (A (nth s.switches m).id=0)||!decide (zdx s (nth p.points m).sec=0))) (decide (e=183)) (next4 ()))
        (fun _=>next3 ()) s.switches.length 0 ())
      (fun _=>decide (e=0)) w.asks.length 0 ()) (w.path++w.over).length 0 ())))
  (fun _=>decide (e=6)) s.locks.length 0 ()
theorem zjI {p:Pln} {s:State} (h:zaj p s=true) {k:Nat} (hk:k<s.switches.length):(nth s.switches k).id=(nth p.points k).id:=by
 have:=(zbf _ _ _).1 (by simp only[zaj,Bool.and_eq_true]at h;exact h.2.1)
 have:=this.2 k hk
 simp only[zeV,Bool.and_eq_true,decide_eq_true_eq]at this
 exact this.1
end Go.Lev
namespace Go.Lev
open Go.Eng
set_option maxRecDepth 10000
set_option maxHeartbeats 4000000
variable {P:Program} {inv:Nat→Option Nat} {w0:World} {M:Nat→Prop}
section
variable {L:List Lock} {k:Nat} (h:k<L.length)
include h
end
section
variable {L:List Lock} {k:Nat} (h:k<L.length) (x:Lock)
include h
end
def tickL (l:Lock):Lock:=if l.left=0 then l else if l.left-1=0 then ⟨l.id,0,0,0⟩ else ⟨l.id,l.phase,l.gone,l.left-1⟩
def tickS (s:State):State:=⟨s.tracks,s.switches,s.locks.map tickL⟩
def tickR (p:Pln) (s:State):State:=if zac p s=0 then tickS s else State.z
end Go.Lev
namespace Go.Lev
open Go.Eng
set_option maxRecDepth 10000
set_option maxHeartbeats 4000000
variable {P:Program} {inv:Nat→Option Nat} {w0:World} {M:Nat→Prop}
def emptyB (s:State) (w:WayR) (l:Lock):Bool:=!((w.path.drop l.gone.toNat).any fun m=>!frT s m)
def cnC0 (s:State) (w:WayR) (l:Lock):Int:=if l.phase=0 then 220 else if l.phase=1 then 0 else if l.phase=2∧emptyB s w l=true then 0 else 221
def cnL (s:State) (w:WayR) (r:Rte) (l:Lock) (n:Int):Lock:=if l.phase=1∧frT s w.near=false then ⟨n,4,0,r.timer⟩ else ⟨n,0,0,0⟩
def cnC (p:Pln) (s:State) (n:Int):Int:=if zac p s=0 then (if zgZ s n<0 then 6 else cnC0 s (zah p (nth p.routes (zgZ s n).toNat)).1 (nth s.locks (zgZ s n).toNat)) else zac p s
def cnS (p:Pln) (s:State) (n:Int):State:=⟨s.tracks,s.switches,s.locks.set (zgZ s n).toNat (cnL s (zah p (nth p.routes (zgZ s n).toNat)).1 (nth p.routes (zgZ s n).toNat) (nth s.locks (zgZ s n).toNat) n)⟩
def cnR (p:Pln) (s:State) (n:Int):State:=if cnC p s n=0 then cnS p s n else State.z
end Go.Lev
namespace Go.Lev
open Go.Eng
set_option maxRecDepth 10000
set_option maxHeartbeats 4000000
variable {P:Program} {inv:Nat→Option Nat} {w0:World} {M:Nat→Prop}
def stepL (r:Rte) (is:Int→Int) (l:Lock):Lock :=
 if l.phase=1∨l.phase=4 then (if (r.path.any fun n=>decide (is n=1))=true then ⟨l.id,2,0,0⟩ else l)
 else if l.phase=2 then
  (if l.gone<(r.path.length:Int)-1∧is (nth r.path l.gone.toNat)=0∧is (nth r.path (l.gone.toNat+1))=1 then ⟨l.id,l.phase,l.gone+1,l.left⟩
   else if l.gone=(r.path.length:Int)-1∧is (nth r.path (r.path.length-1))=1 then ⟨l.id,3,(r.path.length:Int)-1,r.timer⟩
   else if l.gone=(r.path.length:Int)-1∧is (nth r.path (r.path.length-1))=0 then ⟨l.id,0,0,0⟩
   else l)
 else if l.phase=3 then (if is (nth r.path (r.path.length-1))=0 then ⟨l.id,0,0,0⟩ else l)
 else l
end Go.Lev
namespace Go.Eng
section
variable {P:Program} {inv:Nat→Option Nat} {w0:World} {M:Nat→Prop} {n N:Nat} {φ φ0:AF} {σ σ0:AS}
end
end Go.Eng
namespace Go.Lev
open Go.Eng
set_option maxRecDepth 10000
set_option maxHeartbeats 4000000
variable {P:Program} {inv:Nat→Option Nat} {w0:World} {M:Nat→Prop}
def rankL (r:Rte) (l:Lock):Nat:=if l.phase=1∨l.phase=4 then r.path.length+3 else if l.phase=2 then 2+((r.path.length:Int)-1-l.gone).toNat else if l.phase=3 then 1 else 0
def zpy (r:Rte) (is:Int→Int):Nat→Lock→Lock
 |0,l=>l
 |m+1,l=>if stepL r is l=l then l else zpy r is m (stepL r is l)
def settleL (r:Rte) (is:Int→Int) (l:Lock):Lock:=zpy r is (rankL r l) l
end Go.Lev
namespace Go.Lev
open Go.Eng
set_option maxRecDepth 10000
set_option maxHeartbeats 4000000
variable {P:Program} {inv:Nat→Option Nat} {w0:World} {M:Nat→Prop}
def setlF (p:Pln) (s:State) (i:Nat) (l:Lock):Lock:=settleL (nth p.routes i) (zdx s) l
def setlS (p:Pln) (s:State):State:=⟨s.tracks,s.switches,s.locks.mapIdx (setlF p s)⟩
def setlR (p:Pln) (s:State):State:=if zac p s=0 then setlS p s else State.z
end Go.Lev
namespace Go.Lev
open Go.Eng
set_option maxRecDepth 10000
set_option maxHeartbeats 4000000
variable {P:Program} {inv:Nat→Option Nat} {w0:World} {M:Nat→Prop}
def lkS (p:Pln) (s:State) (n:Int):State:=if lkC p s n=0 then ziP s n (lkW p s n).asks else State.z
end Go.Lev
namespace Go.Lev
open Go.Eng
theorem zkc {H:List Int} {fr:Int→Bool}:∀ {l:List Int},zdh H fr l=0↔∀ x∈l,nth H x.toNat=0∧fr x=true
 |[]=>by simp[zdh]
 |x::r=>by
  rw[zdh]
  constructor
  ·intro h
   split at h
   ·rename_i h1
    split at h
    ·rename_i h2
     intro y hy
     rcases List.mem_cons.1 hy with rfl|hy
     ·exact ⟨h1,h2⟩
     ·exact zkc.1 h y hy
    ·cases h
   ·cases h
  ·intro h
   obtain ⟨h1,h2⟩:=h x (by simp)
   rw[if_pos h1,if_pos h2]
   exact zkc.2 fun y hy=>h y (by simp[hy])
def zbj (p:Pln) (i:Nat):List Int:=(zah p (nth p.routes i)).1.path++(zah p (nth p.routes i)).1.over
def za1 (p:Pln) (i:Nat):List AskR:=(zah p (nth p.routes i)).1.asks
structure MaySet (p:Pln) (s:State) (n:Int) (i:Nat):Prop where
 st:zac p s=0
 lt:i<s.locks.length
 id:(nth s.locks i).id=n
 ph:(nth s.locks i).phase=0
 sec:∀ x∈zbj p i,nth (zaQ p s).1 x.toNat=0∧zdx s x=0
 ask:∀ a∈za1 p i,zbs s a.pnt=a.lie∨(nth (zaQ p s).2.1 a.pnt.toNat=0∧zdx s (zei p a.pnt)=0)
theorem zlT {p:Pln} {s:State} (ho:OkP p) (h:zaj p s=true) {A:List Int} {a:AskR}:zmV p s A a=true↔zbs s a.pnt=a.lie∨(nth A a.pnt.toNat=0∧zdx s (zei p a.pnt)=0):=by
 unfold zmV
 rw[zjp ho h]
 simp
theorem lkC_iff {p:Pln} {s:State} {n:Int}:lkC p s n=0↔∃ i,MaySet p s n i:=by
 constructor
 ·intro h
  have hst:zac p s=0:=by
   unfold lkC at h
   split at h
   ·assumption
   ·exact h
  rcases zaP Lock.id n s.locks with ⟨_,hno⟩|⟨i,hi,_,hid⟩
  ·rw[lkC_no hst hno]at h;cases h
  ·rw[lkC_at hst hi hid]at h
   split at h
   ·rename_i hph
    unfold setE at h
    have ho:=zap hst
    have hpa:=(zae hst).2.1
    split at h
    ·rename_i h1
     split at h
     ·rename_i h2
      refine ⟨i,hst,hi,hid,hph,fun x hx=>?_,fun a ha=>(zlT ho hpa).1 (List.all_eq_true.1 h2 a ha)⟩
      have:=zkc.1 h1 x hx
      rw[zjp ho hpa,decide_eq_true_eq]at this
      exact this
     ·cases h
    ·rename_i h1;exact absurd h h1
   ·cases h
 ·rintro ⟨i,hst,hi,hid,hph,h1,h2⟩
  have ho:=zap hst
  have hpa:=(zae hst).2.1
  rw[lkC_at hst hi hid,if_pos hph]
  unfold setE
  have h3:zdh (zaQ p s).1 (frT s) ((zah p (nth p.routes i)).1.path++(zah p (nth p.routes i)).1.over)=0:=zkc.2 fun x hx=>by
   rw[zjp ho hpa,decide_eq_true_eq];exact h1 x hx
  have h4:(zah p (nth p.routes i)).1.asks.all (zmV p s (zaQ p s).2.1)=true:=List.all_eq_true.2 fun a ha=>(zlT ho hpa).2 (h2 a ha)
  rw[if_pos h3,if_pos h4]
theorem zqv {p:Pln} {n:Int} (h:∃ x∈p.points,x.id=n):zh9 p n=true:=by
 obtain ⟨x,hx,e⟩:=h
 exact List.any_eq_true.2 ⟨x,hx,by simpa using e⟩
theorem zh8 {p:Pln} (h:OkP p) {r:Rte} (hr:r∈p.routes) {a:AskR} (ha:a∈(zah p r).1.asks):zh9 p a.pnt=true:=zqv (zbi h hr ha).1
section
variable {p:Pln} {s:State} {n:Int} {i:Nat} (h:MaySet p s n i)
include h
theorem MaySet.lkW:lkW p s n=(zah p (nth p.routes i)).1:=by
 unfold Go.Lev.lkW
 rw[if_pos h.st,zql h.st h.lt h.id,if_neg (by omega),Int.toNat_natCast,if_pos h.ph]
theorem MaySet.lkS:lkS p s n=ziP s n (za1 p i):=by
 unfold Go.Lev.lkS
 rw[if_pos (lkC_iff.2 ⟨i,h⟩),h.lkW]
 rfl
theorem MaySet.code:zac p (ziP s n (za1 p i))=0:=zpz h.st h.lt h.ph h.id (fun m hm=>(h.sec m hm).1) fun a ha=>by
 rcases h.ask a ha with h1|h1
 ·exact .inl h1
 ·exact .inr h1.1
theorem MaySet.lock {j:Nat} (hj:j<s.locks.length):nth (ziP s n (za1 p i)).locks j=if j=i then ⟨n,1,0,0⟩ else nth s.locks j:=by
 rw[zfz h.st h.lt h.id _ hj,(zfF h.st h.lt h.ph).1,(zfF h.st h.lt h.ph).2]
theorem znl (q:List AskR):(ziP s n q).locks.length=s.locks.length:=zbE _ _ _ _
theorem MaySet.hd {j:Nat} (hj:j<s.locks.length):zdy p (ziP s n (za1 p i)) j=if j=i then zbj p i else zdy p s j:=by
 unfold zdy
 rw[h.lock hj]
 by_cases e:j=i
 ·subst e
  rw[if_pos rfl,if_pos rfl]
  unfold zbk
  rw[if_neg (by dsimp only;omega)]
  rfl
 ·rw[if_neg e,if_neg e]
theorem MaySet.as {j:Nat} (hj:j<s.locks.length):zd8 p (ziP s n (za1 p i)) j=if j=i then za1 p i else zd8 p s j:=by
 unfold zd8
 rw[h.lock hj]
 by_cases e:j=i
 ·subst e
  rw[if_pos rfl,if_pos rfl]
  unfold zbG
  rw[if_neg (by dsimp only;omega)]
  refine List.filter_eq_self.2 fun a _=>?_
  simp only[zbV,Bool.or_eq_true,decide_eq_true_eq]
  omega
 ·rw[if_neg e,if_neg e]
theorem MaySet.rt:nth p.routes i∈p.routes:=by
 have:=zan (zae h.st).2.1
 have:=h.lt
 exact zab (by omega)
theorem MaySet.secR {x:Int} (hx:x∈zbj p i):isSec p x=true∧0≤x:=by
 have ho:=zap h.st
 have hwp:=zbo ((zaD (zae h.st).1).2.1 _ h.rt)
 unfold zbj at hx
 rw[hwp.1,hwp.2.1]at hx
 obtain ⟨q,hq,e⟩:=(zcx ho h.rt).1 x hx
 have:=zdr ho hq
 exact ⟨List.any_eq_true.2 ⟨q,hq,by simpa using e⟩,by omega⟩
theorem MaySet.holds {x:Int} (hx:x∈zbj p i):nth (zaQ p (ziP s n (za1 p i))).1 x.toNat=n:=by
 have hi':i<(ziP s n (za1 p i)).locks.length:=by rw[znl h];exact h.lt
 have:=(hold_iff h.code hi' (h.secR hx).2).2 (by rw[h.hd h.lt,if_pos rfl];exact hx)
 rw[this,h.lock h.lt,if_pos rfl]
theorem MaySet.asks {a:AskR} (ha:a∈za1 p i):nth (zaQ p (ziP s n (za1 p i))).2.1 a.pnt.toNat=a.lie:=by
 have hi':i<(ziP s n (za1 p i)).locks.length:=by rw[znl h];exact h.lt
 exact ask_is h.code hi' (by rw[h.as h.lt,if_pos rfl];exact ha)
theorem MaySet.callsIn {a:AskR} (ha:a∈za1 p i):zbs (ziP s n (za1 p i)) a.pnt=a.lie:=by
 have ho:=zap h.st
 have hpa:=(zae h.st).2.1
 rw[zf2]
 refine zf1 _ _ (by rw[zcJ hpa];exact zcc ho) (zgD (zae h.st).1 h.rt) a ha ?_
 obtain ⟨x,hx,ex⟩:=(zbi ho h.rt ha).1
 rw[zcJ hpa,←ex]
 exact List.mem_map_of_mem hx
end
end Go.Lev
