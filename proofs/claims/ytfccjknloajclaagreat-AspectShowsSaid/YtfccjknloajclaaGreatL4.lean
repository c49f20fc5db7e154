/-
  A part of the engine that walks the functions' codes, and of the functions' contracts. Conditions: those that each theorem names.
-/
import Derived.Test.YtfccjknloajclaaGreatL3
import Derived.IntWalk
set_option linter.unusedSimpArgs false
set_option linter.unusedVariables false
set_option linter.unusedSectionVars false
namespace Go.Lev
open Go.Eng
set_option maxRecDepth 10000
set_option maxHeartbeats 4000000
variable {P:Program} {inv:Nat→Option Nat} {w0:World} {M:Nat→Prop}
abbrev WayR:=Go.Eng.Way
def zjl (x:Sgn):Join→List Section→Join
 |j,[]=>j
 |j,s::r=>zjl x (if s.id=x.sec then nth s.ends x.ed.toNat else j) r
def zdI (p:Pln) (r:Rte) (y:Sgn) (all:List Int) (i:Nat) (s:Int) (w:Wk):Wk :=
 if (i:Int)=(r.path.length:Int)-1∧r.exit=0 then zaw p w s i fun _ j=>decide (j=⟨0,0⟩)
 else if (i:Int)=(r.path.length:Int)-1 then zaw p w s i fun e _=>decide (s=y.sec)&&decide (e=y.ed)
 else if (i:Int)=(all.length:Int)-1 then zdk p w s i
 else zaw p w s i fun _ j=>decide (j.to=nth all (i+1))
def zby (p:Pln) (r:Rte) (y:Sgn) (all:List Int):Nat→Wk→List Int→Wk
 |_,w,[]=>w
 |i,w,s::l=>zby p r y all (i+1) (zdI p r y all i s w) l
def zgs:List AskR→List Flk→List AskR
 |l,[]=>l
 |l,f::r=>zgs (zi1 f.pnt f.lie (-1) l) r
def zgc (p:Pln) (r:Rte):Wk:=zby p r (sig p r.exit) (r.path++r.over) 0 ⟨zjl (sig p r.entry) ⟨0,0⟩ p.sections,[],[],false⟩ (r.path++r.over)
def zah (p:Pln) (r:Rte):WayR×List Join×Int :=
 if (zgc p r).lost=true then (⟨[],[],[],0⟩,[],90) else (⟨r.path,r.over,zgs (zgc p r).asks r.flanks,(sig p r.entry).sec⟩,(zgc p r).outs,0)
theorem zkA (a b c:Int) (l:List AskR):(zi1 a b c l).length≤l.length+1:=by unfold zi1;split<;>simp
theorem zc7 (p:Pln) (w:Wk) (s i:Int) (R:Int→Join→Bool):(zaw p w s i R).asks.length≤w.asks.length+1∧(zaw p w s i R).outs.length≤w.outs.length+1:=by
 unfold zaw
 split
 ·omega
 ·split
  ·dsimp only;omega
  ·split
   ·dsimp only;omega
   ·refine ⟨zkA _ _ _ _,by simp⟩
theorem zkE (p:Pln) (w:Wk) (s i:Int):(zdk p w s i).asks.length≤w.asks.length+1∧(zdk p w s i).outs.length≤w.outs.length+1:=by
 unfold zdk
 split
 ·dsimp only;omega
 ·split
  ·refine ⟨zkA _ _ _ _,by simp⟩
  ·omega
def zm3 (p:Pln) (r:Rte):Prop:=∀ s∈p.sections,s.id=(sig p r.entry).sec→0≤(sig p r.entry).ed∧(sig p r.entry).ed<s.ends.length
theorem dropRow {n N:Nat} {φ:List (Nat×AV)} {σ:List (Nat×AO)} {c:ACode} {Q:Exit→List (Nat×AV)→List (Nat×AO)→Prop} (l:Nat) (h:AWp P inv w0 M N n c Q φ (zi8 σ l)):AWp P inv w0 M N n c Q φ σ:=by
 have hsd:∀ l' o,zaF (zi8 σ l) l'=some o→zaF σ l'=some o:=by
  intro l' o e
  rw[zfy]at e
  split at e
  ·cases e
  ·exact e
 intro c₀ hc β a w hs
 have hd:=fun N=>hs.mem.drop hsd N
 have hs':St inv w0 M n φ (zi8 σ l) β a w:=⟨⟨fun i=>(hd (zaM φ)).2.rel (zaK _ (zbL φ i)) (hs.slots i),(hd 0).1⟩,hs.size,hs.defers⟩
 exact Code.wp_mono (fun _ _ _ ⟨φ2,σ2,β2,q2,hst2,hext2⟩=>⟨φ2,σ2,β2,q2,hst2,(hd N).2.trans hext2⟩) (h c₀ hc β a w hs')
theorem zmO (hH:HasAll P inv) (p:Pln) (hp:Sm p) (r:Rte) (hr:r.path.length≤1000∧r.over.length≤1000∧r.flanks.length≤1000) (he:zm3 p r):PC P inv 90 [.agg p.c,.agg r.c] (·=.tup [.agg (zah p r).1.c,.sl 2 ((zah p r).2.1.map Join.c),.n (zah p r).2.2]):=by
 have c1:=zkJ hH p hp r.entry
 have c2:=zkJ hH p hp r.exit
 have c3:=zlG hH [r.path,r.over] (by simp) (by simp[lens];omega)
 have hl:=hp.sec
 have hall:∃ all,all=r.path++r.over:=⟨_,rfl⟩
 obtain ⟨all,hall⟩:=hall
 have hal:all.length≤2000∧r.path.length≤all.length:=by rw[hall];simp;omega
 rw[show [r.path,r.over].flatten=all by rw[hall];simp]at c3
 obtain ⟨ans,ha⟩:∃ ans,ans=zah p r:=⟨_,rfl⟩
 rw[←ha]
 unfold zah zgc at ha
 rw[←hall]at ha
 unfold zm3 at he
 revert ha he c1 c2
 generalize sig p r.entry=x
 generalize sig p r.exit=y
 intro he c1 c2 ha
 refine PC.fn hH cd90 fun w0 M Q hM hE hQ hR=>?_;dsimp only[cd90,qm,ql,qf,qi,qb,qc,qp,qv,qN,qT,qF,qt]at hQ ⊢
 (repeat' first|refine zaa [0,1,2,3,4,5,6,7,8,9,11,12,13,14,16,29,30,31,32,39,56,57,58,59,68,84,96,110,113,114,115,116] fun K hK=>?_|(refine hK.go ?_;clear hK K)|with_reducible exact wT|refine wA ?_|(refine wB (fun h=>?_) (fun h=>?_)<;>first|exact wN h|subst (h:(_:Bool)=_)|skip)|(refine wQ ?_;clear hQ hR hE hM)|refine wU c1 ?_|refine wU c2 ?_|fail)
 refine zai (ι:=Nat×Join) [3,4,5,6,7,8,9,29,30,31] (fun z=>[(31,.n z.1)]) (fun z=>[(5,.cells [.n p.version,.n p.parent,.sl 3 (p.sections.map Section.c),.sl 2 (p.points.map Pnt.c),.sl 3 (p.signals.map Sgn.c),.sl 7 (p.routes.map Rte.c),.n z.2.to,.n z.2.ed,.s0 3,.s0 2,.b false] true)]) (fun z=>z.1) (p.sections.length) (fun z=>(zjl x z.2 (p.sections.drop z.1)=zjl x ⟨0,0⟩ p.sections)) (0,(⟨0,0⟩:Join)) ?_;rintro ⟨k,j⟩ ⟨hk,hg⟩;(try dsimp only at hk hg ⊢);rcases Nat.lt_or_ge k p.sections.length with hlt|hge
 ·rw[zad hlt]at hg
  rw[zjl]at hg
  have hx:=he _ (zab hlt)
  by_cases hid:(nth p.sections k).id=x.sec
  ·have hx':=hx hid
   rw[if_pos hid]at hg
   (repeat' first|refine zaa [0,1,2,3,4,5,6,7,8,9,11,12,13,14,16,29,30,31,32,39,56,57,58,59,68,84,96,110,113,114,115,116] fun K hK=>?_|(refine hK.go ?_;clear hK K)|with_reducible exact wT|refine wA ?_|(refine wB (fun h=>?_) (fun h=>?_)<;>first|exact wN h|subst (h:(_:Bool)=_)|skip)|(refine wQ ?_;clear hQ hR hE hM)|fail)
   exact nY (k+1,nth (nth p.sections k).ends x.ed.toNat) ⟨by (try dsimp only);omega,hg⟩
  ·rw[if_neg hid]at hg
   (repeat' first|refine zaa [0,1,2,3,4,5,6,7,8,9,11,12,13,14,16,29,30,31,32,39,56,57,58,59,68,84,96,110,113,114,115,116] fun K hK=>?_|(refine hK.go ?_;clear hK K)|with_reducible exact wT|refine wA ?_|(refine wB (fun h=>?_) (fun h=>?_)<;>first|exact wN h|subst (h:(_:Bool)=_)|skip)|(refine wQ ?_;clear hQ hR hE hM)|fail)
   exact nY (k+1,j) ⟨by (try dsimp only);omega,hg⟩
 ·rw[List.drop_eq_nil_of_le hge,zjl]at hg
  subst hg
  (repeat' first|refine zaa [0,1,2,3,4,5,6,7,8,9,11,12,13,14,16,29,30,31,32,39,56,57,58,59,68,84,96,110,113,114,115,116] fun K hK=>?_|(refine hK.go ?_;clear hK K)|with_reducible exact wT|refine wA ?_|(refine wB (fun h=>?_) (fun h=>?_)<;>first|exact wN h|subst (h:(_:Bool)=_)|skip)|(refine wQ ?_;clear hQ hR hE hM)|refine wC c3 ?_|fail)
  refine zcV 5 8 20 3 rfl rfl (by omega) (by (refine no_implicit_lambda% (st ?_);try with_reducible exact wT)) (by (refine no_implicit_lambda% (st ?_);try with_reducible exact wT)) ?_
  refine zcV 5 9 21 2 rfl rfl (by omega) (by (refine no_implicit_lambda% (st ?_);try with_reducible exact wT)) (by (refine no_implicit_lambda% (st ?_);try with_reducible exact wT)) ?_
  refine dropRow 0 ?_
  (refine no_implicit_lambda% (st ?_);try with_reducible exact wT)
  generalize hw0:(⟨zjl x ⟨0,0⟩ p.sections,[],[],false⟩:Wk)=W0 at ha
  have e0:W0.asks=[]∧W0.outs=[]∧W0.lost=false∧W0.inn=zjl x ⟨0,0⟩ p.sections:=by rw[←hw0];simp
  rw[←e0.2.2.2]
  clear hw0
  obtain ⟨inn0,as0,os0,l0⟩:=W0
  dsimp only at e0
  obtain ⟨rfl,rfl,rfl,e0⟩:=e0
  clear e0
  refine zai (ι:=Nat×Wk×Bool×Bool) [3,4,5,6,7,8,9,12,56,57,58] (fun z=>[(58,.n z.1)]) (fun z=>[(5,.cells (z.2.1.c p) true),(20,.cells (z.2.1.asks.map AskR.c).flatten z.2.2.1),(21,.cells (z.2.1.outs.map Join.c).flatten z.2.2.2)]) (fun z=>z.1) (all.length) (fun z=>(zby p r y all z.1 z.2.1 (all.drop z.1)=zby p r y all 0 ⟨inn0,[],[],false⟩ all)∧(z.2.1.asks.length≤z.1∧z.2.1.outs.length≤z.1)) (0,(⟨inn0,[],[],false⟩:Wk),false,false) ?_;rintro ⟨k,w,ba,bo⟩ ⟨hk,hg,hx⟩;(try dsimp only at hk hg hx ⊢);rcases Nat.lt_or_ge k all.length with hlt|hge
  ·rw[zad hlt]at hg
   rw[zby,zdI]at hg
   have hx1:w.asks.length≤1000000:=by omega
   have hx2:w.outs.length≤1000000:=by omega
   by_cases hk1:(k:Int)=(r.path.length:Int)-1
   ·by_cases hk2:r.exit=0
    ·rw[if_pos ⟨hk1,hk2⟩]at hg
     have hlen:=zc7 p w (nth all k) k (fun _ j=>decide (j=⟨0,0⟩))
     (have hX:=@stW.eq_1;(repeat' first|refine zaa [0,1,2,3,4,5,6,7,8,9,11,12,13,14,16,29,30,31,32,39,56,57,58,59,68,84,96,110,113,114,115,116] fun K hK=>?_|(refine hK.go ?_;clear hK K)|with_reducible exact wT|refine wA ?_|(refine wB (fun h=>?_) (fun h=>?_)<;>first|exact wN h|subst (h:(_:Bool)=_)|skip)|(refine wQ ?_;clear hQ hR hE hM)|(refine zeU 30 (zl9 hH hM p hp r x y w all (k:Int) (nth all k) ba bo hx1 hx2) (by omega) (by first|omega|exact wF|((refine no_implicit_lambda% (st ?_);try with_reducible exact wT);omega)) ?_;try (refine no_implicit_lambda% (st ?_);try with_reducible exact wT))|fail);all_goals clear hX)
     generalize (zaw p w (nth all k) k (fun _ j=>decide (j=⟨0,0⟩)))=W' at hg hlen ⊢
     exact ⟨(k+1,W',_,_),by dsimp only;omega,⟨by dsimp only;omega,hg,by dsimp only;omega⟩,by dsimp only;omega,rfl,rfl,rfl⟩
    ·rw[if_neg (fun h=>hk2 h.2),if_pos hk1]at hg
     have hlen:=zc7 p w (nth all k) k (fun e _=>decide (nth all k=y.sec)&&decide (e=y.ed))
     (have hX:=@stW.eq_1;(repeat' first|refine zaa [0,1,2,3,4,5,6,7,8,9,11,12,13,14,16,29,30,31,32,39,56,57,58,59,68,84,96,110,113,114,115,116] fun K hK=>?_|(refine hK.go ?_;clear hK K)|with_reducible exact wT|refine wA ?_|(refine wB (fun h=>?_) (fun h=>?_)<;>first|exact wN h|subst (h:(_:Bool)=_)|skip)|(refine wQ ?_;clear hQ hR hE hM)|(refine zeU 30 (zl8 hH hM p hp r x y w all (k:Int) (nth all k) ba bo hx1 hx2) (by omega) (by first|omega|exact wF|((refine no_implicit_lambda% (st ?_);try with_reducible exact wT);omega)) ?_;try (refine no_implicit_lambda% (st ?_);try with_reducible exact wT))|fail);all_goals clear hX)
     generalize (zaw p w (nth all k) k (fun e _=>decide (nth all k=y.sec)&&decide (e=y.ed)))=W' at hg hlen ⊢
     exact ⟨(k+1,W',_,_),by dsimp only;omega,⟨by dsimp only;omega,hg,by dsimp only;omega⟩,by dsimp only;omega,rfl,rfl,rfl⟩
   ·by_cases hk3:(k:Int)=(all.length:Int)-1
    ·rw[if_neg (fun h=>hk1 h.1),if_neg hk1,if_pos hk3]at hg
     have hlen:=zkE p w (nth all k) k
     (have hX:=@stW.eq_1;(repeat' first|refine zaa [0,1,2,3,4,5,6,7,8,9,11,12,13,14,16,29,30,31,32,39,56,57,58,59,68,84,96,110,113,114,115,116] fun K hK=>?_|(refine hK.go ?_;clear hK K)|with_reducible exact wT|refine wA ?_|(refine wB (fun h=>?_) (fun h=>?_)<;>first|exact wN h|subst (h:(_:Bool)=_)|skip)|(refine wQ ?_;clear hQ hR hE hM)|(refine zeU 30 (stay_ac hH hM p hp r x y w all (k:Int) (nth all k) ba bo hx1) (by omega) (by first|omega|exact wF|((refine no_implicit_lambda% (st ?_);try with_reducible exact wT);omega)) ?_;try (refine no_implicit_lambda% (st ?_);try with_reducible exact wT))|fail);all_goals clear hX)
     generalize (zdk p w (nth all k) k)=W' at hg hlen ⊢
     exact ⟨(k+1,W',_,_),by dsimp only;omega,⟨by dsimp only;omega,hg,by dsimp only;omega⟩,by dsimp only;omega,rfl,rfl,rfl⟩
    ·rw[if_neg (fun h=>hk1 h.1),if_neg hk1,if_neg hk3]at hg
     have hlen:=zc7 p w (nth all k) k (fun _ j=>decide (j.to=nth all (k+1)))
     (have hX:=@stW.eq_1;(repeat' first|refine zaa [0,1,2,3,4,5,6,7,8,9,11,12,13,14,16,29,30,31,32,39,56,57,58,59,68,84,96,110,113,114,115,116] fun K hK=>?_|(refine hK.go ?_;clear hK K)|with_reducible exact wT|refine wA ?_|(refine wB (fun h=>?_) (fun h=>?_)<;>first|exact wN h|subst (h:(_:Bool)=_)|skip)|(refine wQ ?_;clear hQ hR hE hM)|(refine zeU 30 (zl7 hH hM p hp r x y w all k (nth all k) ba bo hx1 hx2 (by omega) (by omega)) (by omega) (by first|omega|exact wF|((refine no_implicit_lambda% (st ?_);try with_reducible exact wT);omega)) ?_;try (refine no_implicit_lambda% (st ?_);try with_reducible exact wT))|fail);all_goals clear hX)
     generalize (zaw p w (nth all k) k (fun _ j=>decide (j.to=nth all (k+1))))=W' at hg hlen ⊢
     exact ⟨(k+1,W',_,_),by dsimp only;omega,⟨by dsimp only;omega,hg,by dsimp only;omega⟩,by dsimp only;omega,rfl,rfl,rfl⟩
  ·rw[List.drop_eq_nil_of_le hge,zby]at hg
   rw[←hg]at ha
   clear hg
   obtain ⟨inn,asks,outs,lost⟩:=w
   dsimp only at ha hx ⊢
   cases lost with
   |true =>
    rw[if_pos rfl]at ha
    subst ha
    (repeat' first|refine zaa [0,1,2,3,4,5,6,7,8,9,11,12,13,14,16,29,30,31,32,39,56,57,58,59,68,84,96,110,113,114,115,116] fun K hK=>?_|(refine hK.go ?_;clear hK K)|with_reducible exact wT|refine wA ?_|(refine wB (fun h=>?_) (fun h=>?_)<;>first|exact wN h|subst (h:(_:Bool)=_)|skip)|(refine wQ ?_;clear hQ hR hE hM)|fail)
    all_goals first|(exfalso;contradiction)|skip
   |false =>
    rw[if_neg (by simp)]at ha
    (repeat' first|refine zaa [0,1,2,3,4,5,6,7,8,9,11,12,13,14,16,29,30,31,32,39,56,57,58,59,68,84,96,110,113,114,115,116] fun K hK=>?_|(refine hK.go ?_;clear hK K)|with_reducible exact wT|refine wA ?_|(refine wB (fun h=>?_) (fun h=>?_)<;>first|exact wN h|subst (h:(_:Bool)=_)|skip)|(refine wQ ?_;clear hQ hR hE hM)|fail)
    all_goals first|(exfalso;contradiction)|skip
    skip
    refine zai (ι:=Nat×(List AskR)×Bool) [3,4,5,6,7,9,113,114,115] (fun z=>[(115,.n z.1)]) (fun z=>[(5,.cells (Wk.c p ⟨inn,z.2.1,outs,false⟩) true),(20,.cells (z.2.1.map AskR.c).flatten z.2.2)]) (fun z=>z.1) (r.flanks.length) (fun z=>(zgs z.2.1 (r.flanks.drop z.1)=zgs asks r.flanks)∧(z.2.1.length≤2000+z.1)) (0,asks,ba) ?_;rintro ⟨k2,l,b2⟩ ⟨hk,hg,hx2⟩;(try dsimp only at hk hg hx2 ⊢);rcases Nat.lt_or_ge k2 r.flanks.length with hlt|hge
    ·rw[zad (by assumption),zgs,zi1]at hg
     (repeat' first|refine zaa [0,1,2,3,4,5,6,7,8,9,11,12,13,14,16,29,30,31,32,39,56,57,58,59,68,84,96,110,113,114,115,116] fun K hK=>?_|(refine hK.go ?_;clear hK K)|with_reducible exact wT|refine wA ?_|(refine wB (fun h=>?_) (fun h=>?_)<;>first|exact wN h|subst (h:(_:Bool)=_)|skip)|(refine wQ ?_;clear hQ hR)|(refine AC.callK 40 (by omega) (by first|omega|exact wF|((refine no_implicit_lambda% (st ?_);try with_reducible exact wT);omega)) (zat (F:=cd107) (hH.has _ _ rfl) (Nat.le_of_ble_eq_true rfl) fun Q hQ hR=>?_);dsimp only[cd107,qm,ql,qf,qi,qb,qc,qp,qv,qN,qT,qF,qt]at hQ ⊢;try (refine no_implicit_lambda% (st ?_);try with_reducible exact wT))|fail)
     ·rw[if_pos ⟨by assumption,by assumption⟩]at hg
      exact nY (k2+1,l++[⟨(nth r.flanks k2).pnt,(nth r.flanks k2).lie,-1⟩],true) ⟨by (try dsimp only);omega,hg,by (try dsimp only);simp;omega⟩
     all_goals (first|rw[if_neg (fun hh=>absurd hh.2 (by assumption))]at hg|rw[if_neg (fun hh=>absurd hh.1 (by assumption))]at hg)
     all_goals (exact nY (k2+1,l,b2) ⟨by (try dsimp only);omega,hg,by (try dsimp only);omega⟩)
    ·rw[List.drop_eq_nil_of_le (by assumption),zgs]at hg
     (repeat' first|refine zaa [0,1,2,3,4,5,6,7,8,9,11,12,13,14,16,29,30,31,32,39,56,57,58,59,68,84,96,110,113,114,115,116] fun K hK=>?_|(refine hK.go ?_;clear hK K)|with_reducible exact wT|refine wA ?_|(refine wB (fun h=>?_) (fun h=>?_)<;>first|exact wN h|subst (h:(_:Bool)=_)|skip)|(refine wQ ?_;clear hQ hR)|(refine zas hM (zdX hH r.path (by omega)) ?_;try (refine no_implicit_lambda% (st ?_);try with_reducible exact wT))|(refine zas hM (zdX hH r.over (by omega)) ?_;try (refine no_implicit_lambda% (st ?_);try with_reducible exact wT))|fail)
     rw[ha,←hg]
end Go.Lev
namespace Go.Lev
open Go.Eng
set_option maxRecDepth 10000
set_option maxHeartbeats 4000000
variable {P:Program} {inv:Nat→Option Nat} {w0:World} {M:Nat→Prop}
structure OkP (p:Pln):Prop where
 sec:zbU p.sections=true
 pts:points p=true
 sgn:signals p (ends p.sections)=true
 rise:rise (p.routes.map Rte.id) 16=true
 rte:∀ r∈p.routes,zcj p r (ends p.sections)=true
theorem zgR {p:Pln} (h:zbB p=true):OkP p:=by
 simp only[zbB,Bool.and_eq_true,List.all_eq_true]at h
 exact ⟨h.1.2.2.2.2,h.2.1,h.2.2.1,h.2.2.2.1,h.2.2.2.2⟩
theorem zjM (n:Int):∀ (l:List Sgn) (o:Sgn),zn9 n o l=o∨zn9 n o l∈l
 |[],o=>.inl rfl
 |x::r,o=>by
  rw[zn9]
  split
  ·rcases zjM n r x with h|h
   ·right;rw[h];simp
   ·right;simp[h]
  ·rcases zjM n r o with h|h
   ·left;exact h
   ·right;simp[h]
theorem zjr {p:Pln} (h:OkP p) (r:Rte):zm3 p r:=by
 intro s hs he
 have h1:=zbd h.sec s hs
 rcases zjM r.entry p.signals Sgn.z with h2|h2
 ·have:sig p r.entry=Sgn.z:=h2
  rw[this]at he
  have:Sgn.z.sec=0:=rfl
  omega
 ·have h3:sig p r.entry∈p.signals:=h2
  have h4:=h.sgn
  simp only[signals,Bool.and_eq_true]at h4
  have h5:=zhr _ _ _ h4.2 _ h3
  rw[←he,zit h.sec hs]at h5
  exact h5.2
theorem zc0 {p:Pln} (h:OkP p) {r:Rte} (hr:r∈p.routes):1≤r.path.length∧r.path.length≤6∧r.over.length≤2∧r.flanks.length≤3:=by
 have h1:=h.rte r hr
 simp only[zcj,zfe,Bool.and_eq_true,Bool.not_eq_true',decide_eq_false_iff_not]at h1
 omega
def WayR.z:WayR:=⟨[],[],[],0⟩
def ofW (p:Pln) (n:Int):WayR×Int:=if zbB p=true then (match p.routes.find? fun x=>decide (x.id=n) with|some r=>((zah p r).1,(zah p r).2.2)|none=>(WayR.z,6)) else (WayR.z,8)
theorem zm6 (hH:HasAll P inv) (p:Pln) (hp:Sm p) (h:OkP p) {r:Rte} (hr:r∈p.routes):PC P inv 90 [.agg p.c,.agg r.c] (·=.tup [.agg (zah p r).1.c,.sl 2 ((zah p r).2.1.map Join.c),.n (zah p r).2.2]) :=
 zmO hH p hp r (by have:=zc0 h hr;omega) (zjr h r)
end Go.Lev
namespace Go.Lev
open Go.Eng
set_option maxRecDepth 10000
set_option maxHeartbeats 4000000
variable {P:Program} {inv:Nat→Option Nat} {w0:World} {M:Nat→Prop}
def jls (l:List Join):List AV:=[.sl 2 (l.map Join.c)]
instance:Cells jls 1:=⟨fun _=>rfl,fun _=>rfl⟩
def allG (p:Pln):List Rte→List WayR→List (List Join)→List WayR×List (List Join)×Int
 |[],ws,os=>(ws,os,0)
 |r::l,ws,os=>if (zah p r).2.2=0 then allG p l (ws++[(zah p r).1]) (os++[(zah p r).2.1]) else ([],[],(zah p r).2.2)
def allW (p:Pln):List WayR×List (List Join)×Int:=if zbB p=true then allG p p.routes [] [] else ([],[],8)
theorem all_pc (hH:HasAll P inv) (hI:HasIds P inv) (p:Pln) (hp:Sm p):PC P inv 82 [.agg p.c] (·=.tup [.sl 4 ((allW p).1.map Way.c),.sl 1 ((allW p).2.1.map jls),.n (allW p).2.2]):=by
 have hlr:=hp.rte
 have c0:=zgO hH hI p hp
 unfold allW zbZ at *
 cases ho:zbB p with
 |false =>
  rw[ho,if_neg (by simp)]at c0
  rw[if_neg (by simp)]
  refine PC.fn hH cd82 fun w0 M Q hM hE hQ hR=>?_;dsimp only[cd82,qm,ql,qf,qi,qb,qc,qp,qv,qN,qT,qF,qt]at hQ ⊢
  (repeat' first|refine zaa [0,1,2,3,4,6,7,8,9,13,15,16,17,18,29] fun K hK=>?_|(refine hK.go ?_;clear hK K)|with_reducible exact wT|refine wA ?_|(refine wB (fun h=>?_) (fun h=>?_)<;>first|exact wN h|subst (h:(_:Bool)=_)|skip)|(refine wQ ?_;clear hQ hR hE hM)|refine wC c0 ?_|fail)
 |true =>
  rw[ho,if_pos rfl]at c0
  rw[if_pos rfl]
  have hok:=zgR ho
  clear ho
  obtain ⟨ans,ha⟩:∃ ans,ans=allG p p.routes [] []:=⟨_,rfl⟩
  rw[←ha]
  refine PC.fn hH cd82 fun w0 M Q hM hE hQ hR=>?_;dsimp only[cd82,qm,ql,qf,qi,qb,qc,qp,qv,qN,qT,qF,qt]at hQ ⊢
  (repeat' first|refine zaa [0,1,2,3,4,6,7,8,9,13,15,16,17,18,29] fun K hK=>?_|(refine hK.go ?_;clear hK K)|with_reducible exact wT|refine wA ?_|(refine wB (fun h=>?_) (fun h=>?_)<;>first|exact wN h|subst (h:(_:Bool)=_)|skip)|(refine wQ ?_;clear hQ hR hE hM)|refine wC c0 ?_|fail)
  refine AWp.empty 2 10 4 rfl (Nat.zero_le _) (by (refine no_implicit_lambda% (st ?_);try with_reducible exact wT)) (by (refine no_implicit_lambda% (st ?_);try with_reducible exact wT)) ?_
  refine AWp.empty 3 11 1 rfl (Nat.zero_le _) (by (refine no_implicit_lambda% (st ?_);try with_reducible exact wT)) (by (refine no_implicit_lambda% (st ?_);try with_reducible exact wT)) ?_
  refine zai (ι:=Nat×(List WayR)×(List (List Join))×Bool×Bool) [1,2,3,4,15,16,17] (fun z=>[(2,.sm 10 (z.2.1.length*4) 0 z.2.1.length 4),(3,.sm 11 z.2.2.1.length 0 z.2.2.1.length 1),(17,.n z.1)]) (fun z=>[(10,.cells (z.2.1.map Way.c).flatten z.2.2.2.1),(11,.cells (z.2.2.1.map jls).flatten z.2.2.2.2)]) (fun z=>z.1) (p.routes.length) (fun z=>(allG p (p.routes.drop z.1) z.2.1 z.2.2.1=ans)∧(z.2.1.length≤z.1∧z.2.2.1.length≤z.1)) (0,[],[],false,false) ?_;rintro ⟨k,ws,os,b1,b2⟩ ⟨hk,hg,hx⟩;(try dsimp only at hk hg hx ⊢);rcases Nat.lt_or_ge k p.routes.length with hlt|hge
  ·rw[zad hlt]at hg
   rw[allG]at hg
   have c1:=zm6 hH p hp hok (zab hlt)
   generalize zah p (nth p.routes k)=W at c1 hg
   (repeat' first|refine zaa [0,1,2,3,4,6,7,8,9,13,15,16,17,18,29] fun K hK=>?_|(refine hK.go ?_;clear hK K)|with_reducible exact wT|refine wA ?_|(refine wB (fun h=>?_) (fun h=>?_)<;>first|exact wN h|subst (h:(_:Bool)=_)|skip)|(refine wQ ?_;clear hQ hR hE hM)|refine wC c1 ?_|fail)
   ·rw[if_neg (by assumption)]at hg
    rw[←hg]
    rfl
   ·rw[if_pos (by assumption)]at hg
    exact nY (k+1,ws++[W.1],os++[W.2.1],true,true) ⟨by (try dsimp only);omega,hg,by (try dsimp only);simp;omega⟩
  ·rw[List.drop_eq_nil_of_le hge,allG]at hg
   (repeat' first|refine zaa [0,1,2,3,4,6,7,8,9,13,15,16,17,18,29] fun K hK=>?_|(refine hK.go ?_;clear hK K)|with_reducible exact wT|refine wA ?_|(refine wB (fun h=>?_) (fun h=>?_)<;>first|exact wN h|subst (h:(_:Bool)=_)|skip)|(refine wQ ?_;clear hQ hR hE hM)|fail)
   all_goals (rw[←hg])
end Go.Lev
namespace Go.Lev
open Go.Eng
theorem zea {p:Pln} {w:Wk} {s i:Int} {R:Int→Join→Bool} (h:(zaw p w s i R).lost=false):w.lost=false∧w.outs.length+1=(zaw p w s i R).outs.length:=by
 unfold zaw at h ⊢
 split
 ·rename_i h1;rw[if_pos h1,h1]at h;cases h
 ·rename_i h1
  rw[if_neg h1]at h
  split
  ·rename_i h2;rw[h2]at h;cases h
  ·rename_i s' h2
   rw[h2]at h
   dsimp only at h
   split
   ·rename_i h3;rw[h3]at h;cases h
   ·refine ⟨by simpa using h1,by simp⟩
theorem zpp {p:Pln} {w:Wk} {s i:Int} (h:(zdk p w s i).lost=false):w.lost=false∧w.outs.length=(zdk p w s i).outs.length:=by
 unfold zdk at h ⊢
 split
 ·rename_i h2;rw[h2]at h;cases h
 ·rename_i s' h2
  rw[h2]at h
  dsimp only at h
  split
  ·rename_i h3;exact ⟨h3.1,rfl⟩
  ·rename_i h3;rw[if_neg h3]at h;exact ⟨h,rfl⟩
theorem zpn {p:Pln} {r:Rte} {y:Sgn} {all:List Int} {i:Nat} {s:Int} {w:Wk} (hl:r.path.length≤all.length) (h:(zdI p r y all i s w).lost=false):w.lost=false∧w.outs.length≤(zdI p r y all i s w).outs.length∧(i<r.path.length→w.outs.length+1≤(zdI p r y all i s w).outs.length):=by
 unfold zdI at h ⊢
 split
 ·rename_i h1;rw[if_pos h1]at h;have:=zea h;exact ⟨this.1,by omega,fun _=>by omega⟩
 ·rename_i h1
  rw[if_neg h1]at h
  split
  ·rename_i h2;rw[if_pos h2]at h;have:=zea h;exact ⟨this.1,by omega,fun _=>by omega⟩
  ·rename_i h2
   rw[if_neg h2]at h
   split
   ·rename_i h3;rw[if_pos h3]at h;have:=zpp h;exact ⟨this.1,by omega,fun _=>by omega⟩
   ·rename_i h3;rw[if_neg h3]at h;have:=zea h;exact ⟨this.1,by omega,fun _=>by omega⟩
theorem zgd {p:Pln} {r:Rte} {y:Sgn} {all:List Int} (hl:r.path.length≤all.length):∀ (l:List Int) (i:Nat) (w:Wk),i+l.length=all.length→(zby p r y all i w l).lost=false→w.lost=false∧w.outs.length+(r.path.length-i)≤(zby p r y all i w l).outs.length
 |[],i,w,hi,h=>by
  rw[zby]at h ⊢
  simp only[List.length_nil]at hi
  exact ⟨h,by omega⟩
 |s::l,i,w,hi,h=>by
  rw[zby]at h ⊢
  simp only[List.length_cons]at hi
  have h1:=zgd hl l (i+1) _ (by omega) h
  have h2:=zpn hl h1.1
  refine ⟨h2.1, ?_⟩
  have h3:=h2.2.2
  have h4:=h2.2.1
  omega
theorem zn2 {p:Pln} {r:Rte} (h:(zah p r).2.2=0):r.path.length≤(zah p r).2.1.length:=by
 unfold zah at h ⊢
 split
 ·rename_i h1;rw[if_pos h1]at h;cases h
 ·rename_i h1
  have h2:(zgc p r).lost=false:=by simpa using h1
  have:=(zgd (by simp) _ _ _ (by simp) h2).2
  dsimp only at this ⊢
  unfold zgc
  simp only[List.length_nil]at this
  omega
theorem zpi (p:Pln) (r:Rte):(zah p r).2.2=0∨(zah p r).2.2=90:=by unfold zah;split<;>simp
theorem zbo {p:Pln} {r:Rte} (h:(zah p r).2.2=0):(zah p r).1.path=r.path∧(zah p r).1.over=r.over∧(zah p r).1.near=(sig p r.entry).sec:=by
 unfold zah at h ⊢
 split
 ·rename_i h1;rw[if_pos h1]at h;cases h
 ·exact ⟨rfl,rfl,rfl⟩
def zo9 (p:Pln) (a:AskR):Prop:=((∃ s∈p.sections,s.pt=a.pnt)∨(∃ x∈p.points,x.id=a.pnt))∧0<a.pnt∧(a.lie=1∨a.lie=2)
theorem zmU {p:Pln} {pt lie pos:Int} {l:List AskR} (hl:∀ a∈l,zo9 p a) (h:0<pt∧0<lie→((∃ s∈p.sections,s.pt=pt)∨(∃ x∈p.points,x.id=pt))∧(lie=1∨lie=2)):∀ a∈zi1 pt lie pos l,zo9 p a:=by
 unfold zi1
 split
 ·rename_i hc
  intro a ha
  rcases List.mem_append.1 ha with ha|ha
  ·exact hl a ha
  ·simp only[List.mem_singleton]at ha
   subst ha
   exact ⟨(h hc).1,hc.1,(h hc).2⟩
 ·exact hl
end Go.Lev
namespace Go.Lev
open Go.Eng
set_option maxRecDepth 10000
set_option maxHeartbeats 4000000
variable {P:Program} {inv:Nat→Option Nat} {w0:World} {M:Nat→Prop}
def zlf:List Bool→List AskR→Bool
 |_,[]=>true
 |m,a::r=>!nth m a.pnt.toNat&&zlf (m.set a.pnt.toNat true) r
def once (l:List AskR):Bool:=zlf (List.replicate 100 false) l
theorem once_pc (hH:HasAll P inv) (l:List AskR) (hl:l.length≤1000000) (h:∀ a∈l,0≤a.pnt∧a.pnt≤99):PC P inv 83 [.sl 3 (l.map AskR.c)] (·=.b (once l)):=by
 refine PC.fn hH cd83 fun w0 M Q hM hE hQ hR=>?_;dsimp only[cd83,qm,ql,qf,qi,qb,qc,qp,qv,qN,qT,qF,qt]at hQ ⊢
 (repeat' first|refine zaa [0,2,3,5,6,7,8,9,15] fun K hK=>?_|(refine hK.go ?_;clear hK K)|with_reducible exact wT|refine wA ?_|(refine wB (fun h=>?_) (fun h=>?_)<;>first|exact wN h|subst (h:(_:Bool)=_)|skip)|(refine wQ ?_;clear hQ hR hE hM)|fail)
 refine zai (ι:=Nat×(List Bool)) [2,3,6,7,8] (fun z=>[(8,.n z.1)]) (fun z=>[(0,.cells (z.2.map AV.b) true)]) (fun z=>z.1) (l.length) (fun z=>(z.2.length=100)∧(zlf z.2 (l.drop z.1)=once l)) (0,List.replicate 100 false) ?_;rintro ⟨k,m⟩ ⟨hk,hp,hg⟩;(try dsimp only at hk hp hg ⊢);rcases Nat.lt_or_ge k l.length with hlt|hge
 ·rw[zad hlt]at hg
  rw[zlf]at hg
  have hb:=h _ (zab hlt)
  (have hX:=@hp;(repeat' first|refine zaa [0,2,3,5,6,7,8,9,15] fun K hK=>?_|(refine hK.go ?_;clear hK K)|with_reducible exact wT|refine wA ?_|(refine wB (fun h=>?_) (fun h=>?_)<;>first|exact wN h|subst (h:(_:Bool)=_)|skip)|(refine wQ ?_;clear hQ hR hE hM)|fail);all_goals clear hX)
  ·rw[←hg];simp[*]
  ·exact nY (k+1,m.set (nth l k).pnt.toNat true) ⟨by (try dsimp only);omega,by (try dsimp only);simp[hp],by (try dsimp only);rw[←hg];simp[*]⟩
 ·rw[List.drop_eq_nil_of_le hge,zlf]at hg
  (have hX:=@hp;(repeat' first|refine zaa [0,2,3,5,6,7,8,9,15] fun K hK=>?_|(refine hK.go ?_;clear hK K)|with_reducible exact wT|refine wA ?_|(refine wB (fun h=>?_) (fun h=>?_)<;>first|exact wN h|subst (h:(_:Bool)=_)|skip)|(refine wQ ?_;clear hQ hR hE hM)|fail);all_goals clear hX)
  rw[←hg]
def zhu (r:Rte) (i:Int) (j:Join) (x:Sgn):Bool:=decide (x.sec=j.to)&&(decide (x.ed=j.ed)&&(decide (i<(r.path.length:Int)-1)||!decide (x.id=r.exit)))
def zf0 (p:Pln) (r:Rte):Int→List Join→Bool
 |_,[]=>true
 |i,j::l=>!p.signals.any (zhu r i j)&&zf0 p r (i+1) l
def zgw (p:Pln) (r:Rte) (outs:List Join):Bool:=zf0 p r 0 (outs.take r.path.length)
theorem clear_pc (hH:HasAll P inv) (p:Pln) (hp:Sm p) (r:Rte) (outs:List Join) (h1:r.path.length≤outs.length) (h2:outs.length≤1000000):PC P inv 84 [.agg p.c,.agg r.c,.sl 2 (outs.map Join.c)] (·=.b (zgw p r outs)):=by
 have hls:=hp.sgn
 obtain ⟨l,hl⟩:∃ l,l=outs.take r.path.length:=⟨_,rfl⟩
 have hll:l.length=r.path.length:=by rw[hl];simp;omega
 have hlm:(outs.map Join.c).take r.path.length=l.map Join.c:=by rw[hl,List.map_take]
 unfold zgw
 rw[←hl]
 clear hl
 have hlm':(outs.map Join.c).take (r.path.length:Int).toNat=l.map Join.c:=hlm
 refine PC.fn hH cd84 fun w0 M Q hM hE hQ hR=>?_;dsimp only[cd84,qm,ql,qf,qi,qb,qc,qp,qv,qN,qT,qF,qt]at hQ ⊢
 (have hX:=zA @Int.toNat_natCast (zA @hlm @hlm');(repeat' first|refine zaa [0,1,2,3,4,6,7,8,10,15,16,17,18,23,24,25,26,55] fun K hK=>?_|(refine hK.go ?_;clear hK K)|with_reducible exact wT|refine wA ?_|(refine wB (fun h=>?_) (fun h=>?_)<;>first|exact wN h|subst (h:(_:Bool)=_)|skip)|(refine wQ ?_;clear hQ hR hE hM)|fail);all_goals clear hX)
 refine zai (ι:=Nat) [3,4,6,15,16,17] (fun z=>[(17,.n z)]) (fun _=>[]) (fun z=>z) (l.length) (fun z=>(zf0 p r z (l.drop z)=zf0 p r 0 l)) (0) ?_;rintro k ⟨hk,hg⟩;(try dsimp only at hk hg ⊢);rcases Nat.lt_or_ge k l.length with hlt|hge
 ·rw[zad hlt]at hg
  rw[zf0]at hg
  generalize hj:nth l k=j at hg
  (have hX:=@hj;(repeat' first|refine zaa [0,1,2,3,4,6,7,8,10,15,16,17,18,23,24,25,26,55] fun K hK=>?_|(refine hK.go ?_;clear hK K)|with_reducible exact wT|refine wA ?_|(refine wB (fun h=>?_) (fun h=>?_)<;>first|exact wN h|subst (h:(_:Bool)=_)|skip)|(refine wQ ?_;clear hQ hR hE hM)|fail);all_goals clear hX)
  refine zai (ι:=Nat) [3,4,6,7,8,15,16,17,23,24,25] (fun z=>[(25,.n z)]) (fun _=>[]) (fun z=>z) (p.signals.length) (fun z=>(((p.signals.drop z).any (zhu r k j))=p.signals.any (zhu r k j))) (0) ?_;rintro m ⟨hk,hg2⟩;(try dsimp only at hk hg2 ⊢);rcases Nat.lt_or_ge m p.signals.length with hlt|hge
  ·rw[zad (by assumption),List.any_cons]at hg2
   (repeat' first|refine zaa [0,1,2,3,4,6,7,8,10,15,16,17,18,23,24,25,26,55] fun K hK=>?_|(refine hK.go ?_;clear hK K)|with_reducible exact wT|refine wA ?_|(refine wB (fun h=>?_) (fun h=>?_)<;>first|exact wN h|subst (h:(_:Bool)=_)|skip)|(refine wQ ?_;clear hQ hR hE hM)|fail)
   all_goals first
    |(rw[show zhu r k j (nth p.signals m)=true by simp[zhu, *],Bool.true_or]at hg2;rw[←hg,←hg2];rfl)
    |(rw[show zhu r k j (nth p.signals m)=false by simp[zhu, *],Bool.false_or]at hg2;exact ⟨m+1,by omega,⟨by omega,hg2⟩,by omega⟩)
  ·rw[List.drop_eq_nil_of_le (by assumption),List.any_nil]at hg2
   (repeat' first|refine zaa [0,1,2,3,4,6,7,8,10,15,16,17,18,23,24,25,26,55] fun K hK=>?_|(refine hK.go ?_;clear hK K)|with_reducible exact wT|refine wA ?_|(refine wB (fun h=>?_) (fun h=>?_)<;>first|exact wN h|subst (h:(_:Bool)=_)|skip)|(refine wQ ?_;clear hQ hR hE hM)|fail)
   rw[←hg2,Bool.not_false,Bool.true_and]at hg
   exact ⟨k+1,by omega,⟨by omega,by rw[←hg];rfl⟩,by omega⟩
 ·rw[List.drop_eq_nil_of_le hge,zf0]at hg
  (repeat' first|refine zaa [0,1,2,3,4,6,7,8,10,15,16,17,18,23,24,25,26,55] fun K hK=>?_|(refine hK.go ?_;clear hK K)|with_reducible exact wT|refine wA ?_|(refine wB (fun h=>?_) (fun h=>?_)<;>first|exact wN h|subst (h:(_:Bool)=_)|skip)|(refine wQ ?_;clear hQ hR hE hM)|fail)
  rw[←hg]
def zrv (p:Pln):Bool:=p.routes.all fun r=>decide ((zah p r).2.2=0)
theorem zlX (p:Pln):∀ (l:List Rte) (ws:List WayR) (os:List (List Join)),allG p l ws os=if (l.all fun r=>decide ((zah p r).2.2=0))=true then (ws++l.map fun r=>(zah p r).1,os++l.map fun r=>(zah p r).2.1,0) else ([],[],90)
 |[],ws,os=>by simp[allG]
 |r::l,ws,os=>by
  rw[allG,zlX p l]
  rcases zpi p r with h|h
  ·rw[if_pos h];simp[h]
  ·rw[if_neg (by omega),h];simp[h]
theorem zlW (p:Pln):allW p=if zbB p=true then (if zrv p=true then (p.routes.map fun r=>(zah p r).1,p.routes.map fun r=>(zah p r).2.1,0) else ([],[],90)) else ([],[],8):=by
 unfold allW zrv
 rw[zlX]
 simp
def zbw (p:Pln) (r:Rte):Bool:=once (zah p r).1.asks&&zgw p r (zah p r).2.1
def za3 (p:Pln):Bool:=zbB p&&(zrv p&&p.routes.all (zbw p))
def zec (p:Pln):Int:=if za3 p=true then 0 else 100
end Go.Lev
namespace Go.Lev
open Go.Eng
theorem zkW {s:Section} {f t:Int} (h:(za9 s f t).2=0):0≤(za9 s f t).1∧(za9 s f t).1≤2:=by
 unfold za9 at h ⊢
 split
 ·rename_i h1
  rw[if_pos h1]at h
  split
  ·rename_i h2;rw[if_pos h2]at h;simp at h
  ·rename_i h2
   dsimp only
   refine ⟨by omega, ?_⟩
   unfold zhS
   repeat' split
   all_goals omega
 ·rename_i h1;rw[if_neg h1]at h;simp at h
theorem joinEd {l:List Section} (h:zbU l=true) {s:Section} (hs:s∈l) {j:Join} (hj:j∈s.ends):0≤j.ed∧j.ed≤2:=by
 have h1:=(zgM l).1 h
 obtain ⟨i,hi,rfl⟩:=List.mem_iff_getElem.1 hj
 rw[←zaT hi]
 rcases h1.join s hs i hi with h2|⟨_,h3,s',hs',_,h4,_⟩
 ·omega
 ·have:=(zbd h s' hs').2.2.2.2
  omega
theorem zgP {s:Section} {f:Int} {R:Int→Join→Bool}:∀ {l:List Join} {e:Nat} {v:Nat×Join×Int},zaO s f R e l=some v→v.2.1∈l∧0≤v.2.2∧v.2.2≤2
 |[],e,v,h=>by simp[zaO]at h
 |j::r,e,v,h=>by
  rw[zaO]at h
  split at h
  ·rename_i h1
   simp only[Option.some.injEq]at h
   subst h
   exact ⟨by simp,zkW h1.1⟩
  ·have:=zgP h
   exact ⟨by simp[this.1],this.2⟩
theorem zkS {p:Pln} {w:Wk} {id:Int} {s:Section} (h:zfB p w id=some s):s∈p.sections:=by
 unfold zfB at h
 split at h
 ·exact List.mem_of_find?_eq_some h
 ·cases h
def WkOK (p:Pln) (w:Wk):Prop:=(0≤w.inn.ed∧w.inn.ed≤2)∧∀ a∈w.asks,zo9 p a
theorem zl6 {p:Pln} (h:OkP p) {w:Wk} {s i:Int} {R:Int→Join→Bool} (hw:WkOK p w):WkOK p (zaw p w s i R):=by
 unfold zaw
 split
 ·exact hw
 ·split
  ·exact hw
  ·rename_i t ht
   have hs:=zkS ht
   split
   ·exact hw
   ·rename_i e j lie hp
    have:=zgP hp
    dsimp only at this
    exact ⟨joinEd h.sec hs this.1,zmU hw.2 fun hc=>⟨.inl ⟨t,hs,rfl⟩,by omega⟩⟩
theorem stayW_ok {p:Pln} {w:Wk} {s i:Int} (hw:WkOK p w):WkOK p (zdk p w s i):=by
 unfold zdk
 split
 ·exact hw
 ·rename_i t ht
  have hs:=zkS ht
  split
  ·exact ⟨hw.1,zmU hw.2 fun hc=>⟨.inl ⟨t,hs,rfl⟩,by have:=hw.1;omega⟩⟩
  ·exact hw
theorem zkC {p:Pln} (h:OkP p) {r:Rte} {y:Sgn} {all:List Int}:∀ (l:List Int) (i:Nat) (w:Wk),WkOK p w→WkOK p (zby p r y all i w l)
 |[],_,_,hw=>hw
 |s::l,i,w,hw=>by
  rw[zby]
  refine zkC h l _ _ ?_
  unfold zdI
  repeat' split
  all_goals first|exact zl6 h hw|exact stayW_ok hw
theorem zqD {p:Pln} (h:OkP p) {x:Sgn} (he:∀ s∈p.sections,s.id=x.sec→0≤x.ed∧x.ed<s.ends.length):∀ (l:List Section) (j:Join),(∀ s∈l,s∈p.sections)→(0≤j.ed∧j.ed≤2)→0≤(zjl x j l).ed∧(zjl x j l).ed≤2
 |[],_,_,hj=>hj
 |s::l,j,hl,hj=>by
  rw[zjl]
  refine zqD h he l _ (fun t ht=>hl t (by simp[ht])) ?_
  split
  ·rename_i hid
   have:=he s (hl s (by simp)) hid
   exact joinEd h.sec (hl s (by simp)) (zab (by omega))
  ·exact hj
theorem znN {p:Pln}:∀ (f:List Flk) (l:List AskR),(∀ a∈l,zo9 p a)→(∀ x∈f,(∃ y∈p.points,y.id=x.pnt)∧(x.lie=1∨x.lie=2))→∀ a∈zgs l f,zo9 p a
 |[],l,hl,_=>hl
 |x::f,l,hl,hf=>by
  rw[zgs]
  refine znN f _ (zmU hl fun _=>?_) fun y hy=>hf y (by simp[hy])
  have:=hf x (by simp)
  exact ⟨.inr this.1,this.2⟩
theorem zn3 {p:Pln} (h:OkP p) {r:Rte} (hr:r∈p.routes):∀ a∈(zah p r).1.asks,zo9 p a:=by
 unfold zah
 split
 ·simp
 ·have h0:WkOK p (zgc p r):=by
   unfold zgc
   exact zkC h _ _ _ ⟨zqD h (zjr h r) _ _ (fun _ hs=>hs) (by simp),by simp⟩
  have h1:=h.rte r hr
  simp only[zcj,Bool.and_eq_true]at h1
  exact znN _ _ h0.2 (znO _ _ _ h1.2.2.2.2)
theorem zeF:∀ (l:List Section) (a:List Int) (m:Int),(zl2 a m l).2=m+((l.filter fun s=>decide (0<s.pt)).length:Int)
 |[],a,m=>by simp[zl2]
 |s::r,a,m=>by
  rw[zl2]
  split
  ·rename_i h1;rw[zeF r,List.filter_cons_of_pos (by simpa using h1),List.length_cons];omega
  ·rename_i h1;rw[zeF r,List.filter_cons_of_neg (by simpa using h1)]
theorem zj0:∀ (l:List Section) (a:List Int) (m:Int) (i:Nat),(∀ s∈l,s.pt≤99)→a.length=100→nth (zl2 a m l).1 i=nth a i∨∃ s∈l,0<s.pt∧s.pt.toNat=i∧s.id=nth (zl2 a m l).1 i
 |[],a,m,i,_,_=>.inl rfl
 |s::r,a,m,i,hl,ha=>by
  rw[zl2]
  have hs:=hl s (by simp)
  split
  ·rename_i h1
   rcases zj0 r (a.set s.pt.toNat s.id) (m+1) i (fun t ht=>hl t (by simp[ht])) (by simpa using ha) with h2|⟨t,ht,h3⟩
   ·rw[h2,zbe _ _ _ _ (by omega)]
    by_cases h4:i=s.pt.toNat
    ·rw[if_pos h4];exact .inr ⟨s,by simp,h1,h4.symm,rfl⟩
    ·rw[if_neg h4];exact .inl rfl
   ·exact .inr ⟨t,by simp[ht],h3⟩
  ·rcases zj0 r a m i (fun t ht=>hl t (by simp[ht])) ha with h2|⟨t,ht,h3⟩
   ·exact .inl h2
   ·exact .inr ⟨t,by simp[ht],h3⟩
theorem zj5 {l1:List Int}:∀ {l2:List Int},l1.Nodup→(∀ x∈l1,x∈l2)→l1.length≤l2.length:=by
 induction l1 with
 |nil=>intro l2 _ _;simp
 |cons x l ih =>
  intro l2 hn hs
  simp only[List.nodup_cons]at hn
  have hx:=hs x (by simp)
  have:=ih (l2:=l2.erase x) hn.2 fun y hy=>(List.mem_erase_of_ne (by intro e;subst e;exact hn.1 hy)).2 (hs y (by simp[hy]))
  rw[List.length_erase_of_mem hx]at this
  have:=List.length_pos_of_mem hx
  simp only[List.length_cons]
  omega
theorem pigeon {l1 l2:List Int} (h1:l1.Nodup) (hs:∀ x∈l1,x∈l2) (hl:l2.length≤l1.length):∀ y∈l2,y∈l1:=by
 intro y hy
 rcases Classical.em (y∈l1) with h|h
 ·exact h
 ·exfalso
  have:=zj5 (l1:=y::l1) (l2:=l2) (by simp[h,h1]) (by simp;exact ⟨hy,hs⟩)
  simp only[List.length_cons]at this
  omega
theorem zjR {l:List Int} {m:Int} (h:rise l m=true):l.Nodup:=zeJ ((zdL l m).1 h).2.1
theorem pts_sec {p:Pln} (h:OkP p) {x:Pnt} (hx:x∈p.points):∃ s∈p.sections,0<s.pt∧s.pt=x.id∧s.id=x.sec:=by
 have hp:=h.pts
 simp only[points,Bool.and_eq_true,decide_eq_true_eq,Bool.not_eq_true']at hp
 have hr:=((zdL _ _).1 hp.1).1 x.id (List.mem_map_of_mem hx)
 have hb:=(List.any_eq_false.1 hp.2.2) x hx
 simp only[zj1,Bool.or_eq_true,decide_eq_true_eq,Bool.not_eq_true',decide_eq_false_iff_not,not_or]at hb
 have h1:=zbd h.sec
 rcases zj0 p.sections (List.replicate 100 0) 0 x.id.toNat (fun s hs=>by have:=h1 s hs;omega) (by simp) with h2|⟨s,hs,h3,h4,h5⟩
 ·exfalso
  have h6:nth (pts p.sections).1 x.id.toNat=0:=by unfold pts;rw[h2,zdg _ _ _ (by omega)]
  have h7:nth (pts p.sections).1 x.id.toNat=x.sec:=by
   rcases Classical.em (nth (pts p.sections).1 x.id.toNat=x.sec) with h8|h8
   ·exact h8
   ·exact absurd h8 hb.2
  omega
 ·have h7:nth (pts p.sections).1 x.id.toNat=x.sec:=by
   rcases Classical.em (nth (pts p.sections).1 x.id.toNat=x.sec) with h8|h8
   ·exact h8
   ·exact absurd h8 hb.2
  exact ⟨s,hs,h3,by have:=h1 s hs;omega,by rw[h5];exact h7⟩
theorem sec_pts {p:Pln} (h:OkP p) {s:Section} (hs:s∈p.sections) (h0:0<s.pt):∃ x∈p.points,x.id=s.pt:=by
 have hp:=h.pts
 simp only[points,Bool.and_eq_true,decide_eq_true_eq,Bool.not_eq_true']at hp
 have hc:(pts p.sections).2=((p.sections.filter fun s=>decide (0<s.pt)).length:Int):=by unfold pts;rw[zeF];omega
 have:=pigeon (l1:=p.points.map Pnt.id) (l2:=(p.sections.filter fun s=>decide (0<s.pt)).map Section.pt) (zjR hp.1) (fun i hi=>by
  obtain ⟨x,hx,rfl⟩:=List.mem_map.1 hi
  obtain ⟨t,ht,h3,h4,h5⟩:=pts_sec h hx
  exact List.mem_map.2 ⟨t,List.mem_filter.2 ⟨ht,by simpa using h3⟩,h4⟩) (by simp only[List.length_map];have:=hp.2.1;omega) s.pt (List.mem_map.2 ⟨s,List.mem_filter.2 ⟨hs,by simpa using h0⟩,rfl⟩)
 obtain ⟨x,hx,e⟩:=List.mem_map.1 this
 exact ⟨x,hx,e⟩
theorem zbi {p:Pln} (h:OkP p) {r:Rte} (hr:r∈p.routes) {a:AskR} (ha:a∈(zah p r).1.asks):(∃ x∈p.points,x.id=a.pnt)∧(1≤a.pnt∧a.pnt≤99)∧(a.lie=1∨a.lie=2):=by
 have h1:=zn3 h hr a ha
 have h2:∃ x∈p.points,x.id=a.pnt:=by
  rcases h1.1 with ⟨s,hs,e⟩|h3
  ·rw[←e];exact sec_pts h hs (by rw[e];exact h1.2.1)
  ·exact h3
 refine ⟨h2, ?_,h1.2.2⟩
 obtain ⟨x,hx,e⟩:=h2
 have hp:=h.pts
 simp only[points,Bool.and_eq_true]at hp
 have:=((zdL _ _).1 hp.1).1 x.id (List.mem_map_of_mem hx)
 omega
theorem zcx {p:Pln} (h:OkP p) {r:Rte} (hr:r∈p.routes):(∀ n∈r.path++r.over,∃ s∈p.sections,s.id=n)∧(r.path++r.over).Nodup:=by
 have h1:=h.rte r hr
 simp only[zcj,zhC,Bool.and_eq_true]at h1
 have h2:=(zj7 _ _ _ (by simp)).1 h1.2.2.2.1
 exact ⟨fun n hn=>(zeb h.sec n).1 (h2.1 n hn).1,h2.2⟩
theorem zdr {p:Pln} (h:OkP p) {s:Section} (hs:s∈p.sections):1≤s.id∧s.id≤99:=by have:=zbd h.sec s hs;omega
end Go.Lev
namespace Go.Lev
open Go.Eng
set_option maxRecDepth 10000
set_option maxHeartbeats 4000000
variable {P:Program} {inv:Nat→Option Nat} {w0:World} {M:Nat→Prop}
theorem zlg {α β:Type} [Inhabited α] [Inhabited β] (f:α→β) {l:List α} {i:Nat} (h:i<l.length):nth (l.map f) i=f (nth l i):=by
 rw[zaT (by simpa using h),zaT h];simp
theorem zpo (p:Pln) (r:Rte) (y:Sgn) (all:List Int) (i:Nat) (s:Int) (w:Wk):(zdI p r y all i s w).asks.length≤w.asks.length+1∧(zdI p r y all i s w).outs.length≤w.outs.length+1:=by
 unfold zdI
 repeat' split
 all_goals first|exact zc7 _ _ _ _ _|exact zkE _ _ _ _
theorem zi4 (p:Pln) (r:Rte) (y:Sgn) (all:List Int):∀ (l:List Int) (i:Nat) (w:Wk),(zby p r y all i w l).asks.length≤w.asks.length+l.length∧(zby p r y all i w l).outs.length≤w.outs.length+l.length
 |[],_,_=>⟨Nat.le_refl _,Nat.le_refl _⟩
 |s::l,i,w=>by
  rw[zby]
  have h1:=zi4 p r y all l (i+1) (zdI p r y all i s w)
  have h2:=zpo p r y all i s w
  simp only[List.length_cons]
  omega
theorem zlp:∀ (f:List Flk) (l:List AskR),(zgs l f).length≤l.length+f.length
 |[],l=>Nat.le_refl _
 |x::f,l=>by
  rw[zgs]
  have h1:=zlp f (zi1 x.pnt x.lie (-1) l)
  have h2:=zkA x.pnt x.lie (-1) l
  simp only[List.length_cons]
  omega
theorem zbI {p:Pln} (h:OkP p) {r:Rte} (hr:r∈p.routes):(zah p r).1.asks.length≤1000∧(zah p r).2.1.length≤1000∧(zah p r).1.path.length≤1000∧(zah p r).1.over.length≤1000:=by
 have hl:=zc0 h hr
 unfold zah
 split
 ·simp
 ·unfold zgc
  have h1:=zi4 p r (sig p r.exit) (r.path++r.over) (r.path++r.over) 0 ⟨zjl (sig p r.entry) ⟨0,0⟩ p.sections,[],[],false⟩
  have h2:=zlp r.flanks (zby p r (sig p r.exit) (r.path++r.over) 0 ⟨zjl (sig p r.entry) ⟨0,0⟩ p.sections,[],[],false⟩ (r.path++r.over)).asks
  simp only[List.length_append,List.length_nil]at h1 h2
  dsimp only
  omega
theorem zfr (hH:HasAll P inv) (hI:HasIds P inv) (p:Pln) (hp:Sm p):PC P inv 70 [.agg p.c] (·=.n (zec p)):=by
 have hlr:=hp.rte
 have c0:=all_pc hH hI p hp
 have hs:=zlW p
 unfold zec za3
 cases ho:zbB p with
 |false =>
  rw[ho,if_neg (by simp)]at hs
  rw[hs]at c0
  rw[Bool.false_and,if_neg (by simp)]
  refine PC.fn hH cd70 fun w0 M Q hM hE hQ hR=>?_;dsimp only[cd70,qm,ql,qf,qi,qb,qc,qp,qv,qN,qT,qF,qt]at hQ ⊢
  (repeat' first|refine zaa [0,1,2,3,4,5,6,7,15,17,18,19,20,29,38,40] fun K hK=>?_|(refine hK.go ?_;clear hK K)|with_reducible exact wT|refine wA ?_|(refine wB (fun h=>?_) (fun h=>?_)<;>first|exact wN h|subst (h:(_:Bool)=_)|skip)|(refine wQ ?_;clear hQ hR hE hM)|refine wC c0 ?_|fail)
  all_goals first|rfl|(exfalso;contradiction)
 |true =>
  have hok:=zgR ho
  rw[ho,if_pos rfl]at hs
  cases ha:zrv p with
  |false =>
   rw[ha,if_neg (by simp)]at hs
   rw[hs]at c0
   rw[Bool.false_and,Bool.true_and,if_neg (by simp)]
   refine PC.fn hH cd70 fun w0 M Q hM hE hQ hR=>?_;dsimp only[cd70,qm,ql,qf,qi,qb,qc,qp,qv,qN,qT,qF,qt]at hQ ⊢
   (repeat' first|refine zaa [0,1,2,3,4,5,6,7,15,17,18,19,20,29,38,40] fun K hK=>?_|(refine hK.go ?_;clear hK K)|with_reducible exact wT|refine wA ?_|(refine wB (fun h=>?_) (fun h=>?_)<;>first|exact wN h|subst (h:(_:Bool)=_)|skip)|(refine wQ ?_;clear hQ hR hE hM)|refine wC c0 ?_|fail)
   all_goals first|rfl|(exfalso;contradiction)
  |true =>
   rw[ha,if_pos rfl]at hs
   rw[hs]at c0
   rw[Bool.true_and,Bool.true_and]
   dsimp only at c0
   clear hs
   obtain ⟨WS,hWS⟩:∃ WS,WS=p.routes.map fun r=>(zah p r).1:=⟨_,rfl⟩
   obtain ⟨OS,hOS⟩:∃ OS,OS=p.routes.map fun r=>(zah p r).2.1:=⟨_,rfl⟩
   rw[←hWS,←hOS]at c0
   have hl1:WS.length=p.routes.length:=by rw[hWS,List.length_map]
   have hl2:OS.length=p.routes.length:=by rw[hOS,List.length_map]
   refine PC.fn hH cd70 fun w0 M Q hM hE hQ hR=>?_;dsimp only[cd70,qm,ql,qf,qi,qb,qc,qp,qv,qN,qT,qF,qt]at hQ ⊢
   (repeat' first|refine zaa [0,1,2,3,4,5,6,7,15,17,18,19,20,29,38,40] fun K hK=>?_|(refine hK.go ?_;clear hK K)|with_reducible exact wT|refine wA ?_|(refine wB (fun h=>?_) (fun h=>?_)<;>first|exact wN h|subst (h:(_:Bool)=_)|skip)|(refine wQ ?_;clear hQ hR hE hM)|refine wC c0 ?_|fail)
   all_goals first|(exfalso;contradiction)|skip
   refine zai (ι:=Nat) [1,2,3,4,17,18,19] (fun z=>[(19,.n z)]) (fun _=>[]) (fun z=>z) (p.routes.length) (fun z=>(((p.routes.drop z).all (zbw p))=(p.routes.all (zbw p)))) (0) ?_;rintro k ⟨hk,hg⟩;(try dsimp only at hk hg ⊢);rcases Nat.lt_or_ge k p.routes.length with hlt|hge
   ·rw[zad hlt]at hg
    rw[List.all_cons]at hg
    have hm:=zab hlt
    have hwl:=zbI hok hm
    have hw:(zah p (nth p.routes k)).2.2=0:=by
     have:=(List.all_eq_true.1 ha) _ hm
     simpa using this
    have hwo:=zn2 hw
    have c1:=once_pc hH (zah p (nth p.routes k)).1.asks (by omega) (fun a h=>by have:=zbi hok hm h;omega)
    have c2:=clear_pc hH p hp (nth p.routes k) (zah p (nth p.routes k)).2.1 hwo (by omega)
    have e1:nth WS k=(zah p (nth p.routes k)).1:=by rw[hWS];exact zlg (fun r=>(zah p r).1) hlt
    have e2:nth OS k=(zah p (nth p.routes k)).2.1:=by rw[hOS];exact zlg (fun r=>(zah p r).2.1) hlt
    unfold zbw at hg
    revert c1 c2 hg
    generalize hA:once (zah p (nth p.routes k)).1.asks=A
    generalize hB:zgw p (nth p.routes k) (zah p (nth p.routes k)).2.1=B
    intro hg c1 c2
    (have hX:=zA @e1 (zA @e2 @jls.eq_1);(repeat' first|refine zaa [0,1,2,3,4,5,6,7,15,17,18,19,20,29,38,40] fun K hK=>?_|(refine hK.go ?_;clear hK K)|with_reducible exact wT|refine wA ?_|(refine wB (fun h=>?_) (fun h=>?_)<;>first|exact wN h|subst (h:(_:Bool)=_)|skip)|(refine wQ ?_;clear hQ hR hE hM)|refine wC c1 ?_|refine wC c2 ?_|fail);all_goals clear hX)
    all_goals first
     |(rw[if_neg];intro hh;unfold zbw at hh;rw[←hg]at hh;simp at hh;done)
     |(exact ⟨k+1,by omega,⟨by omega,by unfold zbw;rw[←hg];simp⟩,by omega⟩)
   ·rw[List.drop_eq_nil_of_le hge,List.all_nil]at hg
    (repeat' first|refine zaa [0,1,2,3,4,5,6,7,15,17,18,19,20,29,38,40] fun K hK=>?_|(refine hK.go ?_;clear hK K)|with_reducible exact wT|refine wA ?_|(refine wB (fun h=>?_) (fun h=>?_)<;>first|exact wN h|subst (h:(_:Bool)=_)|skip)|(refine wQ ?_;clear hQ hR hE hM)|fail)
    rw[←hg,if_pos rfl]
end Go.Lev
namespace Go.Lev
open Go.Eng
def zmg:Sh:=.st [.i .i64,.i .u8]
def zjN:Sh:=.st [.i .i64,.i .i64,.i .i64]
def zpu:Sh:=.st [.i .i64,.i .u8,.i .i64,.i .i64]
def zmh:Sh:=.st [.s 2 zmg,.s 3 zjN,.s 4 zpu]
def U8 (x:Int):Prop:=0≤x∧x≤255
def Track.ok (t:Track):Prop:=I64 t.id∧U8 t.is
def Switch.ok (t:Switch):Prop:=I64 t.id∧I64 t.lie∧I64 t.call
def Lock.ok (t:Lock):Prop:=I64 t.id∧U8 t.phase∧I64 t.gone∧I64 t.left
def State.ok (s:State):Prop:=(s.tracks.length≤maxLen∧∀ t∈s.tracks,t.ok)∧(s.switches.length≤maxLen∧∀ t∈s.switches,t.ok)∧(s.locks.length≤maxLen∧∀ t∈s.locks,t.ok)
theorem of_track (d:D) (h:Sh.ok zmg d):∃ t:Track,Sh.av zmg d=t.c∧t.ok:=by
 obtain ⟨l,rfl,h⟩:=zh4 h
 obtain ⟨d1,l,rfl,h1,h⟩:=zaL h
 obtain ⟨d2,l,rfl,h2,h⟩:=zaL h
 obtain rfl:=zek h
 obtain ⟨a,rfl,ha⟩:=zbv h1
 obtain ⟨b,rfl,hb⟩:=of_u8 h2
 exact ⟨⟨a,b⟩,rfl,ha,hb⟩
theorem zqa (d:D) (h:Sh.ok zjN d):∃ t:Switch,Sh.av zjN d=t.c∧t.ok:=by
 obtain ⟨l,rfl,h⟩:=zh4 h
 obtain ⟨d1,l,rfl,h1,h⟩:=zaL h
 obtain ⟨d2,l,rfl,h2,h⟩:=zaL h
 obtain ⟨d3,l,rfl,h3,h⟩:=zaL h
 obtain rfl:=zek h
 obtain ⟨a,rfl,ha⟩:=zbv h1
 obtain ⟨b,rfl,hb⟩:=zbv h2
 obtain ⟨c,rfl,hc⟩:=zbv h3
 exact ⟨⟨a,b,c⟩,rfl,ha,hb,hc⟩
theorem of_lock (d:D) (h:Sh.ok zpu d):∃ t:Lock,Sh.av zpu d=t.c∧t.ok:=by
 obtain ⟨l,rfl,h⟩:=zh4 h
 obtain ⟨d1,l,rfl,h1,h⟩:=zaL h
 obtain ⟨d2,l,rfl,h2,h⟩:=zaL h
 obtain ⟨d3,l,rfl,h3,h⟩:=zaL h
 obtain ⟨d4,l,rfl,h4,h⟩:=zaL h
 obtain rfl:=zek h
 obtain ⟨a,rfl,ha⟩:=zbv h1
 obtain ⟨b,rfl,hb⟩:=of_u8 h2
 obtain ⟨c,rfl,hc⟩:=zbv h3
 obtain ⟨e,rfl,he⟩:=zbv h4
 exact ⟨⟨a,b,c,e⟩,rfl,ha,hb,hc,he⟩
theorem arg_state {d:D} (h:Sh.ok zmh d):∃ s:State,Sh.arg zmh d=.agg s.c∧s.ok:=by
 obtain ⟨l,rfl,h⟩:=zh4 h
 obtain ⟨d1,l,rfl,h1,h⟩:=zaL h
 obtain ⟨d2,l,rfl,h2,h⟩:=zaL h
 obtain ⟨d3,l,rfl,h3,h⟩:=zaL h
 obtain rfl:=zek h
 obtain ⟨l1,rfl,m1,h1⟩:=of_s h1
 obtain ⟨l2,rfl,m2,h2⟩:=of_s h2
 obtain ⟨l3,rfl,m3,h3⟩:=of_s h3
 obtain ⟨t1,e1,f1,g1⟩:=zfk of_track l1 h1
 obtain ⟨t2,e2,f2,g2⟩:=zfk zqa l2 h2
 obtain ⟨t3,e3,f3,g3⟩:=zfk of_lock l3 h3
 refine ⟨⟨t1,t2,t3⟩, ?_,⟨by simpa [f1] using m1,g1⟩,⟨by simpa [f2] using m2,g2⟩,⟨by simpa [f3] using m3,g3⟩⟩
 simp only[Sh.arg,Sh.av,zc5,zmh,e1,e2,e3,State.c,List.cons_append,List.nil_append]
end Go.Lev
namespace Go.Lev
open Go.Eng
set_option maxRecDepth 10000
set_option maxHeartbeats 4000000
variable {P:Program} {inv:Nat→Option Nat} {w0:World} {M:Nat→Prop}
def ze9 (x:Track) (y:Section):Bool:=decide (x.id=y.id)&&decide (x.is≤2)
def zem (n:Int):Bool:=decide (0≤n)&&decide (n≤2)
def zeV (x:Switch) (y:Pnt):Bool:=decide (x.id=y.id)&&(zem x.lie&&zem x.call)
def zb3 (l:Lock) (x:Rte):Bool :=
 if l.phase=0∨l.phase=1 then decide (l.gone=0)&&decide (l.left=0)
 else if l.phase=2 then decide (0≤l.gone)&&(decide (l.gone≤(x.path.length:Int)-1)&&decide (l.left=0))
 else if l.phase=3 then decide (l.gone=(x.path.length:Int)-1)&&(decide (1≤l.left)&&decide (l.left≤x.timer))
 else if l.phase=4 then decide (l.gone=0)&&(decide (1≤l.left)&&decide (l.left≤x.timer))
 else false
def zcK (x:Lock) (y:Rte):Bool:=decide (x.id=y.id)&&zb3 x y
theorem lie_pc (hH:HasAll P inv) (n:Int):PC P inv 110 [.n n] (·=.b (zem n)):=by
 refine PC.fn hH cd110 fun w0 M Q hM hE hQ hR=>?_;dsimp only[cd110,qm,ql,qf,qi,qb,qc,qp,qv,qN,qT,qF,qt]at hQ ⊢
 (repeat' first|refine zaa [0,2] fun K hK=>?_|(refine hK.go ?_;clear hK K)|with_reducible exact wT|refine wA ?_|(refine wB (fun h=>?_) (fun h=>?_)<;>first|exact wN h|subst (h:(_:Bool)=_)|skip)|(refine wQ ?_;clear hQ hR hE hM)|fail)
 all_goals (first|rfl|(grind[zem])|(simp[zem, *];done)|(simp_all [zem];done)|(simp_all [zem]<;>first|omega|((repeat' split)<;>first|rfl|(exfalso;omega))))
theorem zm7 (hH:HasAll P inv) (x:Track) (y:Section):PC P inv 112 ([.agg x.c,.agg y.c]++[]) (·=.b (ze9 x y)):=by
 refine PC.fn hH cd112 fun w0 M Q hM hE hQ hR=>?_;dsimp only[cd112,qm,ql,qf,qi,qb,qc,qp,qv,qN,qT,qF,qt]at hQ ⊢
 (repeat' first|refine zaa [0,1,2,3,4] fun K hK=>?_|(refine hK.go ?_;clear hK K)|with_reducible exact wT|refine wA ?_|(refine wB (fun h=>?_) (fun h=>?_)<;>first|exact wN h|subst (h:(_:Bool)=_)|skip)|(refine wQ ?_;clear hQ hR hE hM)|fail)
 all_goals (first|rfl|(grind[ze9])|(simp[ze9, *];done)|(simp_all [ze9];done)|(simp_all [ze9]<;>first|omega|((repeat' split)<;>first|rfl|(exfalso;omega))))
theorem zm9 (hH:HasAll P inv) (x:Switch) (y:Pnt):PC P inv 114 ([.agg x.c,.agg y.c]++[.ip 1 [[.fn 110 []]] 0 0]) (·=.b (zeV x y)):=by
 have c1:=lie_pc hH x.lie
 have c2:=lie_pc hH x.call
 have he:zeV x y=(decide (x.id=y.id)&&(zem x.lie&&zem x.call)):=rfl
 revert c1 c2 he
 generalize zem x.lie=a
 generalize zem x.call=b
 intro c1 c2 he
 refine PC.fn hH cd114 fun w0 M Q hM hE hQ hR=>?_;dsimp only[cd114,qm,ql,qf,qi,qb,qc,qp,qv,qN,qT,qF,qt]at hQ ⊢
 (repeat' first|refine zaa [0,1,2,3,4,5] fun K hK=>?_|(refine hK.go ?_;clear hK K)|with_reducible exact wT|refine wA ?_|(refine wB (fun h=>?_) (fun h=>?_)<;>first|exact wN h|subst (h:(_:Bool)=_)|skip)|(refine wQ ?_;clear hQ hR hE hM)|refine wC c1 ?_|refine wC c2 ?_|fail)
 all_goals (rw[he];simp[*])
theorem phase_pc (hH:HasAll P inv) (l:Lock) (x:Rte) (h:x.path.length≤1000000):PC P inv 117 [.agg l.c,.agg x.c] (·=.b (zb3 l x)):=by
 refine PC.fn hH cd117 fun w0 M Q hM hE hQ hR=>?_;dsimp only[cd117,qm,ql,qf,qi,qb,qc,qp,qv,qN,qT,qF,qt]at hQ ⊢
 (repeat' first|refine zaa [0,1,2,3,4,5,6,15,16,25,39,57] fun K hK=>?_|(refine hK.go ?_;clear hK K)|with_reducible exact wT|refine wA ?_|(refine wB (fun h=>?_) (fun h=>?_)<;>first|exact wN h|subst (h:(_:Bool)=_)|skip)|(refine wQ ?_;clear hQ hR hE hM)|fail)
 all_goals (unfold zb3;simp[*])
theorem znE (hH:HasAll P inv) (x:Lock) (y:Rte) (h:y.path.length≤1000000):PC P inv 116 ([.agg x.c,.agg y.c]++[]) (·=.b (zcK x y)):=by
 have c1:=phase_pc hH x y h
 unfold zcK
 revert c1
 generalize zb3 x y=a
 intro c1
 refine PC.fn hH cd116 fun w0 M Q hM hE hQ hR=>?_;dsimp only[cd116,qm,ql,qf,qi,qb,qc,qp,qv,qN,qT,qF,qt]at hQ ⊢
 (repeat' first|refine zaa [0,1,2,3,4] fun K hK=>?_|(refine hK.go ?_;clear hK K)|with_reducible exact wT|refine wA ?_|(refine wB (fun h=>?_) (fun h=>?_)<;>first|exact wN h|subst (h:(_:Bool)=_)|skip)|(refine wQ ?_;clear hQ hR hE hM)|refine wC c1 ?_|fail)
 all_goals simp[*]
theorem eqfTrk (hH:HasAll P inv) {jc:Nat} {caps:List AV} {p:Track→Section→Bool} (a:List Track) (b:List Section) (hc:∀ x∈a,∀ y∈b,PC P inv jc ([.agg x.c,.agg y.c]++caps) (·=.b (p x y))) (hb:zaf caps=0) (ha:a.length≤1000000):PC P inv 111 [.sl 2 (a.map Track.c),.sl 3 (b.map Section.c),.fn jc caps] (·=.b (zav p a b)):=by
 refine PC.fn hH cd111 fun w0 M Q hM hE hQ hR=>?_;dsimp only[cd111,qm,ql,qf,qi,qb,qc,qp,qv,qN,qT,qF,qt]at hQ ⊢
 (have hX:=@hb;(repeat' first|refine zaa [0,1,2,6,7,8,9,14,15,16,17,18,30] fun K hK=>?_|(refine hK.go ?_;clear hK K)|with_reducible exact wT|refine wA ?_|(refine wB (fun h=>?_) (fun h=>?_)<;>first|exact wN h|subst (h:(_:Bool)=_)|skip)|(refine wQ ?_;clear hQ hR hE hM)|fail);all_goals clear hX)
 ·have:zav p a b=false:=by
   cases hz:zav p a b with
   |false=>rfl
   |true=>have:=zb4 hz;omega
  rw[this]
 refine zai (ι:=Nat) [1,2,6,15,16,17] (fun z=>[(17,.n z)]) (fun _=>[]) (fun z=>z) (a.length) (fun z=>(zav p (a.drop z) (b.drop z)=zav p a b)) (0) ?_;rintro k ⟨hk,hg⟩;(try dsimp only at hk hg ⊢);rcases Nat.lt_or_ge k a.length with hlt|hge
 ·have hltb:k<b.length:=by omega
  rw[zad hlt,zad hltb,zav]at hg
  have c1:=hc _ (zab hlt) _ (zab hltb)
  revert c1 hg
  generalize p (nth a k) (nth b k)=t
  intro hg c1
  (have hX:=@hb;(repeat' first|refine zaa [0,1,2,6,7,8,9,14,15,16,17,18,30] fun K hK=>?_|(refine hK.go ?_;clear hK K)|with_reducible exact wT|refine wA ?_|(refine wB (fun h=>?_) (fun h=>?_)<;>first|exact wN h|subst (h:(_:Bool)=_)|skip)|(refine wQ ?_;clear hQ hR hE hM)|refine wC c1 ?_|fail);all_goals clear hX)
  all_goals first
   |(rw[←hg];rfl)
   |(exact ⟨k+1,by omega,⟨by omega,by rw[←hg];rfl⟩,by omega⟩)
 ·rw[List.drop_eq_nil_of_le hge,List.drop_eq_nil_of_le (by omega),zav]at hg
  (have hX:=@hb;(repeat' first|refine zaa [0,1,2,6,7,8,9,14,15,16,17,18,30] fun K hK=>?_|(refine hK.go ?_;clear hK K)|with_reducible exact wT|refine wA ?_|(refine wB (fun h=>?_) (fun h=>?_)<;>first|exact wN h|subst (h:(_:Bool)=_)|skip)|(refine wQ ?_;clear hQ hR hE hM)|fail);all_goals clear hX)
  rw[←hg]
theorem eqfSwt (hH:HasAll P inv) {jc:Nat} {caps:List AV} {p:Switch→Pnt→Bool} (a:List Switch) (b:List Pnt) (hc:∀ x∈a,∀ y∈b,PC P inv jc ([.agg x.c,.agg y.c]++caps) (·=.b (p x y))) (hb:zaf caps=0) (ha:a.length≤1000000):PC P inv 113 [.sl 3 (a.map Switch.c),.sl 2 (b.map Pnt.c),.fn jc caps] (·=.b (zav p a b)):=by
 refine PC.fn hH cd113 fun w0 M Q hM hE hQ hR=>?_;dsimp only[cd113,qm,ql,qf,qi,qb,qc,qp,qv,qN,qT,qF,qt]at hQ ⊢
 (have hX:=@hb;(repeat' first|refine zaa [0,1,2,6,7,8,9,14,15,16,17,18,30] fun K hK=>?_|(refine hK.go ?_;clear hK K)|with_reducible exact wT|refine wA ?_|(refine wB (fun h=>?_) (fun h=>?_)<;>first|exact wN h|subst (h:(_:Bool)=_)|skip)|(refine wQ ?_;clear hQ hR hE hM)|fail);all_goals clear hX)
 ·have:zav p a b=false:=by
   cases hz:zav p a b with
   |false=>rfl
   |true=>have:=zb4 hz;omega
  rw[this]
 refine zai (ι:=Nat) [1,2,6,15,16,17] (fun z=>[(17,.n z)]) (fun _=>[]) (fun z=>z) (a.length) (fun z=>(zav p (a.drop z) (b.drop z)=zav p a b)) (0) ?_;rintro k ⟨hk,hg⟩;(try dsimp only at hk hg ⊢);rcases Nat.lt_or_ge k a.length with hlt|hge
 ·have hltb:k<b.length:=by omega
  rw[zad hlt,zad hltb,zav]at hg
  have c1:=hc _ (zab hlt) _ (zab hltb)
  revert c1 hg
  generalize p (nth a k) (nth b k)=t
  intro hg c1
  (have hX:=@hb;(repeat' first|refine zaa [0,1,2,6,7,8,9,14,15,16,17,18,30] fun K hK=>?_|(refine hK.go ?_;clear hK K)|with_reducible exact wT|refine wA ?_|(refine wB (fun h=>?_) (fun h=>?_)<;>first|exact wN h|subst (h:(_:Bool)=_)|skip)|(refine wQ ?_;clear hQ hR hE hM)|refine wC c1 ?_|fail);all_goals clear hX)
  all_goals first
   |(rw[←hg];rfl)
   |(exact ⟨k+1,by omega,⟨by omega,by rw[←hg];rfl⟩,by omega⟩)
 ·rw[List.drop_eq_nil_of_le hge,List.drop_eq_nil_of_le (by omega),zav]at hg
  (have hX:=@hb;(repeat' first|refine zaa [0,1,2,6,7,8,9,14,15,16,17,18,30] fun K hK=>?_|(refine hK.go ?_;clear hK K)|with_reducible exact wT|refine wA ?_|(refine wB (fun h=>?_) (fun h=>?_)<;>first|exact wN h|subst (h:(_:Bool)=_)|skip)|(refine wQ ?_;clear hQ hR hE hM)|fail);all_goals clear hX)
  rw[←hg]
theorem eqfLck (hH:HasAll P inv) {jc:Nat} {caps:List AV} {p:Lock→Rte→Bool} (a:List Lock) (b:List Rte) (hc:∀ x∈a,∀ y∈b,PC P inv jc ([.agg x.c,.agg y.c]++caps) (·=.b (p x y))) (hb:zaf caps=0) (ha:a.length≤1000000):PC P inv 115 [.sl 4 (a.map Lock.c),.sl 7 (b.map Rte.c),.fn jc caps] (·=.b (zav p a b)):=by
 refine PC.fn hH cd115 fun w0 M Q hM hE hQ hR=>?_;dsimp only[cd115,qm,ql,qf,qi,qb,qc,qp,qv,qN,qT,qF,qt]at hQ ⊢
 (have hX:=@hb;(repeat' first|refine zaa [0,1,2,6,7,8,9,14,15,16,17,18,30] fun K hK=>?_|(refine hK.go ?_;clear hK K)|with_reducible exact wT|refine wA ?_|(refine wB (fun h=>?_) (fun h=>?_)<;>first|exact wN h|subst (h:(_:Bool)=_)|skip)|(refine wQ ?_;clear hQ hR hE hM)|fail);all_goals clear hX)
 ·have:zav p a b=false:=by
   cases hz:zav p a b with
   |false=>rfl
   |true=>have:=zb4 hz;omega
  rw[this]
 refine zai (ι:=Nat) [1,2,6,15,16,17] (fun z=>[(17,.n z)]) (fun _=>[]) (fun z=>z) (a.length) (fun z=>(zav p (a.drop z) (b.drop z)=zav p a b)) (0) ?_;rintro k ⟨hk,hg⟩;(try dsimp only at hk hg ⊢);rcases Nat.lt_or_ge k a.length with hlt|hge
 ·have hltb:k<b.length:=by omega
  rw[zad hlt,zad hltb,zav]at hg
  have c1:=hc _ (zab hlt) _ (zab hltb)
  revert c1 hg
  generalize p (nth a k) (nth b k)=t
  intro hg c1
  (have hX:=@hb;(repeat' first|refine zaa [0,1,2,6,7,8,9,14,15,16,17,18,30] fun K hK=>?_|(refine hK.go ?_;clear hK K)|with_reducible exact wT|refine wA ?_|(refine wB (fun h=>?_) (fun h=>?_)<;>first|exact wN h|subst (h:(_:Bool)=_)|skip)|(refine wQ ?_;clear hQ hR hE hM)|refine wC c1 ?_|fail);all_goals clear hX)
  all_goals first
   |(rw[←hg];rfl)
   |(exact ⟨k+1,by omega,⟨by omega,by rw[←hg];rfl⟩,by omega⟩)
 ·rw[List.drop_eq_nil_of_le hge,List.drop_eq_nil_of_le (by omega),zav]at hg
  (have hX:=@hb;(repeat' first|refine zaa [0,1,2,6,7,8,9,14,15,16,17,18,30] fun K hK=>?_|(refine hK.go ?_;clear hK K)|with_reducible exact wT|refine wA ?_|(refine wB (fun h=>?_) (fun h=>?_)<;>first|exact wN h|subst (h:(_:Bool)=_)|skip)|(refine wQ ?_;clear hQ hR hE hM)|fail);all_goals clear hX)
  rw[←hg]
end Go.Lev
namespace Go.Lev
open Go.Eng
set_option maxRecDepth 10000
set_option maxHeartbeats 4000000
variable {P:Program} {inv:Nat→Option Nat} {w0:World} {M:Nat→Prop}
def gc (H A:List Int) (W:AV):List AV:=H.map AV.n++(A.map AV.n++[W])
section gc
variable {H A:List Int} {W:AV}
theorem zgT (h:H.length=100) (h':A.length=100):(gc H A W).length=201:=by simp[gc,h,h']
theorem zqW (h:H.length=100) {i:Nat} (hi:i<100):(gc H A W)[i]?=some (.n (nth H i)):=by
 unfold gc
 rw[List.getElem?_append_left (by simp[h,hi]),zj8 (by omega)]
theorem gc_get2 (h:H.length=100) (h':A.length=100) {i:Nat} (hi:i<100):(gc H A W)[100+i]?=some (.n (nth A i)):=by
 unfold gc
 rw[List.getElem?_append_right (by simp[h]),List.length_map,h,show 100+i-100=i by omega,List.getElem?_append_left (by simp[h',hi]),zj8 (by omega)]
theorem gc_get3 (h:H.length=100) (h':A.length=100):(gc H A W)[200]?=some W:=by
 unfold gc
 rw[List.getElem?_append_right (by simp[h]),List.length_map,h,List.getElem?_append_right (by simp[h']),List.length_map,h']
 rfl
theorem gc_set1 (h:H.length=100) {i:Nat} (hi:i<100) (x:Int):(gc H A W).set i (.n x)=gc (H.set i x) A W:=by
 unfold gc
 rw[List.set_append_left _ _ (by simp[h,hi]),List.map_set]
theorem gc_set2 (h:H.length=100) (h':A.length=100) {i:Nat} (hi:i<100) (x:Int):(gc H A W).set (100+i) (.n x)=gc H (A.set i x) W:=by
 unfold gc
 rw[List.set_append_right _ _ (by simp[h]),List.length_map,h,show 100+i-100=i by omega,List.set_append_left _ _ (by simp[h',hi]),List.map_set]
theorem gc_set3 (h:H.length=100) (h':A.length=100) (W':AV):(gc H A W).set 200 W'=gc H A W':=by
 unfold gc
 rw[List.set_append_right _ _ (by simp[h]),List.length_map,h,List.set_append_right _ _ (by simp[h']),List.length_map,h']
 rfl
theorem znM (h:W.plain=true):zaz (gc H A W)=true:=by
 unfold gc
 rw[zcM,zcM,zcU,zcU]
 simp[zaz,h]
theorem zqY (h:W.plain=true):zag (gc H A W)=true:=zcs _ (znM h)
theorem zfV (h:W.plain=true):zaf (gc H A W)=0:=zbu _ (zqY h)
theorem gc_snap (h:W.plain=true) (k:Nat) (σ:AS):zb1 k σ (gc H A W)=gc H A W:=zg8 k σ (znM h)
end gc
def wsl (ws:List WayR):AV:=.sl 4 (ws.map Way.c)
theorem zfq (ws:List WayR):(wsl ws).plain=true:=rfl
def zbk (w:WayR) (l:Lock):List Int:=if l.phase=0 then [] else w.path.drop l.gone.toNat++w.over
def zbV (l:Lock) (a:AskR):Bool:=decide (a.pos<0)||decide (l.gone≤a.pos)
def zbN (n:Int):List Int→List Int→Bool→List Int×Bool
 |[],H,t=>(H,t)
 |s::r,H,t=>if t=true∧nth H s.toNat=0 then zbN n r (H.set s.toNat n) true else (H.set s.toNat n,false)
def zd7 (l:Lock) (C:List (Int×Int)):List AskR→List Int→Bool→List Int×Bool
 |[],A,t=>(A,t)
 |a::r,A,t=>if zbV l a=true then (if t=true∧zf7 C a.pnt=a.lie then zd7 l C r (A.set a.pnt.toNat a.lie) true else (A.set a.pnt.toNat a.lie,false)) else zd7 l C r A t
def stG (p:Pln) (s:State) (ws:List WayR) (C:List (Int×Int)) (l:Lock) (H A:List Int) (t:Bool):List (Nat×AO):=[(0,.cells p.c true),(1,.cells s.c true),(2,.cells (gc H A (wsl ws)) true),(3,.cells [.b t] true),(4,.cells [.fn 110 []] true),(5,.imap C),(6,.cells [.mp 5] true),(7,.cells l.c true)]
theorem held_ac (hH:HasAll P inv) (hM:∀ b,M b→b<w0.heap.size) (p:Pln) (s:State) (ws:List WayR) (C:List (Int×Int)) (l:Lock) (w:WayR) (H A:List Int) (t:Bool) (hg:0≤l.gone∧l.gone≤w.path.length) (h1:w.path.length≤1000) (h2:w.over.length≤1000) (hs:∀ x∈w.path++w.over,0≤x∧x≤99) (hHl:H.length=100) (hAl:A.length=100) :
  AC P inv w0 M 30 118 [.agg w.c,.agg l.c,.fn 119 [.ptr 3 1 0,.ptr 2 201 0,.ptr 7 4 0]] (stG p s ws C l H A t) fun r0 σ'=>r0=.tup []∧σ'=stG p s ws C l (zbN l.id (zbk w l) H t).1 A (if l.phase=0 then t else (zbN l.id (zbk w l) H t).2):=by
 have c3:=zlG hH [w.path.drop l.gone.toNat,w.over] (by simp) (by simp[lens];omega)
 rw[show [w.path.drop l.gone.toNat,w.over].flatten=w.path.drop l.gone.toNat++w.over by simp,show [w.path.drop l.gone.toNat,w.over].map lst=[[.sl 1 ((w.path.map zck).drop l.gone.toNat)],[.sl 1 (w.over.map zck)]] by simp[lst,List.map_drop]]at c3
 have hn1:¬l.gone<0:=by omega
 have hn2:¬((w.path.length:Int)<l.gone):=by omega
 have hgb:=zfV (H:=H) (A:=A) (zfq ws)
 unfold zbk
 by_cases hph:l.phase=0
 ·simp only[hph,if_true,zbN]
  refine za4 (F:=cd118) (hH.has _ _ rfl) rfl (Nat.le_of_ble_eq_true rfl) fun Q hQ hR=>?_;have hE:=hH.callable;dsimp only[cd118,qm,ql,qf,qi,qb,qc,qp,qv,qN,qT,qF,qt]at hQ ⊢
  unfold stG
  (refine no_implicit_lambda% (st ?_);try with_reducible exact wT)
  (have hX:=@hgb;(repeat' first|refine zaa [0,1,2,3,4,7,10,24,25,26,27,33] fun K hK=>?_|(refine hK.go ?_;clear hK K)|with_reducible exact wT|refine wA ?_|(refine wB (fun h=>?_) (fun h=>?_)<;>first|exact wN h|subst (h:(_:Bool)=_)|skip)|(refine wR ?_;clear hQ hR hE hM)|fail);all_goals clear hX)
  all_goals first|(exfalso;contradiction)|skip
  all_goals ((first|refine ⟨[],trivial, ?_⟩|refine ⟨[],⟨rfl,trivial⟩, ?_⟩);simp only[swS,stG];(refine no_implicit_lambda% (st ?_);try with_reducible exact wT);(try simp))
 ·simp only[hph,if_false]
  obtain ⟨L,hL⟩:∃ L,L=w.path.drop l.gone.toNat++w.over:=⟨_,rfl⟩
  have hLs:∀ x∈L,0≤x∧x≤99:=fun x hx=>hs x (by
   rw[hL]at hx
   rcases List.mem_append.1 hx with h|h
   ·exact List.mem_append.2 (.inl (List.mem_of_mem_drop h))
   ·exact List.mem_append.2 (.inr h))
  have hLl:L.length≤2000:=by rw[hL];simp;omega
  rw[←hL]at c3 ⊢
  clear hL
  refine za4 (F:=cd118) (hH.has _ _ rfl) rfl (Nat.le_of_ble_eq_true rfl) fun Q hQ hR=>?_;have hE:=hH.callable;dsimp only[cd118,qm,ql,qf,qi,qb,qc,qp,qv,qN,qT,qF,qt]at hQ ⊢
  skip
  unfold stG
  (refine no_implicit_lambda% (st ?_);try with_reducible exact wT)
  (have hX:=zA @hn1 (zA @hn2 @hgb);(repeat' first|refine zaa [0,1,2,3,4,5,7,10,24,25,26,27,33] fun K hK=>?_|(refine hK.go ?_;clear hK K)|with_reducible exact wT|refine wA ?_|(refine wB (fun h=>?_) (fun h=>?_)<;>first|exact wN h|subst (h:(_:Bool)=_)|skip)|(refine wQ ?_;clear hQ hR)|refine wC c3 ?_|fail);all_goals clear hX)
  all_goals first|(exfalso;contradiction)|skip
  refine zai (ι:=Nat×(List Int)×Bool) [2,24,25,26] (fun z=>[(26,.n z.1)]) (fun z=>[(2,.cells (gc z.2.1 A (wsl ws)) true),(3,.cells [.b z.2.2] true)]) (fun z=>z.1) (L.length) (fun z=>(z.2.1.length=100)∧(zbN l.id (L.drop z.1) z.2.1 z.2.2=zbN l.id L H t)) (0,H,t) ?_;rintro ⟨k,X,u⟩ ⟨hk,hx,hgo⟩;(try dsimp only at hk hx hgo ⊢);rcases Nat.lt_or_ge k L.length with hlt|hge
  ·rw[zad hlt,zbN]at hgo
   have hb:=hLs _ (zab hlt)
   have hgb2:=zfV (H:=X) (A:=A) (zfq ws)
   have e1:=zqW (H:=X) (A:=A) (W:=wsl ws) hx (i:=(nth L k).toNat) (by omega)
   have e2:=gc_set1 (H:=X) (A:=A) (W:=wsl ws) hx (i:=(nth L k).toNat) (by omega) l.id
   have e3:=zgT (H:=X) (A:=A) (W:=wsl ws) hx hAl
   (have hX:=zA @hgb2 (zA @e1 (zA @e2 @e3));(repeat' first|refine zaa [0,1,2,3,4,5,7,10,24,25,26,27,33] fun K hK=>?_|(refine hK.go ?_;clear hK K)|with_reducible exact wT|refine wA ?_|(refine wB (fun h=>?_) (fun h=>?_)<;>first|exact wN h|subst (h:(_:Bool)=_)|skip)|(refine wQ ?_;clear hQ hR)|(refine AC.callK 40 (by omega) (by first|omega|exact wF|((refine no_implicit_lambda% (st ?_);try with_reducible exact wT);omega)) (zat (F:=cd119) (hH.has _ _ rfl) (Nat.le_of_ble_eq_true rfl) fun Q hQ hR=>?_);dsimp only[cd119,qm,ql,qf,qi,qb,qc,qp,qv,qN,qT,qF,qt]at hQ ⊢;try (refine no_implicit_lambda% (st ?_);try with_reducible exact wT))|fail);all_goals clear hX)
   all_goals first
    |(rw[if_neg (by simp[*])]at hgo;rw[←hgo];refine ⟨[],trivial, ?_⟩;simp only[swS,stG];(refine no_implicit_lambda% (st ?_);try with_reducible exact wT);(try simp[*]);done)
    |(rw[if_pos ⟨by simp[*],by simp[*]⟩]at hgo;exact ⟨(k+1,X.set (nth L k).toNat l.id,true),by dsimp only;omega,⟨by dsimp only;omega,by simp[hx],hgo⟩,by dsimp only;omega,rfl,by simp[*]⟩)
  ·rw[List.drop_eq_nil_of_le hge,zbN]at hgo
   (repeat' first|refine zaa [0,1,2,3,4,5,7,10,24,25,26,27,33] fun K hK=>?_|(refine hK.go ?_;clear hK K)|with_reducible exact wT|refine wA ?_|(refine wB (fun h=>?_) (fun h=>?_)<;>first|exact wN h|subst (h:(_:Bool)=_)|skip)|(refine wQ ?_;clear hQ hR)|fail)
   rw[←hgo];refine ⟨[],trivial, ?_⟩;simp only[swS,stG];(refine no_implicit_lambda% (st ?_);try with_reducible exact wT);(try simp[*])
theorem asks_ac (hH:HasAll P inv) (hM:∀ b,M b→b<w0.heap.size) (p:Pln) (s:State) (ws:List WayR) (C:List (Int×Int)) (l:Lock) (w:WayR) (H A:List Int) (t:Bool) (h1:w.asks.length≤1000) (hs:∀ a∈w.asks,0≤a.pnt∧a.pnt≤99) (hHl:H.length=100) (hAl:A.length=100) :
  AC P inv w0 M 30 120 [.agg w.c,.agg l.c,.fn 121 [.ptr 3 1 0,.ptr 6 1 0,.ptr 2 201 0]] (stG p s ws C l H A t) fun r0 σ'=>r0=.tup []∧σ'=stG p s ws C l H (if l.phase=0 then (A,t) else zd7 l C w.asks A t).1 (if l.phase=0 then (A,t) else zd7 l C w.asks A t).2:=by
 have hgb:=zfV (H:=H) (A:=A) (zfq ws)
 by_cases hph:l.phase=0
 ·simp only[hph,if_true]
  refine za4 (F:=cd120) (hH.has _ _ rfl) rfl (Nat.le_of_ble_eq_true rfl) fun Q hQ hR=>?_;have hE:=hH.callable;dsimp only[cd120,qm,ql,qf,qi,qb,qc,qp,qv,qN,qT,qF,qt]at hQ ⊢
  unfold stG
  (refine no_implicit_lambda% (st ?_);try with_reducible exact wT)
  (have hX:=@hgb;(repeat' first|refine zaa [0,1,2,3,4,7,10,12,13,14,15,33] fun K hK=>?_|(refine hK.go ?_;clear hK K)|with_reducible exact wT|refine wA ?_|(refine wB (fun h=>?_) (fun h=>?_)<;>first|exact wN h|subst (h:(_:Bool)=_)|skip)|(refine wR ?_;clear hQ hR hE hM)|fail);all_goals clear hX)
  all_goals first|(exfalso;contradiction)|skip
  all_goals ((first|refine ⟨[],trivial, ?_⟩|refine ⟨[],⟨rfl,trivial⟩, ?_⟩);simp only[swS,stG];(refine no_implicit_lambda% (st ?_);try with_reducible exact wT);(try simp))
 ·simp only[hph,if_false]
  refine za4 (F:=cd120) (hH.has _ _ rfl) rfl (Nat.le_of_ble_eq_true rfl) fun Q hQ hR=>?_;have hE:=hH.callable;dsimp only[cd120,qm,ql,qf,qi,qb,qc,qp,qv,qN,qT,qF,qt]at hQ ⊢
  skip
  unfold stG
  (refine no_implicit_lambda% (st ?_);try with_reducible exact wT)
  (have hX:=@hgb;(repeat' first|refine zaa [0,1,2,3,4,5,7,10,12,13,14,15,33] fun K hK=>?_|(refine hK.go ?_;clear hK K)|with_reducible exact wT|refine wA ?_|(refine wB (fun h=>?_) (fun h=>?_)<;>first|exact wN h|subst (h:(_:Bool)=_)|skip)|(refine wQ ?_;clear hQ hR)|fail);all_goals clear hX)
  all_goals first|(exfalso;contradiction)|skip
  refine zai (ι:=Nat×(List Int)×Bool) [2,4,12,13,14] (fun z=>[(14,.n z.1)]) (fun z=>[(2,.cells (gc H z.2.1 (wsl ws)) true),(3,.cells [.b z.2.2] true)]) (fun z=>z.1) (w.asks.length) (fun z=>(z.2.1.length=100)∧(zd7 l C (w.asks.drop z.1) z.2.1 z.2.2=zd7 l C w.asks A t)) (0,A,t) ?_;rintro ⟨k,X,u⟩ ⟨hk,hx,hgo⟩;(try dsimp only at hk hx hgo ⊢);rcases Nat.lt_or_ge k w.asks.length with hlt|hge
  ·rw[zad hlt,zd7]at hgo
   have hb:=hs _ (zab hlt)
   have hgb2:=zfV (H:=H) (A:=X) (zfq ws)
   have e2:=gc_set2 (H:=H) (A:=X) (W:=wsl ws) hHl hx (i:=(nth w.asks k).pnt.toNat) (by omega) (nth w.asks k).lie
   have e3:=zgT (H:=H) (A:=X) (W:=wsl ws) hHl hx
   (have hX:=zA @hgb2 (zA @e2 @e3);(repeat' first|refine zaa [0,1,2,3,4,5,7,10,12,13,14,15,33] fun K hK=>?_|(refine hK.go ?_;clear hK K)|with_reducible exact wT|refine wA ?_|(refine wB (fun h=>?_) (fun h=>?_)<;>first|exact wN h|subst (h:(_:Bool)=_)|skip)|(refine wQ ?_;clear hQ hR)|(refine AC.callK 40 (by omega) (by first|omega|exact wF|((refine no_implicit_lambda% (st ?_);try with_reducible exact wT);omega)) (zat (F:=cd121) (hH.has _ _ rfl) (Nat.le_of_ble_eq_true rfl) fun Q hQ hR=>?_);dsimp only[cd121,qm,ql,qf,qi,qb,qc,qp,qv,qN,qT,qF,qt]at hQ ⊢;try (refine no_implicit_lambda% (st ?_);try with_reducible exact wT))|fail);all_goals clear hX)
   all_goals first
    |(rw[show zbV l (nth w.asks k)=true by simp[zbV, *],if_pos rfl,if_neg (by simp[*])]at hgo;rw[←hgo];refine ⟨[],trivial, ?_⟩;simp only[swS,stG];(refine no_implicit_lambda% (st ?_);try with_reducible exact wT);(try simp[*]);done)
    |(rw[show zbV l (nth w.asks k)=true by simp[zbV, *],if_pos rfl,if_pos ⟨by simp[*],by simp[*]⟩]at hgo;exact ⟨(k+1,X.set (nth w.asks k).pnt.toNat (nth w.asks k).lie,true),by dsimp only;omega,⟨by dsimp only;omega,by simp[hx],hgo⟩,by dsimp only;omega,rfl,by simp[*]⟩)
    |(rw[show zbV l (nth w.asks k)=false by simp[zbV];omega,if_neg (by simp)]at hgo;exact ⟨(k+1,X,_),by dsimp only;omega,⟨by dsimp only;omega,by simp[hx],hgo⟩,by dsimp only;omega,rfl,rfl⟩)
  ·rw[List.drop_eq_nil_of_le hge,zd7]at hgo
   (repeat' first|refine zaa [0,1,2,3,4,5,7,10,12,13,14,15,33] fun K hK=>?_|(refine hK.go ?_;clear hK K)|with_reducible exact wT|refine wA ?_|(refine wB (fun h=>?_) (fun h=>?_)<;>first|exact wN h|subst (h:(_:Bool)=_)|skip)|(refine wQ ?_;clear hQ hR)|fail)
   rw[←hgo];refine ⟨[],trivial, ?_⟩;simp only[swS,stG];(refine no_implicit_lambda% (st ?_);try with_reducible exact wT);(try simp[*])
end Go.Lev
namespace Go.Lev
open Go.Eng
set_option maxRecDepth 10000
set_option maxHeartbeats 4000000
variable {P:Program} {inv:Nat→Option Nat} {w0:World} {M:Nat→Prop}
def zbG (w:WayR) (l:Lock):List AskR:=if l.phase=0 then [] else w.asks
theorem held_ac2 (hH:HasAll P inv) (hM:∀ b,M b→b<w0.heap.size) (p:Pln) (s:State) (ws:List WayR) (C:List (Int×Int)) (l:Lock) (w:WayR) (H A:List Int) (t:Bool) (hg:0≤l.gone∧l.gone≤w.path.length) (h1:w.path.length≤1000) (h2:w.over.length≤1000) (hs:∀ x∈w.path++w.over,0≤x∧x≤99) (hHl:H.length=100) (hAl:A.length=100) :
  AC P inv w0 M 30 118 [.agg w.c,.agg l.c,.fn 119 [.ptr 3 1 0,.ptr 2 201 0,.ptr 7 4 0]] (stG p s ws C l H A t) fun r0 σ'=>r0=.tup []∧σ'=stG p s ws C l (zbN l.id (zbk w l) H t).1 A (zbN l.id (zbk w l) H t).2:=by
 have h:=held_ac hH hM p s ws C l w H A t hg h1 h2 hs hHl hAl
 by_cases hp:l.phase=0
 ·rw[if_pos hp]at h
  rw[show (zbN l.id (zbk w l) H t).2=t by unfold zbk;rw[if_pos hp];rfl]
  exact h
 ·rw[if_neg hp]at h;exact h
theorem asks_ac2 (hH:HasAll P inv) (hM:∀ b,M b→b<w0.heap.size) (p:Pln) (s:State) (ws:List WayR) (C:List (Int×Int)) (l:Lock) (w:WayR) (H A:List Int) (t:Bool) (h1:w.asks.length≤1000) (hs:∀ a∈w.asks,0≤a.pnt∧a.pnt≤99) (hHl:H.length=100) (hAl:A.length=100) :
  AC P inv w0 M 30 120 [.agg w.c,.agg l.c,.fn 121 [.ptr 3 1 0,.ptr 6 1 0,.ptr 2 201 0]] (stG p s ws C l H A t) fun r0 σ'=>r0=.tup []∧σ'=stG p s ws C l H (zd7 l C (zbG w l) A t).1 (zd7 l C (zbG w l) A t).2:=by
 have h:=asks_ac hH hM p s ws C l w H A t h1 hs hHl hAl
 by_cases hp:l.phase=0
 ·rw[if_pos hp]at h
  unfold zbG
  rw[if_pos hp]
  exact h
 ·rw[if_neg hp]at h
  unfold zbG
  rw[if_neg hp]
  exact h
theorem zfT (n:Int):∀ (l H:List Int) (t:Bool),(zbN n l H t).1.length=H.length
 |[],H,t=>rfl
 |s::r,H,t=>by
  rw[zbN]
  split
  ·rw[zfT n r];simp
  ·simp
theorem zf5 (l:Lock) (C:List (Int×Int)):∀ (q:List AskR) (A:List Int) (t:Bool),(zd7 l C q A t).1.length=A.length
 |[],A,t=>rfl
 |a::r,A,t=>by
  rw[zd7]
  split
  ·split
   ·rw[zf5 l C r];simp
   ·simp
  ·exact zf5 l C r A t
def zf8:List (Int×Int)→List Switch→List (Int×Int)
 |C,[]=>C
 |C,x::r=>zf8 (zmx C x.id x.call) r
def zdi (ws:List WayR) (C:List (Int×Int)):Nat→List Lock→List Int→List Int→Bool→List Int×List Int×Bool
 |_,[],H,A,t=>(H,A,t)
 |i,l::r,H,A,t=>zdi ws C (i+1) r (zbN l.id (zbk (nth ws i) l) H t).1 (zd7 l C (zbG (nth ws i) l) A (zbN l.id (zbk (nth ws i) l) H t).2).1 (zd7 l C (zbG (nth ws i) l) A (zbN l.id (zbk (nth ws i) l) H t).2).2
def zaj (p:Pln) (s:State):Bool:=zav ze9 s.tracks p.sections&&(zav zeV s.switches p.points&&zav zcK s.locks p.routes)
def zaV (p:Pln):List WayR:=p.routes.map fun r=>(zah p r).1
def zdd:List Int:=List.replicate 100 0
def gripR (p:Pln) (s:State):(List Int×List Int×Bool)×List WayR:=if zaj p s=true then (zdi (zaV p) (zf8 [] s.switches) 0 s.locks zdd zdd true,zaV p) else ((zdd,zdd,false),[])
theorem foldG:List.replicate 100 (AV.i .i64 0)++(List.replicate 100 (AV.i .i64 0)++[AV.s0 4])=gc zdd zdd (.s0 4):=rfl
theorem gc_snap0 (H A:List Int) (k:Nat) (σ:AS):zb1 k σ (gc H A (.s0 4))=gc H A (.sl 4 []):=by
 unfold gc
 rw[zkI,zkI,zjK,zjK,zca,zdZ,sn_s0]
theorem ovl_gc {H A H' A':List Int} (h:H.length=100) (h':A.length=100) (h2:H'.length=100) (h2':A'.length=100) (W W':AV):ovl (gc H A W) 0 (gc H' A' W')=gc H' A' W':=by
 rw[znx _ _ _ (by rw[zgT h h',zgT h2 h2'];omega),List.take_zero,List.nil_append,List.drop_eq_nil_of_le (by rw[zgT h h',zgT h2 h2'];omega),List.append_nil]
theorem zbD:zdd.length=100:=by simp[zdd]
theorem zqX (H A:List Int):zaf (gc H A (.s0 4))=0:=by
 unfold gc
 rw[zeQ,zeQ,zeK,zeK];rfl
theorem gc_bare0 (H A:List Int):zag (gc H A (.s0 4))=true:=by
 have h:∀ xs ys:List AV,zag (xs++ys)=(zag xs&&zag ys):=by
  intro xs ys
  induction xs with
  |nil=>simp[zag]
  |cons x xs ih=>simp[zag,ih,Bool.and_assoc]
 unfold gc
 rw[h,h,zfS,zfS];rfl
def stGg (p:Pln) (s:State) (g:List AV) (C:List (Int×Int)) (l:Lock) (t:Bool):List (Nat×AO):=[(0,.cells p.c true),(1,.cells s.c true),(2,.cells g true),(3,.cells [.b t] true),(4,.cells [.fn 110 []] true),(5,.imap C),(6,.cells [.mp 5] true),(7,.cells l.c true)]
theorem held_ac3 (hH:HasAll P inv) (hM:∀ b,M b→b<w0.heap.size) (G:List Int→List Int→AV→List AV) (hG:G=gc) (p:Pln) (s:State) (ws:List WayR) (C:List (Int×Int)) (l:Lock) (w:WayR) (H A:List Int) (t:Bool) (hg:0≤l.gone∧l.gone≤w.path.length) (h1:w.path.length≤1000) (h2:w.over.length≤1000) (hs:∀ x∈w.path++w.over,0≤x∧x≤99) (hHl:H.length=100) (hAl:A.length=100) :
  AC P inv w0 M 30 118 [.agg w.c,.agg l.c,.fn 119 [.ptr 3 1 0,.ptr 2 201 0,.ptr 7 4 0]] (stGg p s (G H A (.sl 4 (ws.map Way.c))) C l t) fun r0 σ'=>r0=.tup []∧σ'=stGg p s (G (zbN l.id (zbk w l) H t).1 A (.sl 4 (ws.map Way.c))) C l (zbN l.id (zbk w l) H t).2:=by
 subst hG
 exact held_ac2 hH hM p s ws C l w H A t hg h1 h2 hs hHl hAl
theorem asks_ac3 (hH:HasAll P inv) (hM:∀ b,M b→b<w0.heap.size) (G:List Int→List Int→AV→List AV) (hG:G=gc) (p:Pln) (s:State) (ws:List WayR) (C:List (Int×Int)) (l:Lock) (w:WayR) (H A:List Int) (t:Bool) (h1:w.asks.length≤1000) (hs:∀ a∈w.asks,0≤a.pnt∧a.pnt≤99) (hHl:H.length=100) (hAl:A.length=100) :
  AC P inv w0 M 30 120 [.agg w.c,.agg l.c,.fn 121 [.ptr 3 1 0,.ptr 6 1 0,.ptr 2 201 0]] (stGg p s (G H A (.sl 4 (ws.map Way.c))) C l t) fun r0 σ'=>r0=.tup []∧σ'=stGg p s (G H (zd7 l C (zbG w l) A t).1 (.sl 4 (ws.map Way.c))) C l (zd7 l C (zbG w l) A t).2:=by
 subst hG
 exact asks_ac2 hH hM p s ws C l w H A t h1 hs hHl hAl
structure GC (G:List Int→List Int→AV→List AV) (Z:List Int):Prop where
 eq:G=gc
 z:Z=zdd
 fold:List.replicate 100 (AV.i .i64 0)++(List.replicate 100 (AV.i .i64 0)++[AV.s0 4])=G Z Z (.s0 4)
 zl:Z.length=100
 len:∀ {H A:List Int} (W:AV),H.length=100→A.length=100→(G H A W).length=201
 sg:∀ {H A:List Int} (W:AV),H.length=100→A.length=100→List.take 201 (G H A W)=G H A W
 ov:∀ {H A H' A':List Int} (W W':AV),H.length=100→A.length=100→H'.length=100→A'.length=100→ovl (G H A W) 0 (G H' A' W')=G H' A' W'
 bd0:∀ H A:List Int,zaf (G H A (.s0 4))=0
 ba0:∀ H A:List Int,zag (G H A (.s0 4))=true
 bd:∀ (H A:List Int) (l:List (List AV)),zaf (G H A (.sl 4 l))=0
 ba:∀ (H A:List Int) (l:List (List AV)),zag (G H A (.sl 4 l))=true
 sn0:∀ (H A:List Int) (k:Nat) (σ:AS),zb1 k σ (G H A (.s0 4))=G H A (.sl 4 [])
 sn:∀ (H A:List Int) (l:List (List AV)) (k:Nat) (σ:AS),zb1 k σ (G H A (.sl 4 l))=G H A (.sl 4 l)
 get:∀ {H A:List Int} (W:AV),H.length=100→A.length=100→(G H A W)[200]?=some W
 set:∀ {H A:List Int} (W W':AV),H.length=100→A.length=100→(G H A W).set 200 W'=G H A W'
theorem GC.mk':GC gc zdd:=⟨rfl,rfl,foldG,zbD,fun W h1 h2=>zgT h1 h2,fun W h1 h2=>List.take_of_length_le (by rw[zgT h1 h2];exact Nat.le_refl _),fun W W' h1 h2 h3 h4=>ovl_gc h1 h2 h3 h4 W W',zqX,gc_bare0,fun H A l=>zfV rfl,fun H A l=>zqY rfl,fun H A k σ=>gc_snap0 H A k σ,fun H A l k σ=>gc_snap rfl k σ,fun W h1 h2=>gc_get3 h1 h2,fun W W' h1 h2=>gc_set3 h1 h2 W'⟩
theorem GC.ex:∃ G Z,GC G Z:=⟨_,_,GC.mk'⟩
theorem zkl {φ:AF} {σ:AS} {t u l l':Nat} {g:List AV} {b r r':Bool} (h1:zbx φ t=.ptr l 201 0) (h2:zaF σ l=some (.cells g r)) (h3:g.length=201) (hs:List.take 201 g=g) (h4:zbx φ u=.ptr l' 1 0) (h5:zaF σ l'=some (.cells [.b b] r')):zd3 φ σ [.cell t (some 201),.cell u none]=some (.tup [.agg g,.b b]):=by
 have h:zc3 g 0 (some 201)=some (.agg g):=by
  rw[al_s,if_pos (by omega),seg,List.drop_zero,hs]
 simp only[zd3,ziF,ares,h1,h4,zc4,h2,h5,h,h3,al_n,List.getElem?_cons_zero,List.length_cons,List.length_nil,if_true,Nat.zero_add]
theorem grip_bad (hH:HasAll P inv) (hI:HasIds P inv) (p:Pln) (hp:Sm p) (s:State) (hs:s.tracks.length≤1000∧s.switches.length≤1000∧s.locks.length≤1000) (hok:OkP p) (hb:zaj p s=false):PC P inv 93 [.agg p.c,.agg s.c] (·=.tup [.agg (gc zdd zdd (.sl 4 [])),.b false]):=by
 obtain ⟨G,Z,hg⟩:=GC.ex
 rw[←hg.eq,←hg.z]
 have c1:=eqfTrk hH (caps:=[]) s.tracks p.sections (fun x _ y _=>zm7 hH x y) rfl (by omega)
 have c2:=eqfSwt hH (caps:=[.ip 1 [[.fn 110 []]] 0 0]) s.switches p.points (fun x _ y _=>zm9 hH x y) rfl (by omega)
 have c3:=eqfLck hH (caps:=[]) s.locks p.routes (fun x _ y hy=>znE hH x y (by have:=zc0 hok hy;omega)) rfl (by omega)
 unfold zaj at hb
 revert c1 c2 c3 hb
 generalize zav ze9 s.tracks p.sections=a1
 generalize zav zeV s.switches p.points=a2
 generalize zav zcK s.locks p.routes=a3
 intro hb c1 c2 c3
 have hfold:=hg.fold
 have hlen:=hg.len (.s0 4) hg.zl hg.zl
 have hsg:=hg.sg (.s0 4) hg.zl hg.zl
 have hov:=hg.ov (.s0 4) (.s0 4) hg.zl hg.zl hg.zl hg.zl
 have hbd:=hg.bd0 Z Z
 have hba:=hg.ba0 Z Z
 have hsn:=hg.sn0 Z Z
 clear hg
 cases a1
 ·refine PC.fn hH cd93 fun w0 M Q hM hE hQ hR=>?_;dsimp only[cd93,qm,ql,qf,qi,qb,qc,qp,qv,qN,qT,qF,qt]at hQ ⊢
  (have hX:=zA @hfold (zA @hlen (zA @hsg (zA @hov (zA @hbd (zA @hba @hsn)))));(repeat' first|refine zaa [0,1,2,3,4,5,6,7,9,10,11,34,43,45,46,47,48,58,59,60,61] fun K hK=>?_|(refine hK.go ?_;clear hK K)|with_reducible exact wT|refine wA ?_|(refine wB (fun h=>?_) (fun h=>?_)<;>first|exact wN h|subst (h:(_:Bool)=_)|skip)|(refine wQ ?_;clear hQ hR hE hM)|refine wC c1 ?_|fail);all_goals clear hX)
  all_goals (refine hQ _ _ _ (zkl rfl rfl hlen hsg rfl rfl) ?_;simp only[zeZ,zca,zdZ,zfu,sn_b,hsn])
 ·cases a2
  ·refine PC.fn hH cd93 fun w0 M Q hM hE hQ hR=>?_;dsimp only[cd93,qm,ql,qf,qi,qb,qc,qp,qv,qN,qT,qF,qt]at hQ ⊢
   (have hX:=zA @hfold (zA @hlen (zA @hsg (zA @hov (zA @hbd (zA @hba @hsn)))));(repeat' first|refine zaa [0,1,2,3,4,5,6,7,9,10,11,34,43,45,46,47,48,58,59,60,61] fun K hK=>?_|(refine hK.go ?_;clear hK K)|with_reducible exact wT|refine wA ?_|(refine wB (fun h=>?_) (fun h=>?_)<;>first|exact wN h|subst (h:(_:Bool)=_)|skip)|(refine wQ ?_;clear hQ hR hE hM)|refine wC c1 ?_|refine wS c2 ?_|fail);all_goals clear hX)
   all_goals (refine hQ _ _ _ (zkl rfl rfl hlen hsg rfl rfl) ?_;simp only[zeZ,zca,zdZ,zfu,sn_b,hsn])
  ·cases a3
   ·refine PC.fn hH cd93 fun w0 M Q hM hE hQ hR=>?_;dsimp only[cd93,qm,ql,qf,qi,qb,qc,qp,qv,qN,qT,qF,qt]at hQ ⊢
    (have hX:=zA @hfold (zA @hlen (zA @hsg (zA @hov (zA @hbd (zA @hba @hsn)))));(repeat' first|refine zaa [0,1,2,3,4,5,6,7,9,10,11,34,43,45,46,47,48,58,59,60,61] fun K hK=>?_|(refine hK.go ?_;clear hK K)|with_reducible exact wT|refine wA ?_|(refine wB (fun h=>?_) (fun h=>?_)<;>first|exact wN h|subst (h:(_:Bool)=_)|skip)|(refine wQ ?_;clear hQ hR hE hM)|refine wC c1 ?_|refine wS c2 ?_|refine wC c3 ?_|fail);all_goals clear hX)
    all_goals (refine hQ _ _ _ (zkl rfl rfl hlen hsg rfl rfl) ?_;simp only[zeZ,zca,zdZ,zfu,sn_b,hsn])
   ·cases hb
theorem zoE {p:Pln} (hok:OkP p) {l:Lock} {r:Rte} (hr:r∈p.routes) (h:zcK l r=true):0≤l.gone∧l.gone≤(r.path.length:Int)-1:=by
 have hl:=zc0 hok hr
 simp only[zcK,zb3,Bool.and_eq_true]at h
 obtain ⟨_,h⟩:=h
 repeat' split at h
 all_goals (simp at h;try omega)
theorem zfp {α β:Type} [Inhabited α] [Inhabited β] {q:α→β→Bool}:∀ {a:List α} {b:List β},zav q a b=true→∀ {i:Nat},i<a.length→q (nth a i) (nth b i)=true
 |[],_,_,i,hi=>by simp at hi
 |x::xs,[],h,_,_=>by simp[zav]at h
 |x::xs,y::ys,h,0,_=>by simp only[zav,Bool.and_eq_true]at h;simpa [nth] using h.1
 |x::xs,y::ys,h,i+1,hi=>by
  simp only[zav,Bool.and_eq_true]at h
  have:=zfp (q:=q) h.2 (i:=i) (by simpa using hi)
  simpa [nth] using this
theorem grip_ok (hH:HasAll P inv) (hI:HasIds P inv) (p:Pln) (hp:Sm p) (s:State) (hs:s.tracks.length≤1000∧s.switches.length≤1000∧s.locks.length≤1000) (ho:za3 p=true) (hb:zaj p s=true):PC P inv 93 [.agg p.c,.agg s.c] (·=.tup [.agg (gc (zdi (zaV p) (zf8 [] s.switches) 0 s.locks zdd zdd true).1 (zdi (zaV p) (zf8 [] s.switches) 0 s.locks zdd zdd true).2.1 (.sl 4 ((zaV p).map Way.c))),.b (zdi (zaV p) (zf8 [] s.switches) 0 s.locks zdd zdd true).2.2]):=by
 have hlr:=hp.rte
 simp only[za3,Bool.and_eq_true]at ho
 have hok:=zgR ho.1
 have c0:=all_pc hH hI p hp
 rw[zlW,ho.1,if_pos rfl,ho.2.1,if_pos rfl]at c0
 dsimp only at c0
 rw[show (p.routes.map fun r=>(zah p r).1)=zaV p from rfl]at c0
 simp only[zaj,Bool.and_eq_true]at hb
 have c1:=eqfTrk hH (caps:=[]) s.tracks p.sections (fun x _ y _=>zm7 hH x y) rfl (by omega)
 have c2:=eqfSwt hH (caps:=[.ip 1 [[.fn 110 []]] 0 0]) s.switches p.points (fun x _ y _=>zm9 hH x y) rfl (by omega)
 have c3:=eqfLck hH (caps:=[]) s.locks p.routes (fun x _ y hy=>znE hH x y (by have:=zc0 hok hy;omega)) rfl (by omega)
 rw[hb.1]at c1
 rw[hb.2.1]at c2
 rw[hb.2.2]at c3
 have hll:s.locks.length=p.routes.length:=zb4 hb.2.2
 have hwl:(zaV p).length=p.routes.length:=by simp[zaV]
 have hway:∀ i,i<p.routes.length→nth (zaV p) i=(zah p (nth p.routes i)).1:=fun i hi=>zlg (fun r=>(zah p r).1) hi
 have hpath:∀ i,i<p.routes.length→(zah p (nth p.routes i)).1.path=(nth p.routes i).path∧(zah p (nth p.routes i)).1.over=(nth p.routes i).over:=fun i hi=>by
  have h1:=(List.all_eq_true.1 ho.2.1) _ (zab hi)
  have h2:=zbo (p:=p) (r:=nth p.routes i) (by simpa using h1)
  exact ⟨h2.1,h2.2.1⟩
 obtain ⟨ans,hans⟩:∃ ans,ans=zdi (zaV p) (zf8 [] s.switches) 0 s.locks zdd zdd true:=⟨_,rfl⟩
 rw[←hans]
 obtain ⟨ws,hws⟩:∃ ws,ws=zaV p:=⟨_,rfl⟩
 rw[←hws]at c0 hwl hway hans ⊢
 obtain ⟨G,Z,hg⟩:=GC.ex
 rw[←hg.z]at hans
 rw[←hg.eq]
 have hfold:=hg.fold
 have hlen:=hg.len (.s0 4) hg.zl hg.zl
 have hlen2:=hg.len (.sl 4 (ws.map Way.c)) hg.zl hg.zl
 have hset:=hg.set (.s0 4) (.sl 4 (ws.map Way.c)) hg.zl hg.zl
 have hbd0:=hg.bd0 Z Z
 have hbd:=fun H A=>hg.bd H A (ws.map Way.c)
 have hba:=fun H A=>hg.ba H A (ws.map Way.c)
 refine PC.fn hH cd93 fun w0 M Q hM hE hQ hR=>?_;dsimp only[cd93,qm,ql,qf,qi,qb,qc,qp,qv,qN,qT,qF,qt]at hQ ⊢
 (have hX:=zA @hfold (zA @hlen (zA @hbd0 (zA @hbd (zA @hba (zA @hset @hlen2)))));(repeat' first|refine zaa [0,1,2,3,4,5,6,7,9,10,11,34,43,45,46,47,48,58,59,60,61] fun K hK=>?_|(refine hK.go ?_;clear hK K)|with_reducible exact wT|refine wA ?_|(refine wB (fun h=>?_) (fun h=>?_)<;>first|exact wN h|subst (h:(_:Bool)=_)|skip)|(refine wQ ?_;clear hQ hR hE hM)|refine wC c1 ?_|refine wS c2 ?_|refine wC c3 ?_|refine wC c0 ?_|fail);all_goals clear hX)
 refine zai (ι:=Nat×(List (Int×Int))) [3,4,5,7,45,46,47] (fun z=>[(47,.n z.1)]) (fun z=>[(5,.imap z.2)]) (fun z=>z.1) (s.switches.length) (fun z=>(zf8 z.2 (s.switches.drop z.1)=zf8 [] s.switches)) (0,([]:List (Int×Int))) ?_;rintro ⟨k,C⟩ ⟨hk,hm⟩;(try dsimp only at hk hm ⊢);rcases Nat.lt_or_ge k s.switches.length with hlt|hge
 ·rw[zad hlt,zf8]at hm
  (have hX:=@hbd;(repeat' first|refine zaa [0,1,2,3,4,5,6,7,9,10,11,34,43,45,46,47,48,58,59,60,61] fun K hK=>?_|(refine hK.go ?_;clear hK K)|with_reducible exact wT|refine wA ?_|(refine wB (fun h=>?_) (fun h=>?_)<;>first|exact wN h|subst (h:(_:Bool)=_)|skip)|(refine wQ ?_;clear hQ hR hE hM)|fail);all_goals clear hX)
  exact nY (k+1,zmx C (nth s.switches k).id (nth s.switches k).call) ⟨by (try dsimp only);omega,hm⟩
 ·rw[List.drop_eq_nil_of_le hge,zf8]at hm
  rw[←hm]at hans
  clear hm
  (have hX:=@hbd;(repeat' first|refine zaa [0,1,2,3,4,5,6,7,9,10,11,34,43,45,46,47,48,58,59,60,61] fun K hK=>?_|(refine hK.go ?_;clear hK K)|with_reducible exact wT|refine wA ?_|(refine wB (fun h=>?_) (fun h=>?_)<;>first|exact wN h|subst (h:(_:Bool)=_)|skip)|(refine wQ ?_;clear hQ hR hE hM)|fail);all_goals clear hX)
  have hzl:Z.length=100∧Z.length=100:=⟨hg.zl,hg.zl⟩
  have hans0:zdi ws C 0 (s.locks.drop 0) Z Z true=ans:=by rw[List.drop_zero];exact hans.symm
  refine zai (ι:=Nat×(List Int)×(List Int)×Bool) [4,5,7,58,59,60] (fun z=>[(60,.n z.1)]) (fun z=>[(2,.cells (G z.2.1 z.2.2.1 (.sl 4 (ws.map Way.c))) true),(3,.cells [.b z.2.2.2] true)]) (fun z=>z.1) (s.locks.length) (fun z=>(z.2.1.length=100∧z.2.2.1.length=100)∧(zdi ws C z.1 (s.locks.drop z.1) z.2.1 z.2.2.1 z.2.2.2=ans)) (0,Z,Z,true) ?_;rintro ⟨i,H,A,t⟩ ⟨hk,hx,hgo⟩;(try dsimp only at hk hx hgo ⊢);rcases Nat.lt_or_ge i s.locks.length with hlt|hge
  ·rw[zad (by assumption),zdi]at hgo
   have hir:i<p.routes.length:=by omega
   have hw:=hway i hir
   have hpa:=hpath i hir
   have hm:=zab hir
   have hls:=zc0 hok hm
   have hse:=(zcx hok hm).1
   have hwl2:=zbI hok hm
   have hgn:=zoE hok hm (zfp hb.2.2 (i:=i) (by omega))
   have hap:∀ a∈(nth ws i).asks,0≤a.pnt∧a.pnt≤99:=fun a ha=>by rw[hw]at ha;have:=zbi hok hm ha;omega
   have hse2:∀ x∈(nth ws i).path++(nth ws i).over,0≤x∧x≤99:=fun x hx=>by
    rw[hw,hpa.1,hpa.2]at hx
    obtain ⟨q,hq,rfl⟩:=hse x hx
    have:=zdr hok hq
    omega
   have hgn2:0≤(nth s.locks i).gone∧(nth s.locks i).gone≤(nth ws i).path.length:=by rw[hw,hpa.1];omega
   have hl1:(nth ws i).path.length≤1000:=by rw[hw];omega
   have hl2:(nth ws i).over.length≤1000:=by rw[hw];omega
   have hl3:(nth ws i).asks.length≤1000:=by rw[hw];omega
   have hget:=hg.get (.sl 4 (ws.map Way.c)) hx.1 hx.2
   have hln:=hg.len (.sl 4 (ws.map Way.c)) hx.1 hx.2
   have hh:=fun C=>held_ac3 hH hM G hg.eq p s ws C (nth s.locks i) (nth ws i) H A t hgn2 hl1 hl2 hse2 hx.1 hx.2
   have hH1:(zbN (nth s.locks i).id (zbk (nth ws i) (nth s.locks i)) H t).1.length=100:=by rw[zfT];exact hx.1
   have hiw:i<ws.length:=by omega
   revert hh hgo hH1
   generalize zbN (nth s.locks i).id (zbk (nth ws i) (nth s.locks i)) H t=HT
   intro hgo hh hH1
   have hget':=hg.get (.sl 4 (ws.map Way.c)) hH1 hx.2
   have hln':=hg.len (.sl 4 (ws.map Way.c)) hH1 hx.2
   have ha:=fun C=>asks_ac3 hH hM G hg.eq p s ws C (nth s.locks i) (nth ws i) HT.1 A HT.2 hl3 hap hH1 hx.2
   have hA1:∀ C,(zd7 (nth s.locks i) C (zbG (nth ws i) (nth s.locks i)) A HT.2).1.length=100:=fun C=>by rw[zf5];exact hx.2
   (have hX:=zA @hbd (zA @hget (zA @hln (zA @hget' (zA @hln' @stGg.eq_1))));(repeat' first|refine zaa [0,1,2,3,4,5,6,7,9,10,11,34,43,45,46,47,48,58,59,60,61] fun K hK=>?_|(refine hK.go ?_;clear hK K)|with_reducible exact wT|refine wA ?_|(refine wB (fun h=>?_) (fun h=>?_)<;>first|exact wN h|subst (h:(_:Bool)=_)|skip)|(refine wQ ?_;clear hQ hR hE hM)|(refine zeU 30 (hh C) (by omega) (by first|omega|exact wF|((refine no_implicit_lambda% (st ?_);try with_reducible exact wT);omega)) ?_;try (refine no_implicit_lambda% (st ?_);try with_reducible exact wT))|(refine zeU 30 (ha C) (by omega) (by first|omega|exact wF|((refine no_implicit_lambda% (st ?_);try with_reducible exact wT);omega)) ?_;try (refine no_implicit_lambda% (st ?_);try with_reducible exact wT))|fail);all_goals clear hX)
   exact ⟨(i+1,HT.1,_,_),by dsimp only;omega,⟨by dsimp only;omega,⟨hH1,hA1 _⟩,hgo⟩,by dsimp only;omega,rfl,rfl⟩
  ·rw[List.drop_eq_nil_of_le (by assumption),zdi]at hgo
   have hln:=hg.len (.sl 4 (ws.map Way.c)) hx.1 hx.2
   have hsg:=hg.sg (.sl 4 (ws.map Way.c)) hx.1 hx.2
   have hov:=hg.ov (.sl 4 (ws.map Way.c)) (.sl 4 (ws.map Way.c)) hx.1 hx.2 hx.1 hx.2
   have hba:=hba H A
   have hsn:=hg.sn H A (ws.map Way.c)
   (have hX:=zA @hbd (zA @hln (zA @hsg (zA @hov @hba)));(repeat' first|refine zaa [0,1,2,3,4,5,6,7,9,10,11,34,43,45,46,47,48,58,59,60,61] fun K hK=>?_|(refine hK.go ?_;clear hK K)|with_reducible exact wT|refine wA ?_|(refine wB (fun h=>?_) (fun h=>?_)<;>first|exact wN h|subst (h:(_:Bool)=_)|skip)|(refine wQ ?_;clear hQ hR hE hM)|fail);all_goals clear hX)
   refine hQ _ _ _ (zkl rfl rfl hln hsg rfl rfl) ?_
   simp only[zeZ,zca,zdZ,zfu,sn_b,hsn]
   rw[←hgo]
end Go.Lev
namespace Go.Lev
open Go.Eng
set_option maxRecDepth 10000
set_option maxHeartbeats 4000000
variable {P:Program} {inv:Nat→Option Nat} {w0:World} {M:Nat→Prop}
def zaQ (p:Pln) (s:State):List Int×List Int×Bool:=zdi (zaV p) (zf8 [] s.switches) 0 s.locks zdd zdd true
theorem zid (ws:List WayR) (C:List (Int×Int)):∀ (l:List Lock) (i:Nat) (H A:List Int) (t:Bool),(zdi ws C i l H A t).1.length=H.length∧(zdi ws C i l H A t).2.1.length=A.length
 |[],_,_,_,_=>⟨rfl,rfl⟩
 |l::r,i,H,A,t=>by
  rw[zdi]
  have:=zid ws C r (i+1) (zbN l.id (zbk (nth ws i) l) H t).1 (zd7 l C (zbG (nth ws i) l) A (zbN l.id (zbk (nth ws i) l) H t).2).1 (zd7 l C (zbG (nth ws i) l) A (zbN l.id (zbk (nth ws i) l) H t).2).2
  rw[zfT,zf5]at this
  exact this
def zac (p:Pln) (s:State):Int:=if za3 p=true then (if zaj p s=true∧(zaQ p s).2.2=true then 0 else 8) else 100
structure GripR where
 hold:List Int
 ask:List Int
 ways:List WayR
 err:Int
def ofR (p:Pln) (s:State):GripR:=if zac p s=0 then ⟨(zaQ p s).1,(zaQ p s).2.1,zaV p,0⟩ else ⟨zdd,zdd,[],zac p s⟩
theorem zj3 (p:Pln) (s:State):(ofR p s).hold.length=100∧(ofR p s).ask.length=100:=by
 unfold ofR
 split
 ·have:=zid (zaV p) (zf8 [] s.switches) s.locks 0 zdd zdd true
  exact ⟨this.1.trans zbD,this.2.trans zbD⟩
 ·exact ⟨zbD,zbD⟩
theorem zmu (p:Pln) (s:State):(ofR p s).err=zac p s:=by
 unfold ofR
 split
 ·rename_i h;exact h.symm
 ·rfl
def SmS (s:State):Prop:=s.tracks.length≤1000∧s.switches.length≤1000∧s.locks.length≤1000
theorem zkk {φ:AF} {σ:AS} {t u l:Nat} {g:List AV} {e:AV} {r:Bool} {n:Int} (h1:zbx φ t=.ptr l 201 0) (h2:zaF σ l=some (.cells g r)) (h3:g.length=201) (hs:List.take 201 g=g) (h4:zbx φ u=e) (h5:e=.n n):zd3 φ σ [.cell t (some 201),.tmp u]=some (.tup [.agg g,.n n]):=by
 have h:zc3 g 0 (some 201)=some (.agg g):=by
  rw[al_s,if_pos (by omega),seg,List.drop_zero,hs]
 subst h5
 simp only[zd3,ziF,ares,h1,h4,zc4,h2,h,h3,if_true]
theorem of_pc (hH:HasAll P inv) (hI:HasIds P inv) (p:Pln) (hp:Sm p) (s:State) (hs:SmS s):PC P inv 79 [.agg p.c,.agg s.c] (·=.tup [.agg (gc (ofR p s).hold (ofR p s).ask (.sl 4 ((ofR p s).ways.map Way.c))),.n (ofR p s).err]):=by
 have c0:=zfr hH hI p hp
 have hRl:=zj3 p s
 have c1:za3 p=true→PC P inv 93 [.agg p.c,.agg s.c] (·=.tup [.agg (gc (if zaj p s=true then (zaQ p s).1 else zdd) (if zaj p s=true then (zaQ p s).2.1 else zdd) (.sl 4 ((if zaj p s=true then zaV p else []).map Way.c))),.b (zaj p s&&(zaQ p s).2.2)]):=by
  intro ho
  cases hb:zaj p s with
  |true=>simpa [zaQ] using grip_ok hH hI p hp s hs ho hb
  |false =>
   simp only[za3,Bool.and_eq_true]at ho
   simpa using grip_bad hH hI p hp s hs (zgR ho.1) hb
 have hgl:=zid (zaV p) (zf8 [] s.switches) s.locks 0 zdd zdd true
 have hl1:(if zaj p s=true then (zaQ p s).1 else zdd).length=100:=by
  split
  ·exact hgl.1.trans zbD
  ·exact zbD
 have hl2:(if zaj p s=true then (zaQ p s).2.1 else zdd).length=100:=by
  split
  ·exact hgl.2.trans zbD
  ·exact zbD
 have hR:ofR p s=if za3 p=true then (if (zaj p s&&(zaQ p s).2.2)=true then ⟨(if zaj p s=true then (zaQ p s).1 else zdd),(if zaj p s=true then (zaQ p s).2.1 else zdd),(if zaj p s=true then zaV p else []),0⟩ else ⟨zdd,zdd,[],8⟩) else ⟨zdd,zdd,[],100⟩:=by
  unfold ofR zac
  cases za3 p<;>cases zaj p s<;>cases (zaQ p s).2.2<;>rfl
 clear hgl
 unfold zec at c0
 revert hR c1 hl1 hl2 c0 hRl
 generalize ofR p s=R
 generalize (if zaj p s=true then (zaQ p s).1 else zdd)=H
 generalize (if zaj p s=true then (zaQ p s).2.1 else zdd)=A
 generalize (if zaj p s=true then zaV p else [])=ws
 generalize (zaj p s&&(zaQ p s).2.2)=t
 generalize za3 p=o
 obtain ⟨G,Z,hg⟩:=GC.ex
 rw[←hg.eq,←hg.z]
 intro c0 hRl c1 hl1 hl2 hR
 have hfold:=hg.fold
 have hlen0:=hg.len (.s0 4) hg.zl hg.zl
 have hlen:=hg.len (.sl 4 (ws.map Way.c)) hl1 hl2
 have hsg0:=hg.sg (.s0 4) hg.zl hg.zl
 have hsg:=hg.sg (.sl 4 (ws.map Way.c)) hl1 hl2
 have hov0:=hg.ov (.s0 4) (.s0 4) hg.zl hg.zl hg.zl hg.zl
 have hov:=hg.ov (.s0 4) (.sl 4 (ws.map Way.c)) hg.zl hg.zl hl1 hl2
 have hbd0:=hg.bd0 Z Z
 have hba0:=hg.ba0 Z Z
 have hbd:=hg.bd H A (ws.map Way.c)
 have hba:=hg.ba H A (ws.map Way.c)
 have hsn0:=hg.sn0 Z Z
 have hsn:=hg.sn H A (ws.map Way.c)
 cases o with
 |false =>
  rw[if_neg (by simp)]at hR c0
  subst hR
  refine PC.fn hH cd79 fun w0 M Q hM hE hQ hR=>?_;dsimp only[cd79,qm,ql,qf,qi,qb,qc,qp,qv,qN,qT,qF,qt]at hQ ⊢
  (have hX:=zA @hfold (zA @hlen0 (zA @hsg0 (zA @hov0 (zA @hbd0 @hba0))));(repeat' first|refine zaa [0,1,2,3,4,5,6,7,8,12,22] fun K hK=>?_|(refine hK.go ?_;clear hK K)|with_reducible exact wT|refine wA ?_|(refine wB (fun h=>?_) (fun h=>?_)<;>first|exact wN h|subst (h:(_:Bool)=_)|skip)|(refine wQ ?_;clear hQ hR hE hM)|refine wC c0 ?_|fail);all_goals clear hX)
  all_goals first|(exfalso;contradiction)|skip
  all_goals (refine hQ _ _ _ (zkk rfl rfl hlen0 hsg0 rfl rfl) ?_;simp only[zeZ,zca,zdZ,zfu,sn_i,hsn0];rfl)
 |true =>
  rw[if_pos rfl]at hR c0
  have c1:=c1 rfl
  cases t with
  |false =>
   rw[if_neg (by simp)]at hR
   subst hR
   refine PC.fn hH cd79 fun w0 M Q hM hE hQ hR=>?_;dsimp only[cd79,qm,ql,qf,qi,qb,qc,qp,qv,qN,qT,qF,qt]at hQ ⊢
   (have hX:=zA @hfold (zA @hlen0 (zA @hsg0 (zA @hov0 (zA @hbd0 (zA @hba0 (zA @hlen (zA @hov (zA @hbd @hba))))))));(repeat' first|refine zaa [0,1,2,3,4,5,6,7,8,12,22] fun K hK=>?_|(refine hK.go ?_;clear hK K)|with_reducible exact wT|refine wA ?_|(refine wB (fun h=>?_) (fun h=>?_)<;>first|exact wN h|subst (h:(_:Bool)=_)|skip)|(refine wQ ?_;clear hQ hR hE hM)|refine wC c0 ?_|refine wC c1 ?_|fail);all_goals clear hX)
   all_goals first|(exfalso;contradiction)|skip
   all_goals (refine hQ _ _ _ (zkk rfl rfl hlen0 hsg0 rfl rfl) ?_;simp only[zeZ,zca,zdZ,zfu,sn_i,hsn0];rfl)
  |true =>
   rw[if_pos rfl]at hR
   subst hR
   refine PC.fn hH cd79 fun w0 M Q hM hE hQ hR=>?_;dsimp only[cd79,qm,ql,qf,qi,qb,qc,qp,qv,qN,qT,qF,qt]at hQ ⊢
   (have hX:=zA @hfold (zA @hlen0 (zA @hsg0 (zA @hov0 (zA @hbd0 (zA @hba0 (zA @hlen (zA @hov (zA @hbd (zA @hba @hsg)))))))));(repeat' first|refine zaa [0,1,2,3,4,5,6,7,8,12,22] fun K hK=>?_|(refine hK.go ?_;clear hK K)|with_reducible exact wT|refine wA ?_|(refine wB (fun h=>?_) (fun h=>?_)<;>first|exact wN h|subst (h:(_:Bool)=_)|skip)|(refine wQ ?_;clear hQ hR hE hM)|refine wC c0 ?_|refine wC c1 ?_|fail);all_goals clear hX)
   all_goals first|(exfalso;contradiction)|skip
   all_goals (refine hQ _ _ _ (zkk rfl rfl hlen hsg rfl rfl) ?_;simp only[zeZ,zca,zdZ,zfu,sn_i,hsn])
end Go.Lev
