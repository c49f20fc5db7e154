/-
  Contracts of functions. Conditions: those that each theorem names.
-/
import Derived.Test.YtjfongdncghjmaaGreatL6
import Derived.Test.YtjfongdncghjmaaGreatL8
set_option linter.unusedSimpArgs false
set_option linter.unusedVariables false
set_option linter.unusedSectionVars false
namespace Go.Lev
open Go.Eng
set_option maxRecDepth 10000
set_option maxHeartbeats 4000000
variable {P:Program} {inv:Nat->Option Nat} {w0:World} {M:Nat->Prop}
abbrev WayR:=Go.Eng.Way
def zkK (x:Sgn):Join->List Section->Join
 |j,[]=>j
 |j,s::r=>zkK x (if s.id=x.sec then nth s.ends x.ed.toNat else j) r
def zeB (p:Pln) (r:Rte) (y:Sgn) (all:List Int) (i:Nat) (s:Int) (w:Wk):Wk :=
 if (i:Int)=(r.path.length:Int)-1/\r.exit=0 then zaL p w s i fun _ j=>decide (j=⟨0,0⟩)
 else if (i:Int)=(r.path.length:Int)-1 then zaL p w s i fun e _=>decide (s=y.sec)&&decide (e=y.ed)
 else if (i:Int)=(all.length:Int)-1 then zet p w s i
 else zaL p w s i fun _ j=>decide (j.to=nth all (i+1))
def zbS (p:Pln) (r:Rte) (y:Sgn) (all:List Int):Nat->Wk->List Int->Wk
 |_,w,[]=>w
 |i,w,s::l=>zbS p r y all (i+1) (zeB p r y all i s w) l
def zgZ:List AskR->List Flk->List AskR
 |l,[]=>l
 |l,f::r=>zgZ (zjj f.pnt f.lie (-1) l) r
def zhM (p:Pln) (r:Rte):Wk:=zbS p r (sig p r.exit) (r.path++r.over) 0 ⟨zkK (sig p r.entry) ⟨0,0⟩ p.sections,[],[],false⟩ (r.path++r.over)
def zao (p:Pln) (r:Rte):WayR×List Join×Int :=
 if (zhM p r).lost=true then (⟨[],[],[],0⟩,[],90) else (⟨r.path,r.over,zgZ (zhM p r).asks r.flanks,(sig p r.entry).sec⟩,(zhM p r).outs,0)
theorem zk5 (a b c:Int) (l:List AskR):(zjj a b c l).length<=l.length+1:=by unfold zjj;split<;>simp
theorem zdx (p:Pln) (w:Wk) (s i:Int) (R:Int->Join->Bool):(zaL p w s i R).asks.length<=w.asks.length+1/\(zaL p w s i R).outs.length<=w.outs.length+1:=by
 unfold zaL;split
 ·omega
 ·split
  ·dsimp only;omega
  ·split
   ·dsimp only;omega
   ·refine ⟨zk5 _ _ _ _,by simp⟩
theorem zle (p:Pln) (w:Wk) (s i:Int):(zet p w s i).asks.length<=w.asks.length+1/\(zet p w s i).outs.length<=w.outs.length+1:=by
 unfold zet;split
 ·dsimp only;omega
 ·split
  ·refine ⟨zk5 _ _ _ _,by simp⟩
  ·omega
def znw (p:Pln) (r:Rte):Prop:=∀ s∈p.sections,s.id=(sig p r.entry).sec->0<=(sig p r.entry).ed/\(sig p r.entry).ed<s.ends.length
theorem dropRow {n N:Nat} {φ:List (Nat×AV)} {σ:List (Nat×AO)} {c:ACode} {Q:Exit->List (Nat×AV)->List (Nat×AO)->Prop} (l:Nat) (h:AWp P inv w0 M N n c Q φ (zfp σ l)):AWp P inv w0 M N n c Q φ σ:=by
 have hsd:∀ l' o,zah (zfp σ l) l'=some o->zah σ l'=some o:=by
  intro l' o e;rw[zeD]at e;split at e
  ·cases e
  ·exact e
 intro c₀ hc β a w hs;have hd:=fun N=>hs.mem.drop hsd N
 have hs':St inv w0 M n φ (zfp σ l) β a w:=⟨⟨fun i=>(hd (zaM φ)).2.rel (zaK _ (zbO φ i)) (hs.slots i),(hd 0).1⟩,hs.size,hs.defers⟩
 exact Code.wp_mono (fun _ _ _ ⟨φ2,σ2,β2,q2,hst2,hext2⟩=>⟨φ2,σ2,β2,q2,hst2,(hd N).2.trans hext2⟩) (h c₀ hc β a w hs')
theorem zne (hH:HasAll P inv) (p:Pln) (hp:Sm p) (r:Rte) (hr:r.path.length<=1000/\r.over.length<=1000/\r.flanks.length<=1000) (he:znw p r):PC P inv 90 [.agg p.c,.agg r.c] (·=.tup [.agg (zao p r).1.c,.sl 2 ((zao p r).2.1.map Join.c),.n (zao p r).2.2]):=by
 have c1:=zli hH p hp r.entry;have c2:=zli hH p hp r.exit;have c3:=zl8 hH [r.path,r.over] (by simp) (by simp[lens];omega)
 have hl:=hp.sec;have hall:∃ all,all=r.path++r.over:=⟨_,rfl⟩;obtain ⟨all,hall⟩:=hall;have hal:all.length<=2000/\r.path.length<=all.length:=by rw[hall];simp;omega
 rw[show [r.path,r.over].flatten=all by rw[hall];simp]at c3
 obtain ⟨ans,ha⟩:∃ ans,ans=zao p r:=⟨_,rfl⟩;rw[<-ha];unfold zao zhM at ha;rw[<-hall]at ha;unfold znw at he;revert ha he c1 c2;generalize sig p r.entry=x;generalize sig p r.exit=y;intro he c1 c2 ha;refine wf hH cd90 fun w0 M Q hM hE hQ hR=>?_;refine wq ?_
 (repeat' first|refine zaa kI fun K hK=>?_|exact wt|refine wA ?_|(refine wB ?_ ?_<;>intro h<;>first|exact wN h|subst (h:(_:Bool)=_)|skip)|(refine wQ ?_;clear hQ hR hE hM)|refine wU c1 ?_|refine wU c2 ?_|fail)
 refine zaj (ι:=Nat×Join) [3,4,5,6,7,8,9,29,30,31] (fun z=>[(31,.n z.1)]) (fun z=>[(5,.cells [.n p.version,.n p.parent,.sl 3 (p.sections.map Section.c),.sl 2 (p.points.map Pnt.c),.sl 3 (p.signals.map Sgn.c),.sl 7 (p.routes.map Rte.c),.n z.2.to,.n z.2.ed,.s0 3,.s0 2,.b false] true)]) (fun z=>z.1) (p.sections.length) (fun z=>(zkK x z.2 (p.sections.drop z.1)=zkK x ⟨0,0⟩ p.sections)) (0,(⟨0,0⟩:Join)) ?_;rintro ⟨k,j⟩ ⟨hk,hg⟩;(try dsimp only at hk hg |-);rcases Nat.lt_or_ge k p.sections.length with hlt|hge
 ·rw[zae hlt]at hg
  rw[zkK]at hg;have hx:=he _ (zac hlt);by_cases hid:(nth p.sections k).id=x.sec
  ·have hx':=hx hid
   rw[if_pos hid]at hg
   (repeat' first|refine zaa kI fun K hK=>?_|exact wt|refine wA ?_|(refine wB ?_ ?_<;>intro h<;>first|exact wN h|subst (h:(_:Bool)=_)|skip)|(refine wQ ?_;clear hQ hR hE hM)|fail)
   exact nY (k+1,nth (nth p.sections k).ends x.ed.toNat) ⟨by (try dsimp only);omega,hg⟩
  ·rw[if_neg hid]at hg
   (repeat' first|refine zaa kI fun K hK=>?_|exact wt|refine wA ?_|(refine wB ?_ ?_<;>intro h<;>first|exact wN h|subst (h:(_:Bool)=_)|skip)|(refine wQ ?_;clear hQ hR hE hM)|fail)
   exact nY (k+1,j) ⟨by (try dsimp only);omega,hg⟩
 ·rw[List.drop_eq_nil_of_le hge,zkK]at hg
  subst hg
  (repeat' first|refine zaa kI fun K hK=>?_|exact wt|refine wA ?_|(refine wB ?_ ?_<;>intro h<;>first|exact wN h|subst (h:(_:Bool)=_)|skip)|(refine wQ ?_;clear hQ hR hE hM)|refine wC c3 ?_|fail)
  refine zde 5 8 20 3 rfl rfl (by omega) (by (refine wD ?_;try exact wt)) (by (refine wD ?_;try exact wt)) ?_
  refine zde 5 9 21 2 rfl rfl (by omega) (by (refine wD ?_;try exact wt)) (by (refine wD ?_;try exact wt)) ?_
  refine dropRow 0 ?_
  (refine wD ?_;try exact wt)
  generalize hw0:(⟨zkK x ⟨0,0⟩ p.sections,[],[],false⟩:Wk)=W0 at ha;have e0:W0.asks=[]/\W0.outs=[]/\W0.lost=false/\W0.inn=zkK x ⟨0,0⟩ p.sections:=by rw[<-hw0];simp
  rw[<-e0.2.2.2];clear hw0;obtain ⟨inn0,as0,os0,l0⟩:=W0;dsimp only at e0;obtain ⟨rfl,rfl,rfl,e0⟩:=e0;clear e0;refine zaj (ι:=Nat×Wk×Bool×Bool) [3,4,5,6,7,8,9,12,56,57,58] (fun z=>[(58,.n z.1)]) (fun z=>[(5,.cells (z.2.1.c p) true),(20,.cells (z.2.1.asks.map AskR.c).flatten z.2.2.1),(21,.cells (z.2.1.outs.map Join.c).flatten z.2.2.2)]) (fun z=>z.1) (all.length) (fun z=>(zbS p r y all z.1 z.2.1 (all.drop z.1)=zbS p r y all 0 ⟨inn0,[],[],false⟩ all)/\(z.2.1.asks.length<=z.1/\z.2.1.outs.length<=z.1)) (0,(⟨inn0,[],[],false⟩:Wk),false,false) ?_;rintro ⟨k,w,ba,bo⟩ ⟨hk,hg,hx⟩;(try dsimp only at hk hg hx |-);rcases Nat.lt_or_ge k all.length with hlt|hge
  ·rw[zae hlt]at hg
   rw[zbS,zeB]at hg;have hx1:w.asks.length<=1000000:=by omega
   have hx2:w.outs.length<=1000000:=by omega
   by_cases hk1:(k:Int)=(r.path.length:Int)-1
   ·by_cases hk2:r.exit=0
    ·rw[if_pos ⟨hk1,hk2⟩]at hg
     have hlen:=zdx p w (nth all k) k (fun _ j=>decide (j=⟨0,0⟩))
     (have hX:=@stW.eq_1;(repeat' first|refine zaa kI fun K hK=>?_|exact wt|refine wA ?_|(refine wB ?_ ?_<;>intro h<;>first|exact wN h|subst (h:(_:Bool)=_)|skip)|(refine wQ ?_;clear hQ hR hE hM)|(refine wJ 30 (zmu hH hM p hp r x y w all (k:Int) (nth all k) ba bo hx1 hx2) ?_;try refine wD ?_)|fail);all_goals clear hX)
     generalize (zaL p w (nth all k) k (fun _ j=>decide (j=⟨0,0⟩)))=W' at hg hlen |-
     exact ⟨(k+1,W',_,_),by dsimp only;omega,⟨by dsimp only;omega,hg,by dsimp only;omega⟩,by dsimp only;omega,rfl,rfl,rfl⟩
    ·rw[if_neg (fun h=>hk2 h.2),if_pos hk1]at hg
     have hlen:=zdx p w (nth all k) k (fun e _=>decide (nth all k=y.sec)&&decide (e=y.ed))
     (have hX:=@stW.eq_1;(repeat' first|refine zaa kI fun K hK=>?_|exact wt|refine wA ?_|(refine wB ?_ ?_<;>intro h<;>first|exact wN h|subst (h:(_:Bool)=_)|skip)|(refine wQ ?_;clear hQ hR hE hM)|(refine wJ 30 (zmt hH hM p hp r x y w all (k:Int) (nth all k) ba bo hx1 hx2) ?_;try refine wD ?_)|fail);all_goals clear hX)
     generalize (zaL p w (nth all k) k (fun e _=>decide (nth all k=y.sec)&&decide (e=y.ed)))=W' at hg hlen |-
     exact ⟨(k+1,W',_,_),by dsimp only;omega,⟨by dsimp only;omega,hg,by dsimp only;omega⟩,by dsimp only;omega,rfl,rfl,rfl⟩
   ·by_cases hk3:(k:Int)=(all.length:Int)-1
    ·rw[if_neg (fun h=>hk1 h.1),if_neg hk1,if_pos hk3]at hg
     have hlen:=zle p w (nth all k) k;(have hX:=@stW.eq_1;(repeat' first|refine zaa kI fun K hK=>?_|exact wt|refine wA ?_|(refine wB ?_ ?_<;>intro h<;>first|exact wN h|subst (h:(_:Bool)=_)|skip)|(refine wQ ?_;clear hQ hR hE hM)|(refine wJ 30 (stay_ac hH hM p hp r x y w all (k:Int) (nth all k) ba bo hx1) ?_;try refine wD ?_)|fail);all_goals clear hX)
     generalize (zet p w (nth all k) k)=W' at hg hlen |-
     exact ⟨(k+1,W',_,_),by dsimp only;omega,⟨by dsimp only;omega,hg,by dsimp only;omega⟩,by dsimp only;omega,rfl,rfl,rfl⟩
    ·rw[if_neg (fun h=>hk1 h.1),if_neg hk1,if_neg hk3]at hg
     have hlen:=zdx p w (nth all k) k (fun _ j=>decide (j.to=nth all (k+1)))
     (have hX:=@stW.eq_1;(repeat' first|refine zaa kI fun K hK=>?_|exact wt|refine wA ?_|(refine wB ?_ ?_<;>intro h<;>first|exact wN h|subst (h:(_:Bool)=_)|skip)|(refine wQ ?_;clear hQ hR hE hM)|(refine wJ 30 (zms hH hM p hp r x y w all k (nth all k) ba bo hx1 hx2 (by omega) (by omega)) ?_;try refine wD ?_)|fail);all_goals clear hX)
     generalize (zaL p w (nth all k) k (fun _ j=>decide (j.to=nth all (k+1))))=W' at hg hlen |-
     exact ⟨(k+1,W',_,_),by dsimp only;omega,⟨by dsimp only;omega,hg,by dsimp only;omega⟩,by dsimp only;omega,rfl,rfl,rfl⟩
  ·rw[List.drop_eq_nil_of_le hge,zbS]at hg
   rw[<-hg]at ha;clear hg;obtain ⟨inn,asks,outs,lost⟩:=w;dsimp only at ha hx |-
   cases lost with
   |true =>
    rw[if_pos rfl]at ha;subst ha
    (repeat' first|refine zaa kI fun K hK=>?_|exact wt|refine wA ?_|(refine wB ?_ ?_<;>intro h<;>first|exact wN h|subst (h:(_:Bool)=_)|skip)|(refine wQ ?_;clear hQ hR hE hM)|fail)
    all_goals first|(exfalso;contradiction)|skip
   |false =>
    rw[if_neg (by simp)]at ha
    (repeat' first|refine zaa kI fun K hK=>?_|exact wt|refine wA ?_|(refine wB ?_ ?_<;>intro h<;>first|exact wN h|subst (h:(_:Bool)=_)|skip)|(refine wQ ?_;clear hQ hR hE hM)|fail)
    all_goals first|(exfalso;contradiction)|skip
    skip
    refine zaj (ι:=Nat×(List AskR)×Bool) [3,4,5,6,7,9,113,114,115] (fun z=>[(115,.n z.1)]) (fun z=>[(5,.cells (Wk.c p ⟨inn,z.2.1,outs,false⟩) true),(20,.cells (z.2.1.map AskR.c).flatten z.2.2)]) (fun z=>z.1) (r.flanks.length) (fun z=>(zgZ z.2.1 (r.flanks.drop z.1)=zgZ asks r.flanks)/\(z.2.1.length<=2000+z.1)) (0,asks,ba) ?_;rintro ⟨k2,l,b2⟩ ⟨hk,hg,hx2⟩;(try dsimp only at hk hg hx2 |-);rcases Nat.lt_or_ge k2 r.flanks.length with hlt|hge
    ·rw[zae (by assumption),zgZ,zjj]at hg
     (repeat' first|refine zaa kI fun K hK=>?_|exact wt|refine wA ?_|(refine wB ?_ ?_<;>intro h<;>first|exact wN h|subst (h:(_:Bool)=_)|skip)|(refine wQ ?_;clear hQ hR)|(refine wI hH cd107 40 fun Q hQ hR=>?_;refine wq ?_;try refine wD ?_)|fail)
     ·rw[if_pos ⟨by assumption,by assumption⟩]at hg
      exact nY (k2+1,l++[⟨(nth r.flanks k2).pnt,(nth r.flanks k2).lie,-1⟩],true) ⟨by (try dsimp only);omega,hg,by (try dsimp only);simp;omega⟩
     all_goals (first|rw[if_neg (fun hh=>absurd hh.2 (by assumption))]at hg|rw[if_neg (fun hh=>absurd hh.1 (by assumption))]at hg)
     all_goals (exact nY (k2+1,l,b2) ⟨by (try dsimp only);omega,hg,by (try dsimp only);omega⟩)
    ·rw[List.drop_eq_nil_of_le (by assumption),zgZ]at hg
     (repeat' first|refine zaa kI fun K hK=>?_|exact wt|refine wA ?_|(refine wB ?_ ?_<;>intro h<;>first|exact wN h|subst (h:(_:Bool)=_)|skip)|(refine wQ ?_;clear hQ hR)|(refine zak hM (zdo hH r.path (by omega)) ?_;try refine wD ?_)|(refine zak hM (zdo hH r.over (by omega)) ?_;try refine wD ?_)|fail)
     rw[ha,<-hg]
structure OkP (p:Pln):Prop where
 sec:zbR p.sections=true
 pts:points p=true
 sgn:signals p (ends p.sections)=true
 rise:rise (p.routes.map Rte.id) 16=true
 rte:∀ r∈p.routes,zc0 p r (ends p.sections)=true
theorem zfx {p:Pln} (h:zbx p=true):OkP p:=by
 simp only[zbx,Bool.and_eq_true,List.all_eq_true]at h;exact ⟨h.1.2.2.2.2,h.2.1,h.2.2.1,h.2.2.2.1,h.2.2.2.2⟩
theorem zj6 (n:Int):∀ (l:List Sgn) (o:Sgn),zoW n o l=o\/zoW n o l∈l
 |[],o=>.inl rfl
 |x::r,o=>by
  rw[zoW];split
  ·rcases zj6 n r x with h|h
   ·right;rw[h];simp
   ·right;simp[h]
  ·rcases zj6 n r o with h|h
   ·left;exact h
   ·right;simp[h]
theorem zjF {p:Pln} (h:OkP p) (r:Rte):znw p r:=by
 intro s hs he;have h1:=zaP h.sec s hs;rcases zj6 r.entry p.signals Sgn.z with h2|h2
 ·have:sig p r.entry=Sgn.z:=h2
  rw[this]at he;have:Sgn.z.sec=0:=rfl;omega
 ·have h3:sig p r.entry∈p.signals:=h2
  have h4:=h.sgn;simp only[signals,Bool.and_eq_true]at h4;have h5:=zhU _ _ _ h4.2 _ h3;rw[<-he,ziP h.sec hs]at h5;exact h5.2
theorem zeP {p:Pln} (h:OkP p) {r:Rte} (hr:r∈p.routes):1<=r.path.length/\r.path.length<=6/\r.over.length<=2/\r.flanks.length<=3:=by
 have h1:=h.rte r hr;simp only[zc0,zfH,Bool.and_eq_true,Bool.not_eq_true',decide_eq_false_iff_not]at h1;omega
def WayR.z:WayR:=⟨[],[],[],0⟩
def ofW (p:Pln) (n:Int):WayR×Int:=if zbx p=true then (match p.routes.find? fun x=>decide (x.id=n) with|some r=>((zao p r).1,(zao p r).2.2)|none=>(WayR.z,6)) else (WayR.z,8)
theorem znB (hH:HasAll P inv) (p:Pln) (hp:Sm p) (h:OkP p) {r:Rte} (hr:r∈p.routes):PC P inv 90 [.agg p.c,.agg r.c] (·=.tup [.agg (zao p r).1.c,.sl 2 ((zao p r).2.1.map Join.c),.n (zao p r).2.2]) :=
 zne hH p hp r (by have:=zeP h hr;omega) (zjF h r)
theorem zk9 (hH:HasAll P inv) (hI:HasIds P inv) (p:Pln) (hp:Sm p) (n:Int):PC P inv 76 [.agg p.c,.n n] (·=.tup [.agg (ofW p n).1.c,.n (ofW p n).2]):=by
 have c0:=zhi hH hI p hp n;unfold ofW;cases ho:zbx p with
 |false =>
  rw[if_neg (by simp)]
  rw[show zdJ p n=(Rte.z,8) by simp[zdJ,ho]]at c0
  refine wf hH cd76 fun w0 M Q hM hE hQ hR=>?_;refine wq ?_
  (repeat' first|refine zaa yw fun K hK=>?_|exact wt|refine wA ?_|(refine wB ?_ ?_<;>intro h<;>first|exact wN h|subst (h:(_:Bool)=_)|skip)|(refine wQ ?_;clear hQ hR hE hM)|refine wC c0 ?_|fail)
  all_goals first|rfl|(exfalso;contradiction)
 |true =>
  rw[if_pos rfl];unfold zdJ at c0;rw[if_pos ho]at c0;cases hf:(p.routes.find? fun x=>decide (x.id=n)) with
  |none =>
   rw[hf]at c0;dsimp only at c0 |-
   refine wf hH cd76 fun w0 M Q hM hE hQ hR=>?_;refine wq ?_
   (repeat' first|refine zaa yw fun K hK=>?_|exact wt|refine wA ?_|(refine wB ?_ ?_<;>intro h<;>first|exact wN h|subst (h:(_:Bool)=_)|skip)|(refine wQ ?_;clear hQ hR hE hM)|refine wC c0 ?_|fail)
   all_goals first|rfl|(exfalso;contradiction)
  |some r =>
   rw[hf]at c0;dsimp only at c0 |-
   have c1:=znB hH p hp (zfx ho) (zd6 hf).1;generalize zao p r=W at c1 |-
   refine wf hH cd76 fun w0 M Q hM hE hQ hR=>?_;refine wq ?_
   (repeat' first|refine zaa yw fun K hK=>?_|exact wt|refine wA ?_|(refine wB ?_ ?_<;>intro h<;>first|exact wN h|subst (h:(_:Bool)=_)|skip)|(refine wQ ?_;clear hQ hR hE hM)|refine wC c0 ?_|refine wC c1 ?_|fail)
def jls (l:List Join):List AV:=[.sl 2 (l.map Join.c)]
instance:Cells jls 1:=⟨fun _=>rfl,fun _=>rfl⟩
def allG (p:Pln):List Rte->List WayR->List (List Join)->List WayR×List (List Join)×Int
 |[],ws,os=>(ws,os,0)
 |r::l,ws,os=>if (zao p r).2.2=0 then allG p l (ws++[(zao p r).1]) (os++[(zao p r).2.1]) else ([],[],(zao p r).2.2)
def allW (p:Pln):List WayR×List (List Join)×Int:=if zbx p=true then allG p p.routes [] [] else ([],[],8)
theorem all_pc (hH:HasAll P inv) (hI:HasIds P inv) (p:Pln) (hp:Sm p):PC P inv 82 [.agg p.c] (·=.tup [.sl 4 ((allW p).1.map Way.c),.sl 1 ((allW p).2.1.map jls),.n (allW p).2.2]):=by
 have hlr:=hp.rte;have c0:=zeN hH hI p hp;unfold allW zci at *;cases ho:zbx p with
 |false =>
  rw[ho,if_neg (by simp)]at c0
  rw[if_neg (by simp)]
  refine wf hH cd82 fun w0 M Q hM hE hQ hR=>?_;refine wq ?_
  (repeat' first|refine zaa yV fun K hK=>?_|exact wt|refine wA ?_|(refine wB ?_ ?_<;>intro h<;>first|exact wN h|subst (h:(_:Bool)=_)|skip)|(refine wQ ?_;clear hQ hR hE hM)|refine wC c0 ?_|fail)
 |true =>
  rw[ho,if_pos rfl]at c0;rw[if_pos rfl];have hok:=zfx ho;clear ho;obtain ⟨ans,ha⟩:∃ ans,ans=allG p p.routes [] []:=⟨_,rfl⟩;rw[<-ha];refine wf hH cd82 fun w0 M Q hM hE hQ hR=>?_;refine wq ?_
  (repeat' first|refine zaa yV fun K hK=>?_|exact wt|refine wA ?_|(refine wB ?_ ?_<;>intro h<;>first|exact wN h|subst (h:(_:Bool)=_)|skip)|(refine wQ ?_;clear hQ hR hE hM)|refine wC c0 ?_|fail)
  refine AWp.empty 2 10 4 rfl (Nat.zero_le _) (by (refine wD ?_;try exact wt)) (by (refine wD ?_;try exact wt)) ?_
  refine AWp.empty 3 11 1 rfl (Nat.zero_le _) (by (refine wD ?_;try exact wt)) (by (refine wD ?_;try exact wt)) ?_
  refine zaj (ι:=Nat×(List WayR)×(List (List Join))×Bool×Bool) [1,2,3,4,15,16,17] (fun z=>[(2,.sm 10 (z.2.1.length*4) 0 z.2.1.length 4),(3,.sm 11 z.2.2.1.length 0 z.2.2.1.length 1),(17,.n z.1)]) (fun z=>[(10,.cells (z.2.1.map Way.c).flatten z.2.2.2.1),(11,.cells (z.2.2.1.map jls).flatten z.2.2.2.2)]) (fun z=>z.1) (p.routes.length) (fun z=>(allG p (p.routes.drop z.1) z.2.1 z.2.2.1=ans)/\(z.2.1.length<=z.1/\z.2.2.1.length<=z.1)) (0,[],[],false,false) ?_;rintro ⟨k,ws,os,b1,b2⟩ ⟨hk,hg,hx⟩;(try dsimp only at hk hg hx |-);rcases Nat.lt_or_ge k p.routes.length with hlt|hge
  ·rw[zae hlt]at hg
   rw[allG]at hg;have c1:=znB hH p hp hok (zac hlt);generalize zao p (nth p.routes k)=W at c1 hg
   (repeat' first|refine zaa yV fun K hK=>?_|exact wt|refine wA ?_|(refine wB ?_ ?_<;>intro h<;>first|exact wN h|subst (h:(_:Bool)=_)|skip)|(refine wQ ?_;clear hQ hR hE hM)|refine wC c1 ?_|fail)
   ·rw[if_neg (by assumption)]at hg
    rw[<-hg];rfl
   ·rw[if_pos (by assumption)]at hg
    exact nY (k+1,ws++[W.1],os++[W.2.1],true,true) ⟨by (try dsimp only);omega,hg,by (try dsimp only);simp;omega⟩
  ·rw[List.drop_eq_nil_of_le hge,allG]at hg
   (repeat' first|refine zaa yV fun K hK=>?_|exact wt|refine wA ?_|(refine wB ?_ ?_<;>intro h<;>first|exact wN h|subst (h:(_:Bool)=_)|skip)|(refine wQ ?_;clear hQ hR hE hM)|fail)
   all_goals (rw[<-hg])
theorem zey {p:Pln} {w:Wk} {s i:Int} {R:Int->Join->Bool} (h:(zaL p w s i R).lost=false):w.lost=false/\w.outs.length+1=(zaL p w s i R).outs.length:=by
 unfold zaL at h |-
 split
 ·rename_i h1;rw[if_pos h1,h1]at h;cases h
 ·rename_i h1
  rw[if_neg h1]at h;split
  ·rename_i h2;rw[h2]at h;cases h
  ·rename_i s' h2
   rw[h2]at h;dsimp only at h;split
   ·rename_i h3;rw[h3]at h;cases h
   ·refine ⟨by simpa using h1,by simp⟩
theorem zp5 {p:Pln} {w:Wk} {s i:Int} (h:(zet p w s i).lost=false):w.lost=false/\w.outs.length=(zet p w s i).outs.length:=by
 unfold zet at h |-
 split
 ·rename_i h2;rw[h2]at h;cases h
 ·rename_i s' h2
  rw[h2]at h;dsimp only at h;split
  ·rename_i h3;exact ⟨h3.1,rfl⟩
  ·rename_i h3;rw[if_neg h3]at h;exact ⟨h,rfl⟩
theorem zp2 {p:Pln} {r:Rte} {y:Sgn} {all:List Int} {i:Nat} {s:Int} {w:Wk} (hl:r.path.length<=all.length) (h:(zeB p r y all i s w).lost=false):w.lost=false/\w.outs.length<=(zeB p r y all i s w).outs.length/\(i<r.path.length->w.outs.length+1<=(zeB p r y all i s w).outs.length):=by
 unfold zeB at h |-
 split
 ·rename_i h1;rw[if_pos h1]at h;have:=zey h;exact ⟨this.1,by omega,fun _=>by omega⟩
 ·rename_i h1
  rw[if_neg h1]at h;split
  ·rename_i h2;rw[if_pos h2]at h;have:=zey h;exact ⟨this.1,by omega,fun _=>by omega⟩
  ·rename_i h2
   rw[if_neg h2]at h;split
   ·rename_i h3;rw[if_pos h3]at h;have:=zp5 h;exact ⟨this.1,by omega,fun _=>by omega⟩
   ·rename_i h3;rw[if_neg h3]at h;have:=zey h;exact ⟨this.1,by omega,fun _=>by omega⟩
theorem zjl {p:Pln} {r:Rte} {y:Sgn} {all:List Int} (hl:r.path.length<=all.length):∀ (l:List Int) (i:Nat) (w:Wk),i+l.length=all.length->(zbS p r y all i w l).lost=false->w.lost=false/\w.outs.length+(r.path.length-i)<=(zbS p r y all i w l).outs.length
 |[],i,w,hi,h=>by
  rw[zbS]at h |-
  simp only[List.length_nil]at hi;exact ⟨h,by omega⟩
 |s::l,i,w,hi,h=>by
  rw[zbS]at h |-
  simp only[List.length_cons]at hi;have h1:=zjl hl l (i+1) _ (by omega) h
  have h2:=zp2 hl h1.1;refine ⟨h2.1, ?_⟩;have h3:=h2.2.2;have h4:=h2.2.1;omega
theorem zoL {p:Pln} {r:Rte} (h:(zao p r).2.2=0):r.path.length<=(zao p r).2.1.length:=by
 unfold zao at h |-
 split
 ·rename_i h1;rw[if_pos h1]at h;cases h
 ·rename_i h1
  have h2:(zhM p r).lost=false:=by simpa using h1
  have:=(zjl (by simp) _ _ _ (by simp) h2).2
  dsimp only at this |-
  unfold zhM;simp only[List.length_nil]at this;omega
theorem zpU (p:Pln) (r:Rte):(zao p r).2.2=0\/(zao p r).2.2=90:=by unfold zao;split<;>simp
theorem zcz {p:Pln} {r:Rte} (h:(zao p r).2.2=0):(zao p r).1.path=r.path/\(zao p r).1.over=r.over/\(zao p r).1.near=(sig p r.entry).sec:=by
 unfold zao at h |-
 split
 ·rename_i h1;rw[if_pos h1]at h;cases h
 ·exact ⟨rfl,rfl,rfl⟩
def zpI (p:Pln) (a:AskR):Prop:=((∃ s∈p.sections,s.pt=a.pnt)\/(∃ x∈p.points,x.id=a.pnt))/\0<a.pnt/\(a.lie=1\/a.lie=2)
theorem znr {p:Pln} {pt lie pos:Int} {l:List AskR} (hl:∀ a∈l,zpI p a) (h:0<pt/\0<lie->((∃ s∈p.sections,s.pt=pt)\/(∃ x∈p.points,x.id=pt))/\(lie=1\/lie=2)):∀ a∈zjj pt lie pos l,zpI p a:=by
 unfold zjj;split
 ·rename_i hc
  intro a ha;rcases List.mem_append.1 ha with ha|ha
  ·exact hl a ha
  ·simp only[List.mem_singleton]at ha
   subst ha;exact ⟨(h hc).1,hc.1,(h hc).2⟩
 ·exact hl
def zlE:List Bool->List AskR->Bool
 |_,[]=>true
 |m,a::r=>!nth m a.pnt.toNat&&zlE (m.set a.pnt.toNat true) r
def once (l:List AskR):Bool:=zlE (List.replicate 100 false) l
theorem once_pc (hH:HasAll P inv) (l:List AskR) (hl:l.length<=1000000) (h:∀ a∈l,0<=a.pnt/\a.pnt<=99):PC P inv 83 [.sl 3 (l.map AskR.c)] (·=.b (once l)):=by
 refine wf hH cd83 fun w0 M Q hM hE hQ hR=>?_;refine wq ?_
 (repeat' first|refine zaa yx fun K hK=>?_|exact wt|refine wA ?_|(refine wB ?_ ?_<;>intro h<;>first|exact wN h|subst (h:(_:Bool)=_)|skip)|(refine wQ ?_;clear hQ hR hE hM)|fail)
 refine zaj (ι:=Nat×(List Bool)) [2,3,6,7,8] (fun z=>[(8,.n z.1)]) (fun z=>[(0,.cells (z.2.map AV.b) true)]) (fun z=>z.1) (l.length) (fun z=>(z.2.length=100)/\(zlE z.2 (l.drop z.1)=once l)) (0,List.replicate 100 false) ?_;rintro ⟨k,m⟩ ⟨hk,hp,hg⟩;(try dsimp only at hk hp hg |-);rcases Nat.lt_or_ge k l.length with hlt|hge
 ·rw[zae hlt]at hg
  rw[zlE]at hg;have hb:=h _ (zac hlt);(have hX:=@hp;(repeat' first|refine zaa yx fun K hK=>?_|exact wt|refine wA ?_|(refine wB ?_ ?_<;>intro h<;>first|exact wN h|subst (h:(_:Bool)=_)|skip)|(refine wQ ?_;clear hQ hR hE hM)|fail);all_goals clear hX)
  ·rw[<-hg];simp[*]
  ·exact nY (k+1,m.set (nth l k).pnt.toNat true) ⟨by (try dsimp only);omega,by (try dsimp only);simp[hp],by (try dsimp only);rw[<-hg];simp[*]⟩
 ·rw[List.drop_eq_nil_of_le hge,zlE]at hg
  (have hX:=@hp;(repeat' first|refine zaa yx fun K hK=>?_|exact wt|refine wA ?_|(refine wB ?_ ?_<;>intro h<;>first|exact wN h|subst (h:(_:Bool)=_)|skip)|(refine wQ ?_;clear hQ hR hE hM)|fail);all_goals clear hX)
  rw[<-hg]
def zhX (r:Rte) (i:Int) (j:Join) (x:Sgn):Bool:=decide (x.sec=j.to)&&(decide (x.ed=j.ed)&&(decide (i<(r.path.length:Int)-1)||!decide (x.id=r.exit)))
def zgx (p:Pln) (r:Rte):Int->List Join->Bool
 |_,[]=>true
 |i,j::l=>!p.signals.any (zhX r i j)&&zgx p r (i+1) l
def zg3 (p:Pln) (r:Rte) (outs:List Join):Bool:=zgx p r 0 (outs.take r.path.length)
theorem clear_pc (hH:HasAll P inv) (p:Pln) (hp:Sm p) (r:Rte) (outs:List Join) (h1:r.path.length<=outs.length) (h2:outs.length<=1000000):PC P inv 84 [.agg p.c,.agg r.c,.sl 2 (outs.map Join.c)] (·=.b (zg3 p r outs)):=by
 have hls:=hp.sgn;obtain ⟨l,hl⟩:∃ l,l=outs.take r.path.length:=⟨_,rfl⟩;have hll:l.length=r.path.length:=by rw[hl];simp;omega
 have hlm:(outs.map Join.c).take r.path.length=l.map Join.c:=by rw[hl,List.map_take]
 unfold zg3;rw[<-hl];clear hl;have hlm':(outs.map Join.c).take (r.path.length:Int).toNat=l.map Join.c:=hlm;refine wf hH cd84 fun w0 M Q hM hE hQ hR=>?_;refine wq ?_
 (have hX:=zA @Int.toNat_natCast (zA @hlm @hlm');(repeat' first|refine zaa yH fun K hK=>?_|exact wt|refine wA ?_|(refine wB ?_ ?_<;>intro h<;>first|exact wN h|subst (h:(_:Bool)=_)|skip)|(refine wQ ?_;clear hQ hR hE hM)|fail);all_goals clear hX)
 refine zaj (ι:=Nat) [3,4,6,15,16,17] (fun z=>[(17,.n z)]) (fun _=>[]) (fun z=>z) (l.length) (fun z=>(zgx p r z (l.drop z)=zgx p r 0 l)) (0) ?_;rintro k ⟨hk,hg⟩;(try dsimp only at hk hg |-);rcases Nat.lt_or_ge k l.length with hlt|hge
 ·rw[zae hlt]at hg
  rw[zgx]at hg;generalize hj:nth l k=j at hg;(have hX:=@hj;(repeat' first|refine zaa yH fun K hK=>?_|exact wt|refine wA ?_|(refine wB ?_ ?_<;>intro h<;>first|exact wN h|subst (h:(_:Bool)=_)|skip)|(refine wQ ?_;clear hQ hR hE hM)|fail);all_goals clear hX)
  refine zaj (ι:=Nat) [3,4,6,7,8,15,16,17,23,24,25] (fun z=>[(25,.n z)]) (fun _=>[]) (fun z=>z) (p.signals.length) (fun z=>(((p.signals.drop z).any (zhX r k j))=p.signals.any (zhX r k j))) (0) ?_;rintro m ⟨hk,hg2⟩;(try dsimp only at hk hg2 |-);rcases Nat.lt_or_ge m p.signals.length with hlt|hge
  ·rw[zae (by assumption),List.any_cons]at hg2
   (repeat' first|refine zaa yH fun K hK=>?_|exact wt|refine wA ?_|(refine wB ?_ ?_<;>intro h<;>first|exact wN h|subst (h:(_:Bool)=_)|skip)|(refine wQ ?_;clear hQ hR hE hM)|fail)
   all_goals first
    |(rw[show zhX r k j (nth p.signals m)=true by simp[zhX, *],Bool.true_or]at hg2;rw[<-hg,<-hg2];rfl)
    |(rw[show zhX r k j (nth p.signals m)=false by simp[zhX, *],Bool.false_or]at hg2;exact ⟨m+1,by omega,⟨by omega,hg2⟩,by omega⟩)
  ·rw[List.drop_eq_nil_of_le (by assumption),List.any_nil]at hg2
   (repeat' first|refine zaa yH fun K hK=>?_|exact wt|refine wA ?_|(refine wB ?_ ?_<;>intro h<;>first|exact wN h|subst (h:(_:Bool)=_)|skip)|(refine wQ ?_;clear hQ hR hE hM)|fail)
   rw[<-hg2,Bool.not_false,Bool.true_and]at hg;exact ⟨k+1,by omega,⟨by omega,by rw[<-hg];rfl⟩,by omega⟩
 ·rw[List.drop_eq_nil_of_le hge,zgx]at hg
  (repeat' first|refine zaa yH fun K hK=>?_|exact wt|refine wA ?_|(refine wB ?_ ?_<;>intro h<;>first|exact wN h|subst (h:(_:Bool)=_)|skip)|(refine wQ ?_;clear hQ hR hE hM)|fail)
  rw[<-hg]
def zsq (p:Pln):Bool:=p.routes.all fun r=>decide ((zao p r).2.2=0)
theorem zmk (p:Pln):∀ (l:List Rte) (ws:List WayR) (os:List (List Join)),allG p l ws os=if (l.all fun r=>decide ((zao p r).2.2=0))=true then (ws++l.map fun r=>(zao p r).1,os++l.map fun r=>(zao p r).2.1,0) else ([],[],90)
 |[],ws,os=>by simp[allG]
 |r::l,ws,os=>by
  rw[allG,zmk p l];rcases zpU p r with h|h
  ·rw[if_pos h];simp[h]
  ·rw[if_neg (by omega),h];simp[h]
theorem zmj (p:Pln):allW p=if zbx p=true then (if zsq p=true then (p.routes.map fun r=>(zao p r).1,p.routes.map fun r=>(zao p r).2.1,0) else ([],[],90)) else ([],[],8):=by
 unfold allW zsq;rw[zmk];simp
def zbW (p:Pln) (r:Rte):Bool:=once (zao p r).1.asks&&zg3 p r (zao p r).2.1
def zbk (p:Pln):Bool:=zbx p&&(zsq p&&p.routes.all (zbW p))
def zhR (p:Pln):Int:=if zbk p=true then 0 else 100
end Go.Lev
namespace Go.Eng
open Go.RowKit
theorem bo9:(∀ (α:Type) (a b:α),(cond true a b)=a)/\(∀ (α:Type) (a b:α),(cond false a b)=b)/\(∀ b:Bool,(true||b)=true)/\(∀ b:Bool,(b||true)=true)/\(∀ b:Bool,(false||b)=b)/\(∀ b:Bool,(b||false)=b)/\(∀ b:Bool,(true&&b)=b)/\(∀ b:Bool,(b&&true)=b)/\(∀ b:Bool,(false&&b)=false)/\(∀ b:Bool,(b&&false)=false)/\((!true)=false)/\((!false)=true)/\(∀ b:Bool,(!!b)=b)/\(∀ [Decidable True],decide True=true)/\(∀ [Decidable False],decide False=false)/\(∀ (α:Type) (a:α),(a=a)=True) :=
 ⟨fun _ _ _=>rfl,fun _ _ _=>rfl,fun _=>Bool.true_or _,fun _=>Bool.or_true _,fun _=>Bool.false_or _,fun _=>Bool.or_false _,fun _=>Bool.true_and _,fun _=>Bool.and_true _,fun _=>Bool.false_and _,fun _=>Bool.and_false _,rfl,rfl,fun _=>Bool.not_not _,@fun i=>decide_true i,@fun i=>decide_false i,fun _ _=>eq_self _⟩
theorem wX {A B:Prop} (a:A) (h:Rw A B:=by first|(simp only[h0,bo9,reduceCtorEq,Int.reduceEq,Nat.reduceEqDiff];exact zcL _)|(simp only[bo9,reduceCtorEq,Int.reduceEq,Nat.reduceEqDiff];exact zcL _)):B:=Eq.mp h a
def zaZ {S R:Type} (body:Nat->S->(S->R)->R) (fin:S->R):Nat->Nat->S->R
 |0,_,s=>fin s
 |m+1,k,s=>body k s fun s'=>zaZ body fin m (k+1) s'
section
variable {S R:Type} {body:Nat->S->(S->R)->R} {fin:S->R} {n k:Nat} {s:S}
theorem zpj (h:k<n):zaZ body fin (n-k) k s=body k s fun s'=>zaZ body fin (n-(k+1)) (k+1) s':=by
 obtain ⟨m,hm⟩:∃ m,n-k=m+1:=⟨n-k-1,by omega⟩
 rw[hm,show n-(k+1)=m by omega]
 rfl
theorem zas {B:Nat->S->(S->R)->R} (hB:B=body) (h:k<n):zaZ B fin (n-k) k s=body k s fun s'=>zaZ B fin (n-(k+1)) (k+1) s':=by rw[zpj h];subst hB;rfl
theorem zaH (h:n<=k):zaZ body fin (n-k) k s=fin s:=by
 rw[show n-k=0 by omega]
 rfl
theorem zaI {X:R} (hF:zaZ body fin n 0 s=X) {G:Prop} (h:∀ B F,B=body->F=fin->zaZ B F (n-0) 0 s=X->G):G:=h _ _ rfl rfl hF
theorem zaE (good:R->Prop) (Inv:Nat->S->Prop) (h0:Inv 0 s) (hs:∀ k s za0,k<n->Inv k s->(∀ s',Inv (k+1) s'->good (za0 s'))->good (body k s za0)) (hf:∀ s,Inv n s->good (fin s)):good (zaZ body fin n 0 s):=by
 have key:∀ m k s,k+m=n->Inv k s->good (zaZ body fin m k s):=by
  intro m
  induction m with
  |zero=>intro k s hk hi;exact hf s (by rw[show n=k by omega];exact hi)
  |succ m ih=>intro k s hk hi;exact hs k s _ (by omega) hi fun s' h'=>ih (k+1) s' (by omega) h'
 exact key n 0 s (by omega) h0
end
mutual
def okS (g:Nat->Bool):AV->Bool
 |.agg cs=>okSL g cs
 |.tup cs=>okSL g cs
 |.fn _ cs=>okSL g cs
 |.ptr l _ _=>g l
 |.sm l _ _ _ _=>g l
 |.i _ _=>true|.b _=>true|.v _=>true|.u=>true|.s0 _=>true|.sl _ _=>true|.ip _ _ _ _=>true|.mp _=>true|.top=>true
def okSL (g:Nat->Bool):List AV->Bool
 |[]=>true
 |x::xs=>okS g x&&okSL g xs
end
def okF:Nat->AS->Nat->Bool
 |0,_,_=>false
 |k+1,σ,l=>match zah σ l with
  |some (.cells cs _)=>okSL (okF k σ) cs
  |_=>false
section
variable {f f':Nat->Option (List AV)} {g:Nat->Bool} (h:∀ l,g l=true->f' l=f l)
include h
mutual
theorem zqb:∀ x:AV,okS g x=true->zaR f' x=zaR f x
 |.agg cs,e=>by simp only[okS]at e;simp only[zaR,zdR cs e]
 |.tup cs,e=>by simp only[okS]at e;simp only[zaR,zdR cs e]
 |.fn j cs,e=>by simp only[okS]at e;simp only[zaR,zdR cs e]
 |.ptr l ver off,e=>by simp only[okS]at e;simp only[zaR,h l e]
 |.sm l ver off n sz,e=>by simp only[okS]at e;simp only[zaR,h l e]
 |.i _ _,_=>by simp only[zaR]
 |.b _,_=>by simp only[zaR]
 |.v _,_=>by simp only[zaR]
 |.u,_=>by simp only[zaR]
 |.s0 _,_=>by simp only[zaR]
 |.sl _ _,_=>by simp only[zaR]
 |.ip _ _ _ _,_=>by simp only[zaR]
 |.mp _,_=>by simp only[zaR]
 |.top,_=>by simp only[zaR]
theorem zdR:∀ xs:List AV,okSL g xs=true->zaT f' xs=zaT f xs
 |[],_=>by simp only[zaT]
 |x::xs,e=>by
  simp only[okSL,Bool.and_eq_true]at e;simp only[zaT,zqb x e.1,zdR xs e.2]
end
end
theorem zlg {σ σ':AS} (hle:SLe σ σ'):∀ (k l:Nat),okF k σ l=true->za5 k σ' l=za5 k σ l
 |0,_,e=>by simp[okF]at e
 |k+1,l,e=>by
  simp only[okF]at e;split at e
  ·rename_i cs r hg
   simp only[za5,hg,hle l _ hg (by intro h;cases h),zdR (fun l=>zlg hle k l) cs e]
  ·cases e
def oks (k:Nat) (σ:List (Nat×AO)) (xs:List AV):Bool:=okSL (okF k σ) xs
section
variable (k:Nat) (σ:List (Nat×AO))
end
section
variable {P:Program} {inv:Nat->Option Nat} {w0:World} {M:Nat->Prop} {σ:AS}
theorem zss (hM:∀ b,M b->b<w0.heap.size) (k:Nat) {j:Nat} {args args':List AV} {r:AV} (h:PC P inv j args' (·=r)) (he:zbF k σ args=args') (hok:oks k σ args=true) (hs:r.scalar=true) {K:AV->Prop} (hk:K r):PureK P inv w0 M σ j args K :=
 ⟨r,fun _ _ σ' hle=>zcM hM k h (by rw[<-he];exact zdR (fun l=>zlg hle k l) args hok) hs ⟨rfl,rfl⟩,hk⟩
end
section
variable {P:Program} {inv:Nat->Option Nat} {w0:World} {M:Nat->Prop} {n N:Nat} {φ:AF} {σ:AS}
variable {l:Nat} {J:AF->AS->Prop} {Q:Exit->AF->AS->Prop}
end
section
variable {P:Program} {inv:Nat->Option Nat} {w0:World} {M:Nat->Prop} {n N:Nat} {φ:AF} {σ:AS}
end
end Go.Eng
namespace Go.Lev
open Go.Eng
theorem zjo {sec:List Int} (h3:∀ i,nth sec i<=3) {x y:Sgn} (hx:zcl sec x.sec=true/\0<=x.ed/\x.ed<nth sec x.sec.toNat) (hy:zcl sec y.sec=true/\0<=y.ed/\y.ed<nth sec y.sec.toNat):zcZ x=zcZ y↔x.sec=y.sec/\x.ed=y.ed:=by
 have h4:=h3 x.sec.toNat;have h5:=h3 y.sec.toNat;have h6:0<=x.sec/\x.sec<=99:=by have:=hx.1;simp only[zcl,Bool.and_eq_true,decide_eq_true_eq]at this;omega
 have h7:0<=y.sec/\y.sec<=99:=by have:=hy.1;simp only[zcl,Bool.and_eq_true,decide_eq_true_eq]at this;omega
 unfold zcZ;constructor
 ·intro h;omega
 ·rintro ⟨h1,h2⟩;rw[h1,h2]
theorem zhW {sec:List Int} (h3:∀ i,nth sec i<=3) {x:Sgn} (hx:zcl sec x.sec=true/\0<=x.ed/\x.ed<nth sec x.sec.toNat):zcZ x<300:=by
 have h4:=h3 x.sec.toNat;have h6:0<=x.sec/\x.sec<=99:=by have:=hx.1;simp only[zcl,Bool.and_eq_true,decide_eq_true_eq]at this;omega
 unfold zcZ;omega
theorem zll {sec:List Int} (h3:∀ i,nth sec i<=3):∀ (l:List Sgn) (m:List Bool),m.length=300->(zhV sec m l=true↔(∀ x∈l,(zcl sec x.sec=true/\0<=x.ed/\x.ed<nth sec x.sec.toNat)/\nth m (zcZ x)=false)/\l.Pairwise fun x y=>zcZ x≠zcZ y)
 |[],m,_=>by simp[zhV]
 |x::r,m,hm=>by
  have ih:=zll h3 r (m.set (zcZ x) true) (by simpa using hm)
  rw[zhV,Bool.and_eq_true,ih,List.pairwise_cons];have hb:(!zdy sec m x)=true↔(zcl sec x.sec=true/\0<=x.ed/\x.ed<nth sec x.sec.toNat)/\nth m (zcZ x)=false:=by
   unfold zdy;simp only[Bool.not_eq_true',Bool.or_eq_false_iff,Bool.not_eq_false',decide_eq_false_iff_not];constructor
   ·rintro ⟨h1,h2,h4,h5⟩;exact ⟨⟨h1,by omega,by omega⟩,h5⟩
   ·rintro ⟨⟨h1,h2,h4⟩,h5⟩;exact ⟨h1,by omega,by omega,h5⟩
  rw[hb];constructor
  ·rintro ⟨h1,h2,h4⟩
   have hl:=zhW h3 h1.1;refine ⟨fun y hy=>?_,fun y hy e=>?_,h4⟩
   ·rcases List.mem_cons.1 hy with rfl|hy
    ·exact h1
    ·have h5:=h2 y hy
     refine ⟨h5.1, ?_⟩;have h6:=h5.2;rw[za9 _ _ _ _ (by omega)]at h6
     split at h6
     ·cases h6
     ·exact h6
   ·have h6:=(h2 y hy).2
    rw[za9 _ _ _ _ (by omega),if_pos e.symm]at h6
    cases h6
  ·rintro ⟨h1,h2,h4⟩
   have h0:=h1 x (by simp)
   have hl:=zhW h3 h0.1;refine ⟨h0,fun y hy=>?_,h4⟩
   have h5:=h1 y (by simp[hy])
   refine ⟨h5.1, ?_⟩;rw[za9 _ _ _ _ (by omega),if_neg (fun e=>h2 y hy e.symm)]
   exact h5.2
structure SgsP (p:Pln):Prop where
 id:∀ x∈p.signals,1<=x.id/\x.id<=99
 up:∀ i,i<p.signals.length->∀ m,m<i->(nth p.signals m).id<(nth p.signals i).id
 apart:∀ i,i<p.signals.length->∀ m,m<i->¬((nth p.signals m).sec=(nth p.signals i).sec/\(nth p.signals m).ed=(nth p.signals i).ed)
 sec:∀ x∈p.signals,∃ s∈p.sections,s.id=x.sec/\0<=x.ed/\x.ed<s.ends.length
 len:(p.signals.length:Int)<=10
theorem zek {α:Type} [Inhabited α] {R:α->α->Prop} {l:List α}:l.Pairwise R↔∀ i,i<l.length->∀ m,m<i->R (nth l m) (nth l i):=by
 rw[List.pairwise_iff_getElem];constructor
 ·intro h i hi m hm
  have:=h m i (by omega) hi hm
  rw[<-zay (by omega),<-zay hi]at this
  exact this
 ·intro h i j hi hj hij
  have:=h j hj i hij;rw[zay hi,zay hj]at this;exact this
theorem zkV {p:Pln} (h:zbR p.sections=true) (x:Sgn):(zcl (ends p.sections) x.sec=true/\0<=x.ed/\x.ed<nth (ends p.sections) x.sec.toNat)↔∃ s∈p.sections,s.id=x.sec/\0<=x.ed/\x.ed<s.ends.length:=by
 rw[zez h];constructor
 ·rintro ⟨⟨s,hs,e⟩,h1,h2⟩
  rw[<-e,ziP h hs]at h2;exact ⟨s,hs,e,h1,h2⟩
 ·rintro ⟨s,hs,e,h1,h2⟩
  exact ⟨⟨s,hs,e⟩,h1,by rw[<-e,ziP h hs];exact h2⟩
theorem zdT {p:Pln} (h:zbR p.sections=true):signals p (ends p.sections)=true↔SgsP p:=by
 have h3:=zr1 h;unfold signals;rw[Bool.and_eq_true,zdA,zll h3 _ _ List.length_replicate];have hpw:(p.signals.map Sgn.id).Pairwise (· < ·)↔∀ i,i<p.signals.length->∀ m,m<i->(nth p.signals m).id<(nth p.signals i).id:=by
  rw[List.pairwise_map,zek]
 rw[hpw,zek];constructor
 ·rintro ⟨⟨h1,h2,h4⟩,h5,h6⟩
  refine ⟨fun x hx=>h1 x.id (List.mem_map_of_mem hx),h2,fun i hi m hm e=>?_,fun x hx=>(zkV h x).1 (h5 x hx).1,by simpa using h4⟩
  exact h6 i hi m hm ((zjo h3 (h5 _ (zac (by omega))).1 (h5 _ (zac hi)).1).2 e)
 ·rintro ⟨h1,h2,h4,h5,h6⟩
  refine ⟨⟨fun n hn=>?_,h2,by simpa using h6⟩,fun x hx=>?_,fun i hi m hm e=>?_⟩
  ·obtain ⟨x,hx,rfl⟩:=List.mem_map.1 hn
   exact h1 x hx
  ·have h7:=(zkV h x).2 (h5 x hx)
   exact ⟨h7,zdL _ _ _ (zhW h3 h7)⟩
  ·exact h4 i hi m hm ((zjo h3 ((zkV h _).2 (h5 _ (zac (by omega)))) ((zkV h _).2 (h5 _ (zac hi)))).1 e)
def zoZ (p:Pln) (x:Sgn):Bool:=decide (x.id<1)||(decide (99<x.id)||(decide (zdd x.sec 0 p.sections<0)||(decide (x.ed<0)||decide (((nth p.sections (zdd x.sec 0 p.sections).toNat).ends.length:Int)<=x.ed))))
def rsF (p:Pln):Bool :=
 zaZ (fun i _ za0=>cond (zoZ p (nth p.signals i)) false
   (zaZ (fun m _ next2=>cond (decide ((nth p.signals i).id<=(nth p.signals m).id)||(decide ((nth p.signals m).sec=(nth p.signals i).sec)&&decide ((nth p.signals m).ed=(nth p.signals i).ed))) false (next2 ())) (fun _=>za0 ()) i 0 ()))
  (fun _=>decide ((p.signals.length:Int)<=10)) p.signals.length 0 ()
theorem zh7 {p:Pln} (h:zbR p.sections=true) (x:Sgn):zoZ p x=false↔(1<=x.id/\x.id<=99)/\∃ s∈p.sections,s.id=x.sec/\0<=x.ed/\x.ed<s.ends.length:=by
 have hso:zes p.sections:=zdb h;unfold zoZ;simp only[Bool.or_eq_false_iff,decide_eq_false_iff_not];constructor
 ·rintro ⟨h1,h2,h3,h4,h5⟩
  refine ⟨by omega, ?_⟩
  rcases zcr x.sec p.sections 0 with ⟨e,_⟩|⟨q,hq,e,e2⟩
  ·rw[e]at h3;exact absurd (by decide) h3
  ·have e3:(zdd x.sec 0 p.sections).toNat=q:=by omega
   rw[e3]at h5;exact ⟨_,zac hq,e2,by omega,by omega⟩
 ·rintro ⟨h1,s,hs1,hs2,h3,h4⟩
  have h5:=zdP hso hs1;rw[hs2]at h5;rw[h5.1];refine ⟨by omega,by omega,by omega,by omega,by omega⟩
theorem rsF_eq {p:Pln} (h:zbR p.sections=true):rsF p=signals p (ends p.sections):=by
 generalize hX:signals p (ends p.sections)=X;have hiff:X=true↔SgsP p:=by rw[<-hX];exact zdT h
 have good1:∀ {b:Bool},(b=true↔SgsP p)->b=X:=fun hb=>by rw[Bool.eq_iff_iff,hb,hiff]
 unfold rsF;refine zaE (·=X) (fun k _=>∀ i,i<k->zoZ p (nth p.signals i)=false/\∀ m,m<i->(nth p.signals m).id<(nth p.signals i).id/\¬((nth p.signals m).sec=(nth p.signals i).sec/\(nth p.signals m).ed=(nth p.signals i).ed)) (fun i hi=>by omega) ?_ ?_
 ·intro k _ za0 hk hK hn
  cases hb:zoZ p (nth p.signals k) with
  |true =>
   rw[cond_true];refine good1 ⟨fun h=>(by cases h),fun hp=>?_⟩
   have:=(zh7 h (nth p.signals k)).2 ⟨hp.id _ (zac hk),hp.sec _ (zac hk)⟩;rw[hb]at this;cases this
  |false =>
   rw[cond_false];refine zaE (·=X) (fun m _=>∀ j,j<m->(nth p.signals j).id<(nth p.signals k).id/\¬((nth p.signals j).sec=(nth p.signals k).sec/\(nth p.signals j).ed=(nth p.signals k).ed)) (fun j hj=>by omega) ?_ ?_
   ·intro m _ next2 hm hM hn2
    by_cases e:(nth p.signals m).id<(nth p.signals k).id/\¬((nth p.signals m).sec=(nth p.signals k).sec/\(nth p.signals m).ed=(nth p.signals k).ed)
    ·have:(decide ((nth p.signals k).id<=(nth p.signals m).id)||(decide ((nth p.signals m).sec=(nth p.signals k).sec)&&decide ((nth p.signals m).ed=(nth p.signals k).ed)))=false:=by
      simp only[Bool.or_eq_false_iff,Bool.and_eq_false_imp,decide_eq_false_iff_not,decide_eq_true_eq];exact ⟨by omega,fun h1 h2=>e.2 ⟨h1,h2⟩⟩
     rw[this,cond_false];refine hn2 () fun j hj=>?_
     rcases Nat.lt_or_ge j m with h1|h1
     ·exact hM j h1
     ·obtain rfl:j=m:=by omega
      exact e
    ·have:(decide ((nth p.signals k).id<=(nth p.signals m).id)||(decide ((nth p.signals m).sec=(nth p.signals k).sec)&&decide ((nth p.signals m).ed=(nth p.signals k).ed)))=true:=by
      rw[<-Bool.not_eq_false];intro hf;simp only[Bool.or_eq_false_iff,Bool.and_eq_false_imp,decide_eq_false_iff_not,decide_eq_true_eq]at hf;exact e ⟨by omega,fun h1=>hf.2 h1.1 h1.2⟩
     rw[this,cond_true];refine good1 ⟨fun h=>(by cases h),fun hp=>absurd ?_ e⟩
     exact ⟨hp.up k hk m hm,hp.apart k hk m hm⟩
   ·intro _ hM
    refine hn () fun i hi=>?_
    rcases Nat.lt_or_ge i k with h1|h1
    ·exact hK i h1
    ·obtain rfl:i=k:=by omega
     exact ⟨hb,hM⟩
 ·intro _ hK
  refine good1 ?_;rw[decide_eq_true_eq];constructor
  ·intro hl
   refine ⟨fun x hx=>?_,fun i hi m hm=>((hK i hi).2 m hm).1,fun i hi m hm=>((hK i hi).2 m hm).2,fun x hx=>?_,hl⟩
   ·obtain ⟨i,hi,rfl⟩:=zbN hx
    exact ((zh7 h _).1 (hK i hi).1).1
   ·obtain ⟨i,hi,rfl⟩:=zbN hx
    exact ((zh7 h _).1 (hK i hi).1).2
  ·exact fun hp=>hp.len
theorem zfh {α:Type} [Inhabited α] (f:α->Int) (n:Int) (d:α) (l:List α):(za1 (fun x=>decide (f x=n)) 0 l=-1/\l.find? (fun x=>decide (f x=n))=none)\/∃ i:Nat,i<l.length/\za1 (fun x=>decide (f x=n)) 0 l=(i:Int)/\f (nth l i)=n/\l.find? (fun x=>decide (f x=n))=some (nth l i):=by
 rcases zca (fun x:α=>decide (f x=n)) l 0 with ⟨h1,h2⟩|⟨i,h1,h2,h3⟩
 ·exact .inl ⟨h1,h2⟩
 ·exact .inr ⟨i,h1,by omega,(zd6 (f:=f) h3).2,h3⟩
structure RteP (p:Pln) (r:Rte):Prop where
 ent:∃ x∈p.signals,x.id=r.entry
 ex:¬r.exit=0->(∃ x∈p.signals,x.id=r.exit)/\¬r.exit=r.entry
 ov:r.exit=0->r.over.length=0
 lens:1<=r.path.length/\r.path.length<=6/\r.over.length<=2/\r.flanks.length<=3/\1<=r.timer/\r.timer<=9
 secs:∀ x∈r.path++r.over,(∃ s∈p.sections,s.id=x)/\¬x=((p.signals.find? fun x=>decide (x.id=r.entry)).getD Sgn.z).sec
 nd:(r.path++r.over).Nodup
 flk:∀ i,i<r.flanks.length->(∃ x∈p.points,x.id=(nth r.flanks i).pnt)/\(0<i->(nth r.flanks (i-1)).pnt<(nth r.flanks i).pnt)/\((nth r.flanks i).lie=1\/(nth r.flanks i).lie=2)
theorem zdm {α:Type} (f:α->Int) (n:Int) (l:List α):(l.find? fun x=>decide (f x=n)).isSome=true↔∃ x∈l,f x=n:=by
 rw[List.find?_isSome];constructor
 ·rintro ⟨x,hx,e⟩;exact ⟨x,hx,by simpa using e⟩
 ·rintro ⟨x,hx,e⟩;exact ⟨x,hx,by simpa using e⟩
def FlkOk (p:Pln) (pr:Option Int) (f:Flk):Prop:=(∃ x∈p.points,x.id=f.pnt)/\(∀ y,pr=some y->y<f.pnt)/\(f.lie=1\/f.lie=2)
theorem zpv (p:Pln) (pr:Option Int) (f:Flk):zlW p.points pr f=false↔FlkOk p pr f:=by
 unfold zlW FlkOk;rw[Bool.or_eq_false_iff,Bool.or_eq_false_iff,Bool.not_eq_false',zdm Pnt.id];refine and_congr Iff.rfl (and_congr ?_ ?_)
 ·cases pr with
  |none=>simp
  |some y=>simp
 ·by_cases h:f.lie=1
  ·simp[h]
  ·simp[h]
theorem zop (p:Pln):∀ (l:List Flk) (pr:Option Int),zpu p.points pr l=true↔∀ i,i<l.length->FlkOk p (if i=0 then pr else some (nth l (i-1)).pnt) (nth l i)
 |[],pr=>by simp[zpu]
 |f::r,pr=>by
  rw[zpu,Bool.and_eq_true,Bool.not_eq_true',zpv,zop p r];constructor
  ·rintro ⟨h1,h2⟩ i hi
   match i with
   |0=>rw[if_pos rfl];exact h1
   |1=>exact h2 0 (by simpa using hi)
   |i+2 =>
    have:=h2 (i+1) (by simp at hi;omega)
    rw[if_neg (by omega)]at this |-
    exact this
  ·intro h
   refine ⟨by have:=h 0 (by simp);rw[if_pos rfl]at this;exact this,fun i hi=>?_⟩
   have:=h (i+1) (by simpa using hi)
   rw[if_neg (by omega)]at this
   match i with
   |0=>exact this
   |i+1=>rw[if_neg (by omega)];exact this
theorem zke {p:Pln} (h:zbR p.sections=true) (hg:SgsP p) (r:Rte):zc0 p r (ends p.sections)=true↔RteP p r:=by
 unfold zc0;rw[Bool.and_eq_true,Bool.and_eq_true,Bool.and_eq_true,Bool.and_eq_true];unfold zkd zfH zga zh6;rw[zkD _ _ _ (by rw[List.length_set,List.length_replicate]),zop]
 have hent:(p.signals.find? fun x=>decide (x.id=r.entry)).isSome=true->0<=((p.signals.find? fun x=>decide (x.id=r.entry)).getD Sgn.z).sec/\((p.signals.find? fun x=>decide (x.id=r.entry)).getD Sgn.z).sec<=99:=fun h1=>by
  obtain ⟨x,hx⟩:=Option.isSome_iff_exists.1 h1;rw[hx];obtain ⟨s,hs,e,_⟩:=hg.sec x (List.mem_of_find?_eq_some hx);have:=zaP h s hs;show 0<=x.sec/\x.sec<=99
  omega
 have hmark:(p.signals.find? fun x=>decide (x.id=r.entry)).isSome=true->∀ x:Int,0<=x/\x<=99->(nth ((List.replicate 100 false).set ((p.signals.find? fun x=>decide (x.id=r.entry)).getD Sgn.z).sec.toNat true) x.toNat=false↔¬x=((p.signals.find? fun x=>decide (x.id=r.entry)).getD Sgn.z).sec):=fun h1 x hx=>by
  have h2:=hent h1;rw[za9 _ _ _ _ (by rw[List.length_replicate];omega)]
  by_cases e:x=((p.signals.find? fun x=>decide (x.id=r.entry)).getD Sgn.z).sec
  ·rw[if_pos (by rw[e])];simp[e]
  ·rw[if_neg (by omega),zdL _ _ _ (by omega)];simp[e]
 have hth:∀ x:Int,zcl (ends p.sections) x=true->0<=x/\x<=99:=fun x hx=>by
  obtain ⟨s,hs,e⟩:=(zez h x).1 hx;have:=zaP h s hs;omega
 constructor
 ·rintro ⟨h1,h2,h3,⟨h4,h5⟩,h6⟩
  simp only[Bool.and_eq_true,Bool.not_eq_true',Bool.and_eq_false_imp,Bool.or_eq_false_iff,Bool.not_eq_false',decide_eq_true_eq,decide_eq_false_iff_not]at h1 h2 h3;obtain ⟨h7,h8,h9⟩:=h1;refine ⟨(zdm Sgn.id _ _).1 h7,fun e=>?_,fun e=>?_,by omega,fun x hx=>?_,h5,fun i hi=>?_⟩
  ·have:=h8 e
   exact ⟨(zdm Sgn.id _ _).1 this.1,this.2⟩
  ·have:=h9 e;omega
  ·obtain ⟨h10,h11⟩:=h4 x hx
   exact ⟨(zez h x).1 h10,(hmark h7 x (hth x h10)).1 h11⟩
  ·have:=h6 i hi
   refine ⟨this.1,fun h0=>?_,this.2.2⟩
   exact this.2.1 _ (by rw[if_neg (by omega)])
 ·intro hr
  have h7:=(zdm Sgn.id _ _).2 hr.ent;refine ⟨?_, ?_, ?_,⟨fun x hx=>?_,hr.nd⟩,fun i hi=>?_⟩
  ·simp only[Bool.and_eq_true,Bool.not_eq_true',Bool.and_eq_false_imp,Bool.or_eq_false_iff,Bool.not_eq_false',decide_eq_true_eq,decide_eq_false_iff_not]
   refine ⟨h7,fun e=>⟨(zdm Sgn.id _ _).2 (hr.ex e).1,(hr.ex e).2⟩,fun e=>?_⟩
   have:=hr.ov e;omega
  ·have:=hr.lens
   simp only[Bool.and_eq_true,Bool.not_eq_true',decide_eq_false_iff_not];omega
  ·have:=hr.lens
   simp only[Bool.and_eq_true,Bool.not_eq_true',decide_eq_false_iff_not];omega
  ·obtain ⟨h10,h11⟩:=hr.secs x hx
   have h12:=(zez h x).2 h10;exact ⟨h12,(hmark h7 x (hth x h12)).2 h11⟩
  ·obtain ⟨h10,h11,h12⟩:=hr.flk i hi
   refine ⟨h10,fun y hy=>?_,h12⟩
   by_cases h0:i=0
   ·rw[if_pos h0]at hy;cases hy
   ·rw[if_neg h0]at hy
    cases hy
    exact h11 (by omega)
def rrT1 (p:Pln) (r:Rte) (k kx:Int):Bool:=decide (k<0)||(!decide (r.exit=0)&&(decide (kx<0)||decide (r.exit=r.entry))||decide (r.exit=0)&&!decide ((r.over.length:Int)=0))
def rrT2 (r:Rte):Bool:=decide ((r.path.length:Int)<1)||(decide (6<(r.path.length:Int))||(decide (2<(r.over.length:Int))||(decide (3<(r.flanks.length:Int))||(decide (r.timer<1)||decide (9<r.timer)))))
def rrS (p:Pln) (k n:Int):Bool:=decide (zdd n 0 p.sections<0)||decide (n=(nth p.signals k.toNat).sec)
def rrK (p:Pln) (r:Rte) (i:Nat):Bool:=decide (za1 (fun x=>decide (Pnt.id x=(nth r.flanks i).pnt)) 0 p.points<0)||(decide ((0:Int)<i)&&decide ((nth r.flanks i).pnt<=(nth r.flanks (i-1)).pnt)||(decide ((nth r.flanks i).lie<1)||decide (2<(nth r.flanks i).lie)))
def rrF (p:Pln) (r:Rte) (k kx:Int) (all:List Int):Bool :=
 cond (rrT1 p r k kx) false (cond (rrT2 r) false
  (zaZ (fun i _ za0=>cond (rrS p k (nth all i)) false (zaZ (fun m _ next2=>cond (decide (nth all m=nth all i)) false (next2 ())) (fun _=>za0 ()) i 0 ()))
   (fun _=>zaZ (fun i _ za0=>cond (rrK p r i) false (za0 ())) (fun _=>true) r.flanks.length 0 ()) all.length 0 ()))
theorem ziv {l:List Int}:l.Nodup↔∀ i,i<l.length->∀ m,m<i->¬nth l m=nth l i:=by
 rw[List.nodup_iff_pairwise_ne,zek]
theorem rrF_eq {p:Pln} (h:zbR p.sections=true) (hg:SgsP p) (r:Rte):rrF p r (za1 (fun x=>decide (Sgn.id x=r.entry)) 0 p.signals) (za1 (fun x=>decide (Sgn.id x=r.exit)) 0 p.signals) (r.path++r.over)=zc0 p r (ends p.sections):=by
 generalize hX:zc0 p r (ends p.sections)=X;have hiff:X=true↔RteP p r:=by rw[<-hX];exact zke h hg r
 have good1:∀ {b:Bool},(b=true↔RteP p r)->b=X:=fun hb=>by rw[Bool.eq_iff_iff,hb,hiff]
 have bad:¬RteP p r->false=X:=fun hb=>good1 ⟨fun h=>(by cases h),fun hr=>absurd hr hb⟩
 have hso:zes p.sections:=zdb h;unfold rrF;cases h1:rrT1 p r (za1 (fun x=>decide (Sgn.id x=r.entry)) 0 p.signals) (za1 (fun x=>decide (Sgn.id x=r.exit)) 0 p.signals) with
 |true =>
  rw[cond_true];refine bad fun hr=>?_
  have hent:=hr.ent;have:rrT1 p r (za1 (fun x=>decide (Sgn.id x=r.entry)) 0 p.signals) (za1 (fun x=>decide (Sgn.id x=r.exit)) 0 p.signals)=false:=by
   unfold rrT1;simp only[Bool.or_eq_false_iff,Bool.and_eq_false_imp,decide_eq_false_iff_not,decide_eq_true_eq,Bool.not_eq_true',Bool.not_eq_false'];refine ⟨?_,fun e=>?_,fun e=>?_⟩
   ·rcases zfh Sgn.id r.entry Sgn.z p.signals with ⟨_,e2⟩|⟨i,_,e2,_⟩
    ·obtain ⟨x,hx,ex⟩:=hent
     have:=List.find?_eq_none.1 e2 x hx;simp[ex]at this
    ·omega
   ·refine ⟨?_,(hr.ex e).2⟩
    rcases zfh Sgn.id r.exit Sgn.z p.signals with ⟨_,e2⟩|⟨i,_,e2,_⟩
    ·obtain ⟨x,hx,ex⟩:=(hr.ex e).1
     have:=List.find?_eq_none.1 e2 x hx;simp[ex]at this
    ·omega
   ·have:=hr.ov e
    omega
  rw[this]at h1;cases h1
 |false =>
  rw[cond_false];unfold rrT1 at h1;simp only[Bool.or_eq_false_iff,Bool.and_eq_false_imp,decide_eq_false_iff_not,decide_eq_true_eq,Bool.not_eq_true',Bool.not_eq_false']at h1;obtain ⟨h1a,h1b,h1c⟩:=h1;rcases zfh Sgn.id r.entry Sgn.z p.signals with ⟨e,_⟩|⟨k,hk,e,ek,ef⟩
  ·rw[e]at h1a;exact absurd (by decide) h1a
  ·rw[e]
   have hsec:((p.signals.find? fun x=>decide (x.id=r.entry)).getD Sgn.z).sec=(nth p.signals k).sec:=by rw[ef];rfl
   cases h2:rrT2 r with
   |true =>
    rw[cond_true];refine bad fun hr=>?_
    have:=hr.lens;have:rrT2 r=false:=by
     unfold rrT2;simp only[Bool.or_eq_false_iff,decide_eq_false_iff_not];omega
    rw[this]at h2;cases h2
   |false =>
    rw[cond_false];unfold rrT2 at h2;simp only[Bool.or_eq_false_iff,decide_eq_false_iff_not]at h2;have hS:∀ n:Int,rrS p (k:Int) n=false↔(∃ s∈p.sections,s.id=n)/\¬n=(nth p.signals k).sec:=fun n=>by
     unfold rrS;rw[Int.toNat_natCast,Bool.or_eq_false_iff,decide_eq_false_iff_not,decide_eq_false_iff_not];refine and_congr ?_ Iff.rfl;constructor
     ·intro h3
      rcases zcr n p.sections 0 with ⟨e3,_⟩|⟨q,hq,e3,e4⟩
      ·rw[e3]at h3;exact absurd (by decide) h3
      ·exact ⟨_,zac hq,e4⟩
     ·rintro ⟨s,hs,e3⟩
      have:=(zdP hso hs).2;rw[e3]at this;omega
    have hK:∀ i,rrK p r i=false↔(∃ x∈p.points,x.id=(nth r.flanks i).pnt)/\(0<i->(nth r.flanks (i-1)).pnt<(nth r.flanks i).pnt)/\((nth r.flanks i).lie=1\/(nth r.flanks i).lie=2):=fun i=>by
     unfold rrK;simp only[Bool.or_eq_false_iff,Bool.and_eq_false_imp,decide_eq_false_iff_not,decide_eq_true_eq];refine and_congr ?_ (and_congr ?_ ?_)
     ·rcases zcb Pnt.id (nth r.flanks i).pnt p.points with ⟨e3,e4⟩|⟨q,hq,e3,e4⟩
      ·rw[e3]
       constructor
       ·intro h3;exact absurd (by decide) h3
       ·rintro ⟨x,hx,ex⟩;exact absurd ex (e4 x hx)
      ·rw[e3]
       exact ⟨fun _=>⟨_,zac hq,e4⟩,fun _=>by omega⟩
     ·constructor
      ·intro h3 h4;have:=h3 (by omega);omega
      ·intro h3 h4;have:=h3 (by omega);omega
     ·omega
    refine zaE (·=X) (fun i _=>∀ j,j<i->((∃ s∈p.sections,s.id=nth (r.path++r.over) j)/\¬nth (r.path++r.over) j=(nth p.signals k).sec)/\∀ m,m<j->¬nth (r.path++r.over) m=nth (r.path++r.over) j) (fun j hj=>by omega) ?_ ?_
    ·intro i _ za0 hi hI hn
     cases h3:rrS p (k:Int) (nth (r.path++r.over) i) with
     |true =>
      rw[cond_true];refine bad fun hr=>?_
      have:=hr.secs _ (zac hi);rw[hsec]at this;rw[(hS _).2 this]at h3;cases h3
     |false =>
      rw[cond_false];refine zaE (·=X) (fun m _=>∀ j,j<m->¬nth (r.path++r.over) j=nth (r.path++r.over) i) (fun j hj=>by omega) ?_ ?_
      ·intro m _ next2 hm hM hn2
       by_cases e4:nth (r.path++r.over) m=nth (r.path++r.over) i
       ·rw[decide_eq_true e4,cond_true]
        exact bad fun hr=>ziv.1 hr.nd i hi m hm e4
       ·rw[decide_eq_false e4,cond_false]
        refine hn2 () fun j hj=>?_
        rcases Nat.lt_or_ge j m with h5|h5
        ·exact hM j h5
        ·obtain rfl:j=m:=by omega
         exact e4
      ·intro _ hM
       refine hn () fun j hj=>?_
       rcases Nat.lt_or_ge j i with h5|h5
       ·exact hI j h5
       ·obtain rfl:j=i:=by omega
        exact ⟨(hS _).1 h3,hM⟩
    ·intro _ hI
     refine zaE (·=X) (fun i _=>∀ j,j<i->rrK p r j=false) (fun j hj=>by omega) ?_ ?_
     ·intro i _ za0 hi hJ hn
      cases h3:rrK p r i with
      |true =>
       rw[cond_true];refine bad fun hr=>?_
       rw[(hK i).2 (hr.flk i hi)]at h3;cases h3
      |false =>
       rw[cond_false];refine hn () fun j hj=>?_
       rcases Nat.lt_or_ge j i with h5|h5
       ·exact hJ j h5
       ·obtain rfl:j=i:=by omega
        exact h3
     ·intro _ hJ
      refine good1 ⟨fun _=>?_,fun _=>rfl⟩
      refine ⟨⟨_,zac hk,ek⟩,fun e4=>?_,fun e4=>?_,by omega,fun x hx=>?_,ziv.2 fun i hi m hm=>(hI i hi).2 m hm,fun i hi=>(hK i).1 (hJ i hi)⟩
      ·have:=h1b e4
       refine ⟨?_,this.2⟩;rcases zfh Sgn.id r.exit Sgn.z p.signals with ⟨e5,_⟩|⟨q,hq,e5,e6,_⟩
       ·rw[e5]at this;exact absurd (by decide) this.1
       ·exact ⟨_,zac hq,e6⟩
      ·have:=h1c e4;omega
      ·obtain ⟨i,hi,rfl⟩:=zbN hx
       rw[hsec];exact (hI i hi).1
set_option maxRecDepth 10000
set_option maxHeartbeats 4000000
variable {P:Program} {inv:Nat->Option Nat} {w0:World} {M:Nat->Prop}
def gc (H A:List Int) (W:AV):List AV:=H.map AV.n++(A.map AV.n++[W])
section gc
variable {H A:List Int} {W:AV}
theorem zhm (h:H.length=100) (h':A.length=100):(gc H A W).length=201:=by simp[gc,h,h']
theorem zrQ (h:H.length=100) {i:Nat} (hi:i<100):(gc H A W)[i]?=some (.n (nth H i)):=by
 unfold gc;rw[List.getElem?_append_left (by simp[h,hi]),zkE (by omega)]
theorem gc_get2 (h:H.length=100) (h':A.length=100) {i:Nat} (hi:i<100):(gc H A W)[100+i]?=some (.n (nth A i)):=by
 unfold gc;rw[List.getElem?_append_right (by simp[h]),List.length_map,h,show 100+i-100=i by omega,List.getElem?_append_left (by simp[h',hi]),zkE (by omega)]
theorem gc_get3 (h:H.length=100) (h':A.length=100):(gc H A W)[200]?=some W:=by
 unfold gc;rw[List.getElem?_append_right (by simp[h]),List.length_map,h,List.getElem?_append_right (by simp[h']),List.length_map,h']
 rfl
theorem gc_set1 (h:H.length=100) {i:Nat} (hi:i<100) (x:Int):(gc H A W).set i (.n x)=gc (H.set i x) A W:=by
 unfold gc;rw[List.set_append_left _ _ (by simp[h,hi]),List.map_set]
theorem gc_set2 (h:H.length=100) (h':A.length=100) {i:Nat} (hi:i<100) (x:Int):(gc H A W).set (100+i) (.n x)=gc H (A.set i x) W:=by
 unfold gc;rw[List.set_append_right _ _ (by simp[h]),List.length_map,h,show 100+i-100=i by omega,List.set_append_left _ _ (by simp[h',hi]),List.map_set]
theorem gc_set3 (h:H.length=100) (h':A.length=100) (W':AV):(gc H A W).set 200 W'=gc H A W':=by
 unfold gc;rw[List.set_append_right _ _ (by simp[h]),List.length_map,h,List.set_append_right _ _ (by simp[h']),List.length_map,h']
 rfl
theorem zol (h:W.plain=true):zaO (gc H A W)=true:=by
 unfold gc;rw[zc6,zc6,zff,zff];simp[zaO,h]
theorem zrS (h:W.plain=true):zaf (gc H A W)=true:=zcv _ (zol h)
theorem zgq (h:W.plain=true):zab (gc H A W)=0:=zbr _ (zrS h)
theorem gc_snap (h:W.plain=true) (k:Nat) (σ:AS):zbF k σ (gc H A W)=gc H A W:=zhx k σ (zol h)
end gc
def wsl (ws:List WayR):AV:=.sl 4 (ws.map Way.c)
theorem zfW (ws:List WayR):(wsl ws).plain=true:=rfl
def zb7 (w:WayR) (l:Lock):List Int:=if l.phase=0 then [] else w.path.drop l.gone.toNat++w.over
def zdv (l:Lock) (a:AskR):Bool:=decide (a.pos<0)||decide (l.gone<=a.pos)
def zcc (n:Int):List Int->List Int->Bool->List Int×Bool
 |[],H,t=>(H,t)
 |s::r,H,t=>if t=true/\nth H s.toNat=0 then zcc n r (H.set s.toNat n) true else (H.set s.toNat n,false)
def zfA (l:Lock) (C:List (Int×Int)):List AskR->List Int->Bool->List Int×Bool
 |[],A,t=>(A,t)
 |a::r,A,t=>if zdv l a=true then (if t=true/\zhl C a.pnt=a.lie then zfA l C r (A.set a.pnt.toNat a.lie) true else (A.set a.pnt.toNat a.lie,false)) else zfA l C r A t
def stG (p:Pln) (s:State) (ws:List WayR) (C:List (Int×Int)) (l:Lock) (H A:List Int) (t:Bool):List (Nat×AO):=[(0,.cells p.c true),(1,.cells s.c true),(2,.cells (gc H A (wsl ws)) true),(3,.cells [.b t] true),(4,.cells [.fn 110 []] true),(5,.imap C),(6,.cells [.mp 5] true),(7,.cells l.c true)]
theorem held_ac (hH:HasAll P inv) (hM:∀ b,M b->b<w0.heap.size) (p:Pln) (s:State) (ws:List WayR) (C:List (Int×Int)) (l:Lock) (w:WayR) (H A:List Int) (t:Bool) (hg:0<=l.gone/\l.gone<=w.path.length) (h1:w.path.length<=1000) (h2:w.over.length<=1000) (hs:∀ x∈w.path++w.over,0<=x/\x<=99) (hHl:H.length=100) (hAl:A.length=100) :
  AC P inv w0 M 30 118 [.agg w.c,.agg l.c,.fn 119 [.ptr 3 1 0,.ptr 2 201 0,.ptr 7 4 0]] (stG p s ws C l H A t) fun r0 σ'=>r0=.tup []/\σ'=stG p s ws C l (zcc l.id (zb7 w l) H t).1 A (if l.phase=0 then t else (zcc l.id (zb7 w l) H t).2):=by
 have c3:=zl8 hH [w.path.drop l.gone.toNat,w.over] (by simp) (by simp[lens];omega)
 rw[show [w.path.drop l.gone.toNat,w.over].flatten=w.path.drop l.gone.toNat++w.over by simp,show [w.path.drop l.gone.toNat,w.over].map lst=[[.sl 1 ((w.path.map zaJ).drop l.gone.toNat)],[.sl 1 (w.over.map zaJ)]] by simp[lst,List.map_drop]]at c3
 have hn1:¬l.gone<0:=by omega
 have hn2:¬((w.path.length:Int)<l.gone):=by omega
 have hgb:=zgq (H:=H) (A:=A) (zfW ws);unfold zb7;by_cases hph:l.phase=0
 ·simp only[hph,if_true,zcc]
  refine zbg (F:=cd118) (hH.has _ _ rfl) rfl (Nat.le_of_ble_eq_true rfl) fun Q hQ hR=>?_;have hE:=hH.callable;dsimp only[cd118]at hQ |-;refine wq ?_
  unfold stG
  (refine wD ?_;try exact wt)
  (have hX:=@hgb;(repeat' first|refine zaa [0,1,2,3,4,7,10,24,25,26,27,33] fun K hK=>?_|exact wt|refine wA ?_|(refine wB ?_ ?_<;>intro h<;>first|exact wN h|subst (h:(_:Bool)=_)|skip)|(refine wR ?_;clear hQ hR hE hM)|fail);all_goals clear hX)
  all_goals first|(exfalso;contradiction)|skip
  all_goals ((first|refine ⟨[],trivial, ?_⟩|refine ⟨[],⟨rfl,trivial⟩, ?_⟩);simp only[swS,stG];(refine wD ?_;try exact wt);(try simp))
 ·simp only[hph,if_false]
  obtain ⟨L,hL⟩:∃ L,L=w.path.drop l.gone.toNat++w.over:=⟨_,rfl⟩;have hLs:∀ x∈L,0<=x/\x<=99:=fun x hx=>hs x (by
   rw[hL]at hx;rcases List.mem_append.1 hx with h|h
   ·exact List.mem_append.2 (.inl (List.mem_of_mem_drop h))
   ·exact List.mem_append.2 (.inr h))
  have hLl:L.length<=2000:=by rw[hL];simp;omega
  rw[<-hL]at c3 |-
  clear hL;refine zbg (F:=cd118) (hH.has _ _ rfl) rfl (Nat.le_of_ble_eq_true rfl) fun Q hQ hR=>?_;have hE:=hH.callable;dsimp only[cd118]at hQ |-;refine wq ?_
  skip
  unfold stG
  (refine wD ?_;try exact wt)
  (have hX:=zA @hn1 (zA @hn2 @hgb);(repeat' first|refine zaa yy fun K hK=>?_|exact wt|refine wA ?_|(refine wB ?_ ?_<;>intro h<;>first|exact wN h|subst (h:(_:Bool)=_)|skip)|(refine wQ ?_;clear hQ hR)|refine wC c3 ?_|fail);all_goals clear hX)
  all_goals first|(exfalso;contradiction)|skip
  refine zaj (ι:=Nat×(List Int)×Bool) [2,24,25,26] (fun z=>[(26,.n z.1)]) (fun z=>[(2,.cells (gc z.2.1 A (wsl ws)) true),(3,.cells [.b z.2.2] true)]) (fun z=>z.1) (L.length) (fun z=>(z.2.1.length=100)/\(zcc l.id (L.drop z.1) z.2.1 z.2.2=zcc l.id L H t)) (0,H,t) ?_;rintro ⟨k,X,u⟩ ⟨hk,hx,hgo⟩;(try dsimp only at hk hx hgo |-);rcases Nat.lt_or_ge k L.length with hlt|hge
  ·rw[zae hlt,zcc]at hgo
   have hb:=hLs _ (zac hlt);have hgb2:=zgq (H:=X) (A:=A) (zfW ws);have e1:=zrQ (H:=X) (A:=A) (W:=wsl ws) hx (i:=(nth L k).toNat) (by omega)
   have e2:=gc_set1 (H:=X) (A:=A) (W:=wsl ws) hx (i:=(nth L k).toNat) (by omega) l.id
   have e3:=zhm (H:=X) (A:=A) (W:=wsl ws) hx hAl;(have hX:=zA @hgb2 (zA @e1 (zA @e2 @e3));(repeat' first|refine zaa yy fun K hK=>?_|exact wt|refine wA ?_|(refine wB ?_ ?_<;>intro h<;>first|exact wN h|subst (h:(_:Bool)=_)|skip)|(refine wQ ?_;clear hQ hR)|(refine wI hH cd119 40 fun Q hQ hR=>?_;refine wq ?_;try refine wD ?_)|fail);all_goals clear hX)
   all_goals first
    |(rw[if_neg (by simp[*])]at hgo;rw[<-hgo];refine ⟨[],trivial, ?_⟩;simp only[swS,stG];(refine wD ?_;try exact wt);(try simp[*]);done)
    |(rw[if_pos ⟨by simp[*],by simp[*]⟩]at hgo;exact ⟨(k+1,X.set (nth L k).toNat l.id,true),by dsimp only;omega,⟨by dsimp only;omega,by simp[hx],hgo⟩,by dsimp only;omega,rfl,by simp[*]⟩)
  ·rw[List.drop_eq_nil_of_le hge,zcc]at hgo
   (repeat' first|refine zaa yy fun K hK=>?_|exact wt|refine wA ?_|(refine wB ?_ ?_<;>intro h<;>first|exact wN h|subst (h:(_:Bool)=_)|skip)|(refine wQ ?_;clear hQ hR)|fail)
   rw[<-hgo];refine ⟨[],trivial, ?_⟩;simp only[swS,stG];(refine wD ?_;try exact wt);(try simp[*])
theorem asks_ac (hH:HasAll P inv) (hM:∀ b,M b->b<w0.heap.size) (p:Pln) (s:State) (ws:List WayR) (C:List (Int×Int)) (l:Lock) (w:WayR) (H A:List Int) (t:Bool) (h1:w.asks.length<=1000) (hs:∀ a∈w.asks,0<=a.pnt/\a.pnt<=99) (hHl:H.length=100) (hAl:A.length=100) :
  AC P inv w0 M 30 120 [.agg w.c,.agg l.c,.fn 121 [.ptr 3 1 0,.ptr 6 1 0,.ptr 2 201 0]] (stG p s ws C l H A t) fun r0 σ'=>r0=.tup []/\σ'=stG p s ws C l H (if l.phase=0 then (A,t) else zfA l C w.asks A t).1 (if l.phase=0 then (A,t) else zfA l C w.asks A t).2:=by
 have hgb:=zgq (H:=H) (A:=A) (zfW ws);by_cases hph:l.phase=0
 ·simp only[hph,if_true]
  refine zbg (F:=cd120) (hH.has _ _ rfl) rfl (Nat.le_of_ble_eq_true rfl) fun Q hQ hR=>?_;have hE:=hH.callable;dsimp only[cd120]at hQ |-;refine wq ?_
  unfold stG
  (refine wD ?_;try exact wt)
  (have hX:=@hgb;(repeat' first|refine zaa [0,1,2,3,4,7,10,12,13,14,15,33] fun K hK=>?_|exact wt|refine wA ?_|(refine wB ?_ ?_<;>intro h<;>first|exact wN h|subst (h:(_:Bool)=_)|skip)|(refine wR ?_;clear hQ hR hE hM)|fail);all_goals clear hX)
  all_goals first|(exfalso;contradiction)|skip
  all_goals ((first|refine ⟨[],trivial, ?_⟩|refine ⟨[],⟨rfl,trivial⟩, ?_⟩);simp only[swS,stG];(refine wD ?_;try exact wt);(try simp))
 ·simp only[hph,if_false]
  refine zbg (F:=cd120) (hH.has _ _ rfl) rfl (Nat.le_of_ble_eq_true rfl) fun Q hQ hR=>?_;have hE:=hH.callable;dsimp only[cd120]at hQ |-;refine wq ?_
  skip
  unfold stG
  (refine wD ?_;try exact wt)
  (have hX:=@hgb;(repeat' first|refine zaa yz fun K hK=>?_|exact wt|refine wA ?_|(refine wB ?_ ?_<;>intro h<;>first|exact wN h|subst (h:(_:Bool)=_)|skip)|(refine wQ ?_;clear hQ hR)|fail);all_goals clear hX)
  all_goals first|(exfalso;contradiction)|skip
  refine zaj (ι:=Nat×(List Int)×Bool) [2,4,12,13,14] (fun z=>[(14,.n z.1)]) (fun z=>[(2,.cells (gc H z.2.1 (wsl ws)) true),(3,.cells [.b z.2.2] true)]) (fun z=>z.1) (w.asks.length) (fun z=>(z.2.1.length=100)/\(zfA l C (w.asks.drop z.1) z.2.1 z.2.2=zfA l C w.asks A t)) (0,A,t) ?_;rintro ⟨k,X,u⟩ ⟨hk,hx,hgo⟩;(try dsimp only at hk hx hgo |-);rcases Nat.lt_or_ge k w.asks.length with hlt|hge
  ·rw[zae hlt,zfA]at hgo
   have hb:=hs _ (zac hlt);have hgb2:=zgq (H:=H) (A:=X) (zfW ws);have e2:=gc_set2 (H:=H) (A:=X) (W:=wsl ws) hHl hx (i:=(nth w.asks k).pnt.toNat) (by omega) (nth w.asks k).lie
   have e3:=zhm (H:=H) (A:=X) (W:=wsl ws) hHl hx;(have hX:=zA @hgb2 (zA @e2 @e3);(repeat' first|refine zaa yz fun K hK=>?_|exact wt|refine wA ?_|(refine wB ?_ ?_<;>intro h<;>first|exact wN h|subst (h:(_:Bool)=_)|skip)|(refine wQ ?_;clear hQ hR)|(refine wI hH cd121 40 fun Q hQ hR=>?_;refine wq ?_;try refine wD ?_)|fail);all_goals clear hX)
   all_goals first
    |(rw[show zdv l (nth w.asks k)=true by simp[zdv, *],if_pos rfl,if_neg (by simp[*])]at hgo;rw[<-hgo];refine ⟨[],trivial, ?_⟩;simp only[swS,stG];(refine wD ?_;try exact wt);(try simp[*]);done)
    |(rw[show zdv l (nth w.asks k)=true by simp[zdv, *],if_pos rfl,if_pos ⟨by simp[*],by simp[*]⟩]at hgo;exact ⟨(k+1,X.set (nth w.asks k).pnt.toNat (nth w.asks k).lie,true),by dsimp only;omega,⟨by dsimp only;omega,by simp[hx],hgo⟩,by dsimp only;omega,rfl,by simp[*]⟩)
    |(rw[show zdv l (nth w.asks k)=false by simp[zdv];omega,if_neg (by simp)]at hgo;exact ⟨(k+1,X,_),by dsimp only;omega,⟨by dsimp only;omega,by simp[hx],hgo⟩,by dsimp only;omega,rfl,rfl⟩)
  ·rw[List.drop_eq_nil_of_le hge,zfA]at hgo
   (repeat' first|refine zaa yz fun K hK=>?_|exact wt|refine wA ?_|(refine wB ?_ ?_<;>intro h<;>first|exact wN h|subst (h:(_:Bool)=_)|skip)|(refine wQ ?_;clear hQ hR)|fail)
   rw[<-hgo];refine ⟨[],trivial, ?_⟩;simp only[swS,stG];(refine wD ?_;try exact wt);(try simp[*])
theorem zlp {s:Section} {f t:Int} (h:(za8 s f t).2=0):0<=(za8 s f t).1/\(za8 s f t).1<=2:=by
 unfold za8 at h |-
 split
 ·rename_i h1
  rw[if_pos h1]at h;split
  ·rename_i h2;rw[if_pos h2]at h;simp at h
  ·rename_i h2
   dsimp only;refine ⟨by omega, ?_⟩
   unfold zeK
   repeat' split
   all_goals omega
 ·rename_i h1;rw[if_neg h1]at h;simp at h
theorem joinEd {l:List Section} (h:zbR l=true) {s:Section} (hs:s∈l) {j:Join} (hj:j∈s.ends):0<=j.ed/\j.ed<=2:=by
 have h1:=(zeJ l).1 h;obtain ⟨i,hi,rfl⟩:=List.mem_iff_getElem.1 hj;rw[<-zay hi];rcases h1.join s hs i hi with h2|⟨_,h3,s',hs',_,h4,_⟩
 ·omega
 ·have:=(zaP h s' hs').2.2.2.2
  omega
theorem zhj {s:Section} {f:Int} {R:Int->Join->Bool}:∀ {l:List Join} {e:Nat} {v:Nat×Join×Int},zaY s f R e l=some v->v.2.1∈l/\0<=v.2.2/\v.2.2<=2
 |[],e,v,h=>by simp[zaY]at h
 |j::r,e,v,h=>by
  rw[zaY]at h;split at h
  ·rename_i h1
   simp only[Option.some.injEq]at h;subst h;exact ⟨by simp,zlp h1.1⟩
  ·have:=zhj h
   exact ⟨by simp[this.1],this.2⟩
theorem zln {p:Pln} {w:Wk} {id:Int} {s:Section} (h:zho p w id=some s):s∈p.sections:=by
 unfold zho at h;split at h
 ·exact List.mem_of_find?_eq_some h
 ·cases h
def WkOK (p:Pln) (w:Wk):Prop:=(0<=w.inn.ed/\w.inn.ed<=2)/\∀ a∈w.asks,zpI p a
theorem zmr {p:Pln} (h:OkP p) {w:Wk} {s i:Int} {R:Int->Join->Bool} (hw:WkOK p w):WkOK p (zaL p w s i R):=by
 unfold zaL;split
 ·exact hw
 ·split
  ·exact hw
  ·rename_i t ht
   have hs:=zln ht;split
   ·exact hw
   ·rename_i e j lie hp
    have:=zhj hp;dsimp only at this;exact ⟨joinEd h.sec hs this.1,znr hw.2 fun hc=>⟨.inl ⟨t,hs,rfl⟩,by omega⟩⟩
theorem stayW_ok {p:Pln} {w:Wk} {s i:Int} (hw:WkOK p w):WkOK p (zet p w s i):=by
 unfold zet;split
 ·exact hw
 ·rename_i t ht
  have hs:=zln ht;split
  ·exact ⟨hw.1,znr hw.2 fun hc=>⟨.inl ⟨t,hs,rfl⟩,by have:=hw.1;omega⟩⟩
  ·exact hw
theorem zlc {p:Pln} (h:OkP p) {r:Rte} {y:Sgn} {all:List Int}:∀ (l:List Int) (i:Nat) (w:Wk),WkOK p w->WkOK p (zbS p r y all i w l)
 |[],_,_,hw=>hw
 |s::l,i,w,hw=>by
  rw[zbS];refine zlc h l _ _ ?_;unfold zeB
  repeat' split
  all_goals first|exact zmr h hw|exact stayW_ok hw
theorem zrv {p:Pln} (h:OkP p) {x:Sgn} (he:∀ s∈p.sections,s.id=x.sec->0<=x.ed/\x.ed<s.ends.length):∀ (l:List Section) (j:Join),(∀ s∈l,s∈p.sections)->(0<=j.ed/\j.ed<=2)->0<=(zkK x j l).ed/\(zkK x j l).ed<=2
 |[],_,_,hj=>hj
 |s::l,j,hl,hj=>by
  rw[zkK];refine zrv h he l _ (fun t ht=>hl t (by simp[ht])) ?_
  split
  ·rename_i hid
   have:=he s (hl s (by simp)) hid
   exact joinEd h.sec (hl s (by simp)) (zac (by omega))
  ·exact hj
theorem zon {p:Pln}:∀ (f:List Flk) (l:List AskR),(∀ a∈l,zpI p a)->(∀ x∈f,(∃ y∈p.points,y.id=x.pnt)/\(x.lie=1\/x.lie=2))->∀ a∈zgZ l f,zpI p a
 |[],l,hl,_=>hl
 |x::f,l,hl,hf=>by
  rw[zgZ];refine zon f _ (znr hl fun _=>?_) fun y hy=>hf y (by simp[hy])
  have:=hf x (by simp)
  exact ⟨.inr this.1,this.2⟩
theorem zoM {p:Pln} (h:OkP p) {r:Rte} (hr:r∈p.routes):∀ a∈(zao p r).1.asks,zpI p a:=by
 unfold zao;split
 ·simp
 ·have h0:WkOK p (zhM p r):=by
   unfold zhM;exact zlc h _ _ _ ⟨zrv h (zjF h r) _ _ (fun _ hs=>hs) (by simp),by simp⟩
  have h1:=h.rte r hr;simp only[zc0,Bool.and_eq_true]at h1;exact zon _ _ h0.2 (zoo _ _ _ h1.2.2.2.2)
theorem ze7:∀ (l:List Section) (a:List Int) (m:Int),(zmn a m l).2=m+((l.filter fun s=>decide (0<s.pt)).length:Int)
 |[],a,m=>by simp[zmn]
 |s::r,a,m=>by
  rw[zmn];split
  ·rename_i h1;rw[ze7 r,List.filter_cons_of_pos (by simpa using h1),List.length_cons];omega
  ·rename_i h1;rw[ze7 r,List.filter_cons_of_neg (by simpa using h1)]
theorem zko:∀ (l:List Section) (a:List Int) (m:Int) (i:Nat),(∀ s∈l,s.pt<=99)->a.length=100->nth (zmn a m l).1 i=nth a i\/∃ s∈l,0<s.pt/\s.pt.toNat=i/\s.id=nth (zmn a m l).1 i
 |[],a,m,i,_,_=>.inl rfl
 |s::r,a,m,i,hl,ha=>by
  rw[zmn];have hs:=hl s (by simp)
  split
  ·rename_i h1
   rcases zko r (a.set s.pt.toNat s.id) (m+1) i (fun t ht=>hl t (by simp[ht])) (by simpa using ha) with h2|⟨t,ht,h3⟩
   ·rw[h2,za9 _ _ _ _ (by omega)]
    by_cases h4:i=s.pt.toNat
    ·rw[if_pos h4];exact .inr ⟨s,by simp,h1,h4.symm,rfl⟩
    ·rw[if_neg h4];exact .inl rfl
   ·exact .inr ⟨t,by simp[ht],h3⟩
  ·rcases zko r a m i (fun t ht=>hl t (by simp[ht])) ha with h2|⟨t,ht,h3⟩
   ·exact .inl h2
   ·exact .inr ⟨t,by simp[ht],h3⟩
theorem zkA {l1:List Int}:∀ {l2:List Int},l1.Nodup->(∀ x∈l1,x∈l2)->l1.length<=l2.length:=by
 induction l1 with
 |nil=>intro l2 _ _;simp
 |cons x l ih =>
  intro l2 hn hs;simp only[List.nodup_cons]at hn;have hx:=hs x (by simp)
  have:=ih (l2:=l2.erase x) hn.2 fun y hy=>(List.mem_erase_of_ne (by intro e;subst e;exact hn.1 hy)).2 (hs y (by simp[hy]))
  rw[List.length_erase_of_mem hx]at this;have:=List.length_pos_of_mem hx;simp only[List.length_cons];omega
theorem pigeon {l1 l2:List Int} (h1:l1.Nodup) (hs:∀ x∈l1,x∈l2) (hl:l2.length<=l1.length):∀ y∈l2,y∈l1:=by
 intro y hy;rcases Classical.em (y∈l1) with h|h
 ·exact h
 ·exfalso
  have:=zkA (l1:=y::l1) (l2:=l2) (by simp[h,h1]) (by simp;exact ⟨hy,hs⟩)
  simp only[List.length_cons]at this;omega
theorem zkg {l:List Int} {m:Int} (h:rise l m=true):l.Nodup:=zfc ((zdA l m).1 h).2.1
theorem zqH {p:Pln} (h:OkP p) {x:Pnt} (hx:x∈p.points):∃ s∈p.sections,0<s.pt/\s.pt=x.id/\s.id=x.sec:=by
 have hp:=h.pts;simp only[points,Bool.and_eq_true,decide_eq_true_eq,Bool.not_eq_true']at hp;have hr:=((zdA _ _).1 hp.1).1 x.id (List.mem_map_of_mem hx);have hb:=(List.any_eq_false.1 hp.2.2) x hx;simp only[zkq,Bool.or_eq_true,decide_eq_true_eq,Bool.not_eq_true',decide_eq_false_iff_not,not_or]at hb;have h1:=zaP h.sec;rcases zko p.sections (List.replicate 100 0) 0 x.id.toNat (fun s hs=>by have:=h1 s hs;omega) (by simp) with h2|⟨s,hs,h3,h4,h5⟩
 ·exfalso
  have h6:nth (pts p.sections).1 x.id.toNat=0:=by unfold pts;rw[h2,zdL _ _ _ (by omega)]
  have h7:nth (pts p.sections).1 x.id.toNat=x.sec:=by
   rcases Classical.em (nth (pts p.sections).1 x.id.toNat=x.sec) with h8|h8
   ·exact h8
   ·exact absurd h8 hb.2
  omega
 ·have h7:nth (pts p.sections).1 x.id.toNat=x.sec:=by
   rcases Classical.em (nth (pts p.sections).1 x.id.toNat=x.sec) with h8|h8
   ·exact h8
   ·exact absurd h8 hb.2
  exact ⟨s,hs,h3,by have:=h1 s hs;omega,by rw[h5];exact h7⟩
theorem zqn {p:Pln} (h:OkP p) {s:Section} (hs:s∈p.sections) (h0:0<s.pt):∃ x∈p.points,x.id=s.pt:=by
 have hp:=h.pts;simp only[points,Bool.and_eq_true,decide_eq_true_eq,Bool.not_eq_true']at hp;have hc:(pts p.sections).2=((p.sections.filter fun s=>decide (0<s.pt)).length:Int):=by unfold pts;rw[ze7];omega
 have:=pigeon (l1:=p.points.map Pnt.id) (l2:=(p.sections.filter fun s=>decide (0<s.pt)).map Section.pt) (zkg hp.1) (fun i hi=>by
  obtain ⟨x,hx,rfl⟩:=List.mem_map.1 hi;obtain ⟨t,ht,h3,h4,h5⟩:=zqH h hx;exact List.mem_map.2 ⟨t,List.mem_filter.2 ⟨ht,by simpa using h3⟩,h4⟩) (by simp only[List.length_map];have:=hp.2.1;omega) s.pt (List.mem_map.2 ⟨s,List.mem_filter.2 ⟨hs,by simpa using h0⟩,rfl⟩)
 obtain ⟨x,hx,e⟩:=List.mem_map.1 this;exact ⟨x,hx,e⟩
theorem zdF {p:Pln} (h:OkP p) {r:Rte} (hr:r∈p.routes) {a:AskR} (ha:a∈(zao p r).1.asks):(∃ x∈p.points,x.id=a.pnt)/\(1<=a.pnt/\a.pnt<=99)/\(a.lie=1\/a.lie=2):=by
 have h1:=zoM h hr a ha;have h2:∃ x∈p.points,x.id=a.pnt:=by
  rcases h1.1 with ⟨s,hs,e⟩|h3
  ·rw[<-e];exact zqn h hs (by rw[e];exact h1.2.1)
  ·exact h3
 refine ⟨h2, ?_,h1.2.2⟩;obtain ⟨x,hx,e⟩:=h2;have hp:=h.pts;simp only[points,Bool.and_eq_true]at hp;have:=((zdA _ _).1 hp.1).1 x.id (List.mem_map_of_mem hx);omega
theorem zed {p:Pln} (h:OkP p) {r:Rte} (hr:r∈p.routes):(∀ n∈r.path++r.over,∃ s∈p.sections,s.id=n)/\(r.path++r.over).Nodup:=by
 have h1:=h.rte r hr;simp only[zc0,zh6,Bool.and_eq_true]at h1;have h2:=(zkD _ _ _ (by simp)).1 h1.2.2.2.1
 exact ⟨fun n hn=>(zez h.sec n).1 (h2.1 n hn).1,h2.2⟩
theorem zeE {p:Pln} (h:OkP p) {s:Section} (hs:s∈p.sections):1<=s.id/\s.id<=99:=by have:=zaP h.sec s hs;omega
theorem zee {α:Type} [Inhabited α] (f:α->Int):∀ (l:List α),(l.map f).Pairwise (· < ·)↔∀ i,0<i->i<l.length->f (nth l (i-1))<f (nth l i)
 |[]=>by simp
 |[x]=>by
  simp;intro i h1 h2;omega
 |x::y::r=>by
  have ih:=zee f (y::r);rw[List.map_cons,List.pairwise_cons,ih];constructor
  ·rintro ⟨h1,h2⟩ i hi hl
   match i,hi with
   |1,_=>exact h1 (f y) (by simp)
   |i+2,_=>exact h2 (i+1) (by omega) (by simpa using hl)
  ·intro h
   have h2:∀ i,0<i->i<(y::r).length->f (nth (y::r) (i-1))<f (nth (y::r) i):=fun i hi hl=>by
    have:=h (i+1) (by omega) (by simpa using hl)
    match i,hi with
    |i+1,_=>exact this
   refine ⟨fun z hz=>?_,h2⟩
   have h3:f x<f y:=h 1 (by omega) (by simp)
   have h4:=ih.2 h2;rw[List.map_cons,List.pairwise_cons]at h4;rcases List.mem_cons.1 hz with rfl|hz
   ·exact h3
   ·have:=h4.1 z hz
    omega
theorem zgV:∀ (l:List Section) (a:List Int) (m:Int) (i:Nat),a.length=100->(∀ s∈l,s.pt<=99)->(∀ s∈l,0<s.pt->s.pt.toNat≠i)->nth (zmn a m l).1 i=nth a i
 |[],_,_,_,_,_,_=>rfl
 |s::r,a,m,i,ha,h9,h=>by
  rw[zmn];split
  ·rename_i h0
   have:=h9 s (by simp)
   rw[zgV r _ _ i (by simpa using ha) (fun t ht=>h9 t (by simp[ht])) (fun t ht=>h t (by simp[ht])),za9 _ _ _ _ (by omega),if_neg (fun e=>h s (by simp) h0 e.symm)]
  ·exact zgV r _ _ i ha (fun t ht=>h9 t (by simp[ht])) fun t ht=>h t (by simp[ht])
theorem zkn:∀ (l:List Section) (a:List Int) (m:Int),a.length=100->(∀ s∈l,s.pt<=99)->l.Pairwise Pw->∀ s∈l,0<s.pt->nth (zmn a m l).1 s.pt.toNat=s.id
 |[],_,_,_,_,_,s,hs,_=>by cases hs
 |t::r,a,m,ha,h9,hp,s,hs,h0=>by
  rw[List.pairwise_cons]at hp;have h9t:=h9 t (by simp)
  rw[zmn];rcases List.mem_cons.1 hs with rfl|hs
  ·rw[if_pos h0,zgV r _ _ _ (by simpa using ha) (fun u hu=>h9 u (by simp[hu])) (fun u hu h1 e=>(hp.1 u hu).2 (by omega) (by omega)),za9 _ _ _ _ (by omega),if_pos rfl]
  ·split
   ·exact zkn r _ _ (by simpa using ha) (fun u hu=>h9 u (by simp[hu])) hp.2 s hs h0
   ·exact zkn r _ _ ha (fun u hu=>h9 u (by simp[hu])) hp.2 s hs h0
structure PtsP (p:Pln):Prop where
 id:∀ x∈p.points,1<=x.id/\x.id<=99
 up:∀ i,0<i->i<p.points.length->(nth p.points (i-1)).id<(nth p.points i).id
 sec:∀ x∈p.points,∃ s∈p.sections,s.id=x.sec/\s.pt=x.id
 len:(p.points.length:Int)<=6
 many:((p.sections.filter fun s=>decide (0<s.pt)).length:Int)=p.points.length
theorem zn0 {p:Pln} (h:zbR p.sections=true):points p=true↔PtsP p:=by
 have hs:=zaP h;have hm:=(zeJ _).1 h;have h9:∀ s∈p.sections,s.pt<=99:=fun s hs'=>(hs s hs').2.2.2.1
 have hlen:(List.replicate 100 (0:Int)).length=100:=by simp
 unfold points;simp only[Bool.and_eq_true,zdA,decide_eq_true_eq,Bool.not_eq_true',List.any_eq_false];unfold pts;rw[ze7,zee];constructor
 ·rintro ⟨⟨h1,h2,h3⟩,h4,h5⟩
  refine ⟨fun x hx=>h1 x.id (List.mem_map_of_mem hx),h2,fun x hx=>?_,by simpa using h3,by omega⟩
  have h6:=h5 x hx;unfold zkq at h6;simp only[Bool.or_eq_true,Bool.not_eq_true',decide_eq_true_eq,decide_eq_false_iff_not,not_or,Classical.not_not]at h6;have hx1:=h1 x.id (List.mem_map_of_mem hx);rcases zko p.sections (List.replicate 100 0) 0 x.id.toNat h9 hlen with h7|⟨s,hs1,hs2,hs3,hs4⟩
  ·rw[h6.2,zdL _ _ _ (by omega)]at h7
   exact absurd h7 h6.1
  ·exact ⟨s,hs1,by rw[hs4,h6.2],by omega⟩
 ·rintro ⟨h1,h2,h3,h4,h5⟩
  refine ⟨⟨fun n hn=>?_,h2,by simpa using h4⟩,by omega,fun x hx=>?_⟩
  ·obtain ⟨x,hx,rfl⟩:=List.mem_map.1 hn
   exact h1 x hx
  ·obtain ⟨s,hs1,hs2,hs3⟩:=h3 x hx
   have h6:=zkn p.sections (List.replicate 100 0) 0 hlen h9 hm.pw s hs1 (by have:=h1 x hx;omega)
   have h7:=(hs s hs1).1;unfold zkq;rw[<-hs3,h6,<-hs2];simp;omega
def rpF (p:Pln):Bool :=
 zaZ (fun i (m:Int) za0=>cond (!decide ((nth p.sections i).pt=0)) (za0 (m+1)) (za0 m))
  (fun m=>zaZ (fun i _ za0=>cond (decide ((nth p.points i).id<1)||(decide (99<(nth p.points i).id)||(decide ((0:Int)<i)&&decide ((nth p.points i).id<=(nth p.points (i-1)).id)||(decide (zdd (nth p.points i).sec 0 p.sections<0)||!decide ((nth p.sections (zdd (nth p.points i).sec 0 p.sections).toNat).pt=(nth p.points i).id))))) false (za0 ()))
   (fun _=>decide ((p.points.length:Int)<=6)&&decide (m=(p.points.length:Int))) p.points.length 0 ()) p.sections.length 0 0
theorem rpF_eq {p:Pln} (h:zbR p.sections=true):rpF p=points p:=by
 have hs:=zaP h;have hm:=(zeJ _).1 h;have hso:zes p.sections:=zdb h;generalize hX:points p=X;have hiff:X=true↔PtsP p:=by rw[<-hX];exact zn0 h
 have good1:∀ {b:Bool},(b=true↔PtsP p)->b=X:=fun hb=>by rw[Bool.eq_iff_iff,hb,hiff]
 unfold rpF;refine zaE (·=X) (fun k m=>m=((((p.sections.take k).filter fun s=>decide (0<s.pt)).length:Nat):Int)) rfl ?_ ?_
 ·rintro k m za0 hk rfl hn
  have h1:=hs _ (zac hk);have h2:(p.sections.take (k+1)).filter (fun s=>decide (0<s.pt))=(p.sections.take k).filter (fun s=>decide (0<s.pt))++(if 0<(nth p.sections k).pt then [nth p.sections k] else []):=by
   rw[<-zjZ hk,List.filter_append]
   congr 1
   by_cases e:0<(nth p.sections k).pt
   ·simp[e]
   ·simp[e]
  by_cases e:(nth p.sections k).pt=0
  ·rw[decide_eq_true e,Bool.not_true,cond_false]
   refine hn _ ?_;rw[h2,if_neg (by omega),List.append_nil]
  ·rw[decide_eq_false e,Bool.not_false,cond_true]
   refine hn _ ?_;rw[h2,if_pos (by omega),List.length_append]
   simp
 ·rintro m rfl
  rw[List.take_of_length_le (Nat.le_refl _)];refine zaE (·=X) (fun k _=>∀ i,i<k->(1<=(nth p.points i).id/\(nth p.points i).id<=99)/\(0<i->(nth p.points (i-1)).id<(nth p.points i).id)/\∃ s∈p.sections,s.id=(nth p.points i).sec/\s.pt=(nth p.points i).id) (fun i hi=>by omega) ?_ ?_
  ·intro k _ za0 hk hK hn
   by_cases hok:(1<=(nth p.points k).id/\(nth p.points k).id<=99)/\(0<k->(nth p.points (k-1)).id<(nth p.points k).id)/\∃ s∈p.sections,s.id=(nth p.points k).sec/\s.pt=(nth p.points k).id
   ·obtain ⟨h1,h2,s,hs1,hs2,hs3⟩:=hok
    have h4:=zdP hso hs1;rw[hs2]at h4;have:(decide ((nth p.points k).id<1)||(decide (99<(nth p.points k).id)||(decide ((0:Int)<k)&&decide ((nth p.points k).id<=(nth p.points (k-1)).id)||(decide (zdd (nth p.points k).sec 0 p.sections<0)||!decide ((nth p.sections (zdd (nth p.points k).sec 0 p.sections).toNat).pt=(nth p.points k).id)))))=false:=by
     rw[h4.1,hs3];simp only[Bool.or_eq_false_iff,Bool.and_eq_false_imp,decide_eq_false_iff_not,decide_eq_true_eq,Bool.not_eq_false'];refine ⟨by omega,by omega,fun h=>?_,by omega,trivial⟩
     have:=h2 (by omega)
     omega
    rw[this,cond_false];refine hn () fun i hi=>?_
    rcases Nat.lt_or_ge i k with h|h
    ·exact hK i h
    ·obtain rfl:i=k:=by omega
     exact ⟨h1,h2,s,hs1,hs2,hs3⟩
   ·have:(decide ((nth p.points k).id<1)||(decide (99<(nth p.points k).id)||(decide ((0:Int)<k)&&decide ((nth p.points k).id<=(nth p.points (k-1)).id)||(decide (zdd (nth p.points k).sec 0 p.sections<0)||!decide ((nth p.sections (zdd (nth p.points k).sec 0 p.sections).toNat).pt=(nth p.points k).id)))))=true:=by
     rw[<-Bool.not_eq_false];intro hf;simp only[Bool.or_eq_false_iff,Bool.and_eq_false_imp,decide_eq_false_iff_not,decide_eq_true_eq,Bool.not_eq_false']at hf;obtain ⟨h1,h2,h3,h4,h5⟩:=hf;refine hok ⟨⟨by omega,by omega⟩,fun h=>?_, ?_⟩
     ·have:=h3 (by omega)
      omega
     ·rcases zcr (nth p.points k).sec p.sections 0 with ⟨e,_⟩|⟨q,hq,e,e2⟩
      ·rw[e]at h4;exact absurd (by decide) h4
      ·have e3:(zdd (nth p.points k).sec 0 p.sections).toNat=q:=by omega
       rw[e3]at h5;exact ⟨_,zac hq,e2,h5⟩
    rw[this,cond_true];refine good1 ⟨fun h=>(by cases h),fun hp=>absurd ?_ hok⟩
    exact ⟨hp.id _ (zac hk),fun h=>hp.up k h hk,hp.sec _ (zac hk)⟩
  ·intro _ hK
   refine good1 ?_;simp only[Bool.and_eq_true,decide_eq_true_eq];constructor
   ·rintro ⟨h1,h2⟩
    refine ⟨fun x hx=>?_,fun i h0 hi=>(hK i hi).2.1 h0,fun x hx=>?_,h1,h2⟩
    ·obtain ⟨i,hi,rfl⟩:=zbN hx
     exact (hK i hi).1
    ·obtain ⟨i,hi,rfl⟩:=zbN hx
     exact (hK i hi).2.2
   ·intro hp
    exact ⟨hp.len,hp.many⟩
def zdI (p:Pln) (n:Int):Section:=nth p.sections (zdd n 0 p.sections).toNat
def zmm (p:Pln) (r:Rte) (all:List Int) (i:Nat) (s:Section) (e:Int) (j:Join):Bool :=
 if (i:Int)=(r.path.length:Int)-1 then (decide (r.exit=0)&&decide (j.to=0)||!decide (r.exit=0)&&decide (znS p s.id e=r.exit)) else decide (j.to=nth all (i+1))
def outW (p:Pln) (r:Rte) (all:List Int) (i:Nat) (s:Section) (f:Int):Option (Nat×Join×Int):=zaY s f (zmm p r all i s) 0 s.ends
def zhu (p:Pln) (r:Rte) (all:List Int):Nat->Join->List Int->List Int->List Int->Option (List Int×List Int)
 |_,_,ins,outs,[]=>some (ins,outs)
 |i,j,ins,outs,n::l =>
  if j.to=n then (if i+1=all.length/\0<r.over.length then some (ins++[j.ed],outs++[-1]) else
   match outW p r all i (zdI p n) j.ed with
   |none=>none
   |some v=>zhu p r all (i+1) v.2.1 (ins++[j.ed]) (outs++[(v.1:Int)]) l)
  else none
def zsl (p:Pln) (i:Nat) (n a b:Int):List AskR :=
 if (zdI p n).pt=0 then [] else if 0<(if 0<=b then zeK (zdI p n) a b else a) then [⟨(zdI p n).pt,(if 0<=b then zeK (zdI p n) a b else a),i⟩] else []
def ziz (p:Pln):Nat->List Int->List Int->List Int->List AskR
 |i,n::l,a::I,b::O=>zsl p i n a b++ziz p (i+1) l I O
 |_,_,_,_=>[]
def outG:List Int->List Int->List Join
 |n::l,b::O=>(if 0<=b then [⟨n,b⟩] else [])++outG l O
 |_,_=>[]
theorem zjX {p:Pln} {w:Wk} {s i:Int} {R:Int->Join->Bool} (h:w.lost=true):(zaL p w s i R).lost=true:=by
 unfold zaL;rw[if_pos h];exact h
theorem zoS {p:Pln} {w:Wk} {s i:Int} (h:w.lost=true):(zet p w s i).lost=true:=by
 unfold zet;split
 ·rfl
 ·rw[if_neg (by rw[h];simp)]
  exact h
theorem zfC {p:Pln} {r:Rte} {y:Sgn} {all:List Int}:∀ (l:List Int) (i:Nat) (w:Wk),w.lost=true->(zbS p r y all i w l).lost=true
 |[],_,_,h=>h
 |s::l,i,w,h=>by
  rw[zbS];refine zfC l _ _ ?_;unfold zeB
  repeat' split
  all_goals first|exact zjX h|exact zoS h
theorem zgi {s:Section} {f:Int} {R R':Int->Join->Bool}:∀ (l:List Join) (e:Nat),(∀ k,k<l.length->R ((e+k:Nat):Int) (nth l k)=R' ((e+k:Nat):Int) (nth l k))->zaY s f R e l=zaY s f R' e l
 |[],_,_=>rfl
 |j::r,e,h=>by
  have h0:R (e:Int) j=R' (e:Int) j:=h 0 (by simp)
  have ih:=zgi (s:=s) (f:=f) (R:=R) (R':=R') r (e+1) fun k hk=>by
   have:=h (k+1) (by simpa using hk)
   rw[show e+(k+1)=e+1+k by omega]at this
   exact this
  rw[zaY,zaY,ih,h0]
theorem ze8 {s:Section} {f:Int} {R:Int->Join->Bool}:∀ (l:List Join) (e:Nat) {v:Nat×Join×Int},zaY s f R e l=some v->e<=v.1/\v.1<e+l.length/\v.2.1=nth l (v.1-e)/\(za8 s f v.1).2=0/\v.2.2=(za8 s f v.1).1
 |[],_,v,h=>by simp[zaY]at h
 |j::r,e,v,h=>by
  rw[zaY]at h;split at h
  ·rename_i h1
   simp only[Option.some.injEq]at h;subst h;exact ⟨Nat.le_refl _,by simp,by rw[Nat.sub_self];rfl,h1.1,rfl⟩
  ·obtain ⟨h1,h2,h3,h4⟩:=ze8 r (e+1) h
   refine ⟨by omega,by simp;omega, ?_,h4⟩
   rw[h3,show v.1-e=(v.1-(e+1))+1 by omega]
   rfl
section
variable {p:Pln} (hs:zbR p.sections=true)
include hs
theorem zfG {n:Int} (h:∃ s∈p.sections,s.id=n):zdI p n∈p.sections/\(zdI p n).id=n/\p.sections.find? (fun s=>decide (s.id=n))=some (zdI p n):=by
 obtain ⟨s,hs1,e⟩:=h;have h1:=zdP (zdb hs) hs1;rw[e]at h1;have h2:zdI p n=s:=h1.1;rw[h2];have:=ziJ Section.id (zfc (zlo hs)) hs1;rw[e]at this;exact ⟨hs1,e,this⟩
theorem zlj {s:Section} (h:s∈p.sections):zbh s=true:=((zeJ _).1 hs).one s h |>.2.2
theorem join_0 {s:Section} (h:s∈p.sections) {e:Nat} (he:e<s.ends.length):(nth s.ends e).to=0↔nth s.ends e=⟨0,0⟩:=by
 constructor
 ·intro h0
  rcases ((zeJ _).1 hs).join s h e he with h1|⟨_,_,s',hs',e1,_⟩
  ·cases hj:nth s.ends e with
   |mk a b =>
    rw[hj]at h1;obtain ⟨h2,h3⟩:=h1;dsimp only at h2 h3;rw[h2,h3]
  ·have:=(zaP hs s' hs').1
   omega
 ·intro h0;rw[h0]
end
theorem zqi {p:Pln} (h:SgsP p):(p.signals.map Sgn.id).Nodup:=by
 rw[List.nodup_iff_pairwise_ne,List.pairwise_map,zek];intro i hi m hm;have:=h.up i hi m hm;omega
theorem znO (n:Int):∀ (l:List Sgn) (o:Sgn),(∀ x∈l,x.id≠n)->zoW n o l=o
 |[],_,_=>rfl
 |x::r,o,h=>by rw[zoW,if_neg (h x (by simp))];exact znO n r o fun y hy=>h y (by simp[hy])
theorem zmA (n:Int):∀ (l:List Sgn) (o:Sgn),(l.map Sgn.id).Nodup->∀ x∈l,x.id=n->zoW n o l=x
 |[],_,_,x,hx,_=>by cases hx
 |y::r,o,hn,x,hx,e=>by
  simp only[List.map_cons,List.nodup_cons]at hn;rw[zoW];rcases List.mem_cons.1 hx with rfl|hx
  ·rw[if_pos e]
   exact znO n r x fun z hz e2=>hn.1 (by rw[e,<-e2];exact List.mem_map_of_mem hz)
  ·split
   ·exact zmA n r _ hn.2 x hx e
   ·exact zmA n r _ hn.2 x hx e
theorem znN {p:Pln} (h:SgsP p) {x:Sgn} (hx:x∈p.signals):sig p x.id=x:=zmA _ _ _ (zqi h) x hx rfl
theorem zoh (x:Sgn):∀ (l:List Section) (j:Join),(∀ s∈l,s.id≠x.sec)->zkK x j l=j
 |[],_,_=>rfl
 |s::r,j,h=>by rw[zkK,if_neg (h s (by simp))];exact zoh x r j fun y hy=>h y (by simp[hy])
theorem zrw (x:Sgn):∀ (l:List Section) (j:Join),(l.map Section.id).Nodup->∀ s∈l,s.id=x.sec->zkK x j l=nth s.ends x.ed.toNat
 |[],_,_,s,hs,_=>by cases hs
 |t::r,j,hn,s,hs,e=>by
  simp only[List.map_cons,List.nodup_cons]at hn;rw[zkK];rcases List.mem_cons.1 hs with rfl|hs
  ·rw[if_pos e]
   exact zoh x r _ fun z hz e2=>hn.1 (by rw[e,<-e2];exact List.mem_map_of_mem hz)
  ·exact zrw x r _ hn.2 s hs e
theorem znR {p:Pln} (h:SgsP p) {a b n:Int} (hn:¬n=0):znS p a b=n↔∃ x∈p.signals,x.id=n/\x.sec=a/\x.ed=b:=by
 unfold znS;constructor
 ·intro e
  cases hf:p.signals.find? (fun x=>decide (x.sec=a)&&decide (x.ed=b)) with
  |none=>rw[hf]at e;exact absurd e.symm hn
  |some x =>
   rw[hf]at e;have h1:=List.find?_some hf;simp only[Bool.and_eq_true,decide_eq_true_eq]at h1;exact ⟨x,List.mem_of_find?_eq_some hf,e,h1⟩
 ·rintro ⟨x,hx,e1,e2,e3⟩
  cases hf:p.signals.find? (fun x=>decide (x.sec=a)&&decide (x.ed=b)) with
  |none =>
   have:=List.find?_eq_none.1 hf x hx;simp[e2,e3]at this
  |some z =>
   have h1:=List.find?_some hf;simp only[Bool.and_eq_true,decide_eq_true_eq]at h1;obtain ⟨i,hi,rfl⟩:=zbN hx;obtain ⟨k,hk,rfl⟩:=zbN (List.mem_of_find?_eq_some hf);show (nth p.signals k).id=n
   rcases Nat.lt_trichotomy i k with hlt|rfl|hlt
   ·exact absurd ⟨e2.trans h1.1.symm,e3.trans h1.2.symm⟩ (h.apart k hk i hlt)
   ·exact e1
   ·exact absurd ⟨h1.1.trans e2.symm,h1.2.trans e3.symm⟩ (h.apart i hi k hlt)
theorem zqj {p:Pln} (h:SgsP p) {a b:Int}:znS p a b=0↔∀ x∈p.signals,¬(x.sec=a/\x.ed=b):=by
 unfold znS;cases hf:p.signals.find? (fun x=>decide (x.sec=a)&&decide (x.ed=b)) with
 |none =>
  refine ⟨fun _ x hx e=>?_,fun _=>rfl⟩
  have:=List.find?_eq_none.1 hf x hx;simp[e.1,e.2]at this
 |some z =>
  have h1:=List.find?_some hf;simp only[Bool.and_eq_true,decide_eq_true_eq]at h1;have hz:=List.mem_of_find?_eq_some hf;refine ⟨fun e=>?_,fun e=>absurd h1 (e z hz)⟩
  have:=h.id z hz;have e:z.id=0:=e;omega
section
variable {p:Pln} (hs:zbR p.sections=true) (hg:SgsP p) {r:Rte} (hr:RteP p r)
include hs hg hr
theorem zld {all:List Int} (hall:all=r.path++r.over) {i:Nat} (hi:i<all.length) (hst:¬(i+1=all.length/\0<r.over.length)) (w:Wk) (hw:w.lost=false) (hj:w.inn.to=nth all i) :
  zeB p r (sig p r.exit) all i (nth all i) w=match outW p r all i (zdI p (nth all i)) w.inn.ed with
   |none=>{ w with lost:=true }
   |some v=>⟨v.2.1,zjj (zdI p (nth all i)).pt v.2.2 i w.asks,w.outs++[⟨nth all i,v.1⟩],false⟩:=by
 have hsec:=(hr.secs (nth all i) (by rw[<-hall];exact zac hi)).1
 obtain ⟨hm,hid,hf⟩:=zfG hs hsec;have hlen:=hr.lens;have hal:all.length=r.path.length+r.over.length:=by rw[hall,List.length_append]
 have key:∀ R:Int->Join->Bool,(∀ k,k<(zdI p (nth all i)).ends.length->R ((0+k:Nat):Int) (nth (zdI p (nth all i)).ends k)=zmm p r all i (zdI p (nth all i)) ((0+k:Nat):Int) (nth (zdI p (nth all i)).ends k)) ->
   zaL p w (nth all i) i R=match outW p r all i (zdI p (nth all i)) w.inn.ed with
    |none=>{ w with lost:=true }
    |some v=>⟨v.2.1,zjj (zdI p (nth all i)).pt v.2.2 i w.asks,w.outs++[⟨nth all i,v.1⟩],false⟩:=by
  intro R hR;unfold zaL outW zho;rw[if_neg (by rw[hw];simp),if_pos hj,hf,<-zgi _ _ hR]
  dsimp only;cases zaY (zdI p (nth all i)) w.inn.ed R 0 (zdI p (nth all i)).ends with
  |none=>rfl
  |some v=>rfl
 unfold zeB;by_cases h1:(i:Int)=(r.path.length:Int)-1
 ·by_cases h2:r.exit=0
  ·rw[if_pos ⟨h1,h2⟩]
   refine key _ fun k hk=>?_
   unfold zmm;rw[if_pos h1,decide_eq_true h2,Bool.not_true,Bool.false_and,Bool.or_false,Bool.true_and,Bool.eq_iff_iff,decide_eq_true_eq,decide_eq_true_eq];exact (join_0 hs hm hk).symm
  ·rw[if_neg (fun h=>h2 h.2),if_pos h1]
   refine key _ fun k hk=>?_
   unfold zmm;rw[if_pos h1,decide_eq_false h2,Bool.false_and,Bool.false_or,Bool.not_false,Bool.true_and,hid,Bool.eq_iff_iff,Bool.and_eq_true,decide_eq_true_eq,decide_eq_true_eq,decide_eq_true_eq,znR hg h2];obtain ⟨x,hx,ex⟩:=(hr.ex h2).1;have hsx:sig p r.exit=x:=by rw[<-ex];exact znN hg hx
   rw[hsx];constructor
   ·rintro ⟨e1,e2⟩;exact ⟨x,hx,ex,e1.symm,e2.symm⟩
   ·rintro ⟨y,hy,e1,e2,e3⟩
    have:x=y:=by rw[<-znN hg hx,<-znN hg hy,ex,e1]
    subst this;exact ⟨e2.symm,e3.symm⟩
 ·have h3:¬(i:Int)=(all.length:Int)-1:=fun h=>by
   rcases Nat.eq_zero_or_pos r.over.length with h0|h0
   ·omega
   ·exact hst ⟨by omega,h0⟩
  rw[if_neg (fun h=>h1 h.1),if_neg h1,if_neg h3]
  refine key _ fun k hk=>?_
  unfold zmm;rw[if_neg h1]
theorem zjH {all:List Int} (hall:all=r.path++r.over):∀ (l:List Int) (i:Nat) (j:Join) (asks:List AskR) (outs:List Join) (I O:List Int),all.drop i=l->i<=all.length ->
  match zhu p r all i j I O l with
  |none=>(zbS p r (sig p r.exit) all i ⟨j,asks,outs,false⟩ l).lost=true
  |some v=>(zbS p r (sig p r.exit) all i ⟨j,asks,outs,false⟩ l).lost=false/\∃ I' O':List Int,v=(I++I',O++O')/\I'.length=l.length/\O'.length=l.length /\
    (zbS p r (sig p r.exit) all i ⟨j,asks,outs,false⟩ l).asks=asks++ziz p i l I' O'/\(zbS p r (sig p r.exit) all i ⟨j,asks,outs,false⟩ l).outs=outs++outG l O'
 |[],i,j,asks,outs,I,O,_,_=>⟨rfl,[],[],by simp,rfl,rfl,by simp[zbS,ziz],by simp[zbS,outG]⟩
 |n::l,i,j,asks,outs,I,O,hd,hi=>by
  have hil:i<all.length:=by
   rcases Nat.lt_or_ge i all.length with h|h
   ·exact h
   ·rw[List.drop_eq_nil_of_le h]at hd;cases hd
  have hn:nth all i=n/\all.drop (i+1)=l:=by
   rw[zae hil]at hd;simp only[List.cons.injEq]at hd;exact hd
  obtain ⟨hn1,hn2⟩:=hn;have hsec:=(hr.secs n (by rw[<-hall,<-hn1];exact zac hil)).1
  obtain ⟨hm,hid,hf⟩:=zfG hs hsec;have hpt:0<=(zdI p n).pt:=(zaP hs _ hm).2.2.1;have hsh:=zlj hs hm;rw[zhu,zbS];by_cases hj:j.to=n
  ·rw[if_pos hj]
   by_cases hst:i+1=all.length/\0<r.over.length
   ·rw[if_pos hst]
    have hl:l=[]:=by rw[<-hn2];exact List.drop_eq_nil_of_le (by omega)
    subst hl;have hal:all.length=r.path.length+r.over.length:=by rw[hall,List.length_append]
    have hW:zeB p r (sig p r.exit) all i n ⟨j,asks,outs,false⟩=⟨j,zjj (zdI p n).pt (if 0<j.ed then j.ed else 0) i asks,outs,false⟩:=by
     unfold zeB;rw[if_neg (by omega),if_neg (by omega),if_pos (by omega)]
     unfold zet zho;rw[if_pos hj,hf];dsimp only;by_cases h0:0<j.ed
     ·rw[if_pos ⟨rfl,h0⟩,if_pos h0]
     ·rw[if_neg (fun h=>h0 h.2),if_neg h0]
      unfold zjj;rw[if_neg (by omega)]
    rw[hW,zbS];refine ⟨rfl,[j.ed],[-1],rfl,rfl,rfl, ?_, ?_⟩
    ·dsimp only
     rw[show ziz p i [n] [j.ed] [-1]=zsl p i n j.ed (-1) by simp[ziz]]
     unfold zjj zsl;rw[if_neg (show ¬(0:Int)<=-1 by decide)]
     by_cases h0:0<j.ed
     ·rw[if_pos h0,if_pos h0]
      by_cases h1:(zdI p n).pt=0
      ·rw[if_neg (by omega),if_pos h1];simp
      ·rw[if_pos ⟨by omega,h0⟩,if_neg h1]
     ·rw[if_neg h0,if_neg h0,if_neg (by omega)]
      simp
    ·rw[show outG [n] [-1]=[] by simp[outG]];simp
   ·rw[if_neg hst]
    have hT:=zld hs hg hr hall hil hst ⟨j,asks,outs,false⟩ rfl (by rw[hn1];exact hj)
    rw[hn1]at hT;rw[hT];dsimp only;cases ho:outW p r all i (zdI p n) j.ed with
    |none=>exact zfC l _ _ rfl
    |some v =>
     dsimp only;have hpe:=ze8 (zdI p n).ends 0 ho;have ih:=zjH hall l (i+1) v.2.1 (zjj (zdI p n).pt v.2.2 i asks) (outs++[⟨n,v.1⟩]) (I++[j.ed]) (O++[(v.1:Int)]) hn2 hil;cases he:zhu p r all (i+1) v.2.1 (I++[j.ed]) (O++[(v.1:Int)]) l with
     |none=>rw[he]at ih;exact ih
     |some u =>
      rw[he]at ih;obtain ⟨h1,I',O',h2,h3,h4,h5,h6⟩:=ih;refine ⟨h1,j.ed::I',(v.1:Int)::O',by rw[h2];simp,by simp[h3],by simp[h4], ?_, ?_⟩
      ·rw[h5,ziz]
       have hlie:v.2.2=zeK (zdI p n) j.ed v.1/\0<=zeK (zdI p n) j.ed v.1:=by
        have h7:=hpe.2.2.2.1;have h8:=hpe.2.2.2.2;unfold za8 at h7 h8;rw[if_pos hsh]at h7 h8;split at h7
        ·cases h7
        ·rename_i h9
         rw[if_neg h9]at h8;exact ⟨h8,by omega⟩
       rw[<-List.append_assoc]
       congr 1
       unfold zjj zsl;rw[if_pos (show (0:Int)<=(v.1:Int) by omega),hlie.1]
       by_cases h1:(zdI p n).pt=0
       ·rw[if_neg (by omega),if_pos h1];simp
       ·rw[if_neg h1]
        by_cases h0:0<zeK (zdI p n) j.ed v.1
        ·rw[if_pos ⟨by omega,h0⟩,if_pos h0]
        ·rw[if_neg (by omega),if_neg h0];simp
      ·rw[h6,outG,if_pos (show (0:Int)<=(v.1:Int) by omega)]
       simp
  ·rw[if_neg hj]
   refine zfC l _ _ ?_;have h0:zho p ⟨j,asks,outs,false⟩ n=none:=by
    unfold zho;rw[if_neg hj]
   unfold zeB
   repeat' split
   all_goals first
    |(unfold zaL;rw[if_neg (by simp),h0])
    |(unfold zet;rw[h0])
end
theorem zgh {s:Section} {f:Int} {R:Int->Join->Bool}:∀ (l:List Join) (e:Nat) {v:Nat×Join×Int},zaY s f R e l=some v->R v.1 v.2.1=true
 |[],_,v,h=>by simp[zaY]at h
 |j::r,e,v,h=>by
  rw[zaY]at h;split at h
  ·rename_i h1
   simp only[Option.some.injEq]at h;subst h;exact h1.2
  ·exact zgh r (e+1) h
def EndOk (p:Pln) (r:Rte) (all:List Int) (k:Nat) (b:Int):Prop :=
 (0<=b/\zmm p r all k (zdI p (nth all k)) b (nth (zdI p (nth all k)).ends b.toNat)=true)\/(b=-1/\k+1=all.length/\0<r.over.length)
theorem zkU {p:Pln} {r:Rte} {all:List Int}:∀ (l:List Int) (i:Nat) (j:Join) (I O:List Int) (v:List Int×List Int),all.drop i=l->zhu p r all i j I O l=some v ->
  ∃ O':List Int,v.2=O++O'/\O'.length=l.length/\∀ k,k<O'.length->EndOk p r all (i+k) (nth O' k)
 |[],i,j,I,O,v,_,h=>by
  rw[zhu]at h;simp only[Option.some.injEq]at h;subst h;exact ⟨[],by simp,rfl,fun k hk=>by simp at hk⟩
 |n::l,i,j,I,O,v,hd,h=>by
  have hil:i<all.length:=by
   rcases Nat.lt_or_ge i all.length with h1|h1
   ·exact h1
   ·rw[List.drop_eq_nil_of_le h1]at hd;cases hd
  have hn:nth all i=n/\all.drop (i+1)=l:=by
   rw[zae hil]at hd;simp only[List.cons.injEq]at hd;exact hd
  obtain ⟨hn1,hn2⟩:=hn;rw[zhu]at h;split at h
  ·split at h
   ·rename_i hst
    simp only[Option.some.injEq]at h;subst h;have hl:l=[]:=by rw[<-hn2];exact List.drop_eq_nil_of_le (by omega)
    subst hl;refine ⟨[-1],rfl,rfl,fun k hk=>.inr ?_⟩
    have:k=0:=by simpa using hk
    subst this;exact ⟨rfl,hst.1,hst.2⟩
   ·split at h
    ·cases h
    ·rename_i u hu
     obtain ⟨O',h1,h2,h3⟩:=zkU l (i+1) _ _ _ v hn2 h;refine ⟨(u.1:Int)::O',by rw[h1];simp,by simp[h2],fun k hk=>?_⟩
     match k with
     |0 =>
      have h4:=zgh _ _ hu;have h5:=ze8 _ _ hu;refine .inl ⟨by show (0:Int)<=(u.1:Int);omega, ?_⟩
      rw[Nat.add_zero,hn1];show zmm p r all i (zdI p n) (u.1:Int) (nth (zdI p n).ends ((u.1:Int)).toNat)=true
      rw[Int.toNat_natCast];rw[Nat.sub_zero]at h5;rw[<-h5.2.2.1];exact h4
     |k+1 =>
      have:=h3 k (by simpa using hk)
      rw[show i+(k+1)=i+1+k by omega]
      exact this
  ·cases h
def zjG (p:Pln) (r:Rte):Join:=nth (zdI p (nth p.signals (za1 (fun x=>decide (Sgn.id x=r.entry)) 0 p.signals).toNat).sec).ends (nth p.signals (za1 (fun x=>decide (Sgn.id x=r.entry)) 0 p.signals).toNat).ed.toNat
def zjf (p:Pln) (r:Rte):Option (List Int×List Int):=zhu p r (r.path++r.over) 0 (zjG p r) [] [] (r.path++r.over)
theorem zlV:∀ (f:List Flk) (l:List AskR),(∀ x∈f,0<x.pnt/\0<x.lie)->zgZ l f=l++f.map fun x=>⟨x.pnt,x.lie,-1⟩
 |[],l,_=>by simp[zgZ]
 |x::f,l,h=>by
  rw[zgZ,zlV f _ fun y hy=>h y (by simp[hy])]
  unfold zjj;rw[if_pos (h x (by simp))]
  simp
def asksV (p:Pln) (r:Rte) (I O:List Int):List AskR:=ziz p 0 (r.path++r.over) I O++r.flanks.map fun x=>⟨x.pnt,x.lie,-1⟩
section
variable {p:Pln} (hs:zbR p.sections=true) (hg:SgsP p) (hp:PtsP p) {r:Rte} (hr:RteP p r)
include hs hg hr
theorem ziO:∃ k:Nat,k<p.signals.length/\za1 (fun x=>decide (Sgn.id x=r.entry)) 0 p.signals=(k:Int)/\(nth p.signals k).id=r.entry/\sig p r.entry=nth p.signals k:=by
 rcases zcb Sgn.id r.entry p.signals with ⟨_,h4⟩|⟨k,hk,h4,h5⟩
 ·obtain ⟨x,hx,ex⟩:=hr.ent
  exact absurd ex (h4 x hx)
 ·exact ⟨k,hk,h4,h5,by rw[<-h5];exact znN hg (zac hk)⟩
theorem zjE:zjG p r=zkK (sig p r.entry) ⟨0,0⟩ p.sections:=by
 obtain ⟨k,hk,h1,h2,h3⟩:=ziO hs hg hr;obtain ⟨s,hs1,e,_⟩:=hg.sec _ (zac hk);have h4:=zfG hs ⟨s,hs1,e⟩;unfold zjG;rw[h1,Int.toNat_natCast,h3];exact (zrw (nth p.signals k) p.sections ⟨0,0⟩ (zfc (zlo hs)) _ h4.1 h4.2.1).symm
include hp
theorem zhF:match zjf p r with
  |none=>(zao p r).2.2=90
  |some v=>v.1.length=(r.path++r.over).length/\v.2.length=(r.path++r.over).length/\zao p r=(⟨r.path,r.over,asksV p r v.1 v.2,(sig p r.entry).sec⟩,outG (r.path++r.over) v.2,0):=by
 have h1:=zjH hs hg hr (all:=r.path++r.over) rfl (r.path++r.over) 0 (zjG p r) [] [] [] [] rfl (Nat.zero_le _);rw[zjE hs hg hr]at h1;unfold zjf;rw[zjE hs hg hr];cases he:zhu p r (r.path++r.over) 0 (zkK (sig p r.entry) ⟨0,0⟩ p.sections) [] [] (r.path++r.over) with
 |none =>
  rw[he]at h1;dsimp only;unfold zao zhM;rw[if_pos h1]
 |some v =>
  rw[he]at h1;obtain ⟨h2,I',O',h3,h4,h5,h6,h7⟩:=h1;simp only[List.nil_append]at h3 h6 h7;subst h3;dsimp only;refine ⟨h4,h5, ?_⟩;have hfl:∀ x∈r.flanks,0<x.pnt/\0<x.lie:=fun x hx=>by
   obtain ⟨i,hi,rfl⟩:=zbN hx;obtain ⟨⟨y,hy,ey⟩,_,h8⟩:=hr.flk i hi;have:=hp.id y hy;omega
  unfold zao zhM;rw[if_neg (by rw[h2];simp),h6,h7,zlV _ _ hfl]
  rfl
end
end Go.Lev
