/-
  A part of the engine that walks the functions' codes, and of the functions' contracts. Conditions: those that each theorem names.
-/
import Derived.Test.YtokllheinelgjaaL7
import Derived.IntWalk
set_option linter.unusedSimpArgs false
set_option linter.unusedVariables false
set_option linter.unusedSectionVars false
namespace Go.Lev
open Go.Eng
theorem zel (C:List (Int×Int)) (k v k':Int):zeD (zjz C k v) k'=if k'=k then v else zeD C k':=by
 induction C with
 |nil=>simp[zjz,zeD]
 |cons q r ih =>
  rw[zjz]
  split
  ·rename_i h;subst h;simp only[zeD];split<;>rfl
  ·rename_i h
   simp only[zeD,ih]
   by_cases h1:k'=q.1
   ·rw[if_pos h1,if_pos h1,if_neg (by omega)]
   ·rw[if_neg h1,if_neg h1]
theorem zg2:∀ (l:List Switch) (C:List (Int×Int)) (k:Int),(∀ x∈l,x.id≠k)→zeD (zft C l) k=zeD C k
 |[],_,_,_=>rfl
 |x::r,C,k,h=>by
  rw[zft,zg2 r _ k fun y hy=>h y (by simp[hy]),zel,if_neg (fun e=>h x (by simp) e.symm)]
theorem zjB:∀ (l:List Switch) (C:List (Int×Int)),(l.map Switch.id).Nodup→∀ x∈l,zeD (zft C l) x.id=x.call
 |[],_,_,x,h=>by cases h
 |y::r,C,hn,x,hx=>by
  simp only[List.map_cons,List.nodup_cons]at hn
  rw[zft]
  rcases List.mem_cons.1 hx with rfl|hx
  ·rw[zg2 r _ _ fun z hz e=>hn.1 (by rw[←e];exact List.mem_map_of_mem hz),zel,if_pos rfl]
  ·exact zjB r _ hn.2 x hx
def zex (s:State) (n:Int):Int:=zeD (zft [] s.switches) n
def zof (p:Pln) (s:State):List WL:=(zbc p).zip s.locks
theorem zeG {α β:Type} {q:α→β→Bool} {f:α→Int} {g:β→Int} (hq:∀ x y,q x y=true→f x=g y):∀ {a:List α} {b:List β},zaK q a b=true→a.map f=b.map g
 |[],[],_=>rfl
 |[],_::_,h=>by simp[zaK]at h
 |_::_,[],h=>by simp[zaK]at h
 |x::xs,y::ys,h=>by
  simp only[zaK,Bool.and_eq_true]at h
  simp only[List.map_cons,zeG hq h.2,hq x y h.1]
theorem zhj {p:Pln} {s:State} (h:zap p s=true):s.switches.map Switch.id=p.points.map Pnt.id:=by
 simp only[zap,Bool.and_eq_true]at h
 exact zeG (fun x y h=>by simp only[zhk,Bool.and_eq_true,decide_eq_true_eq]at h;exact h.1) h.2.1
theorem zmA {p:Pln} {s:State} (h:zap p s=true):s.locks.map Lock.id=p.routes.map Rte.id:=by
 simp only[zap,Bool.and_eq_true]at h
 exact zeG (fun x y h=>by simp only[zdW,Bool.and_eq_true,decide_eq_true_eq]at h;exact h.1) h.2.2
theorem ziu {p:Pln} (h:OkP p):(p.points.map Pnt.id).Nodup:=by
 have hp:=h.pts
 simp only[points,Bool.and_eq_true]at hp
 exact zhs hp.1
theorem zfQ {p:Pln} (h:OkP p):(p.routes.map Rte.id).Nodup:=zhs h.rise
theorem zif {p:Pln} (h:OkP p) {r:Rte} (hr:r∈p.routes):1≤r.id∧r.id≤99:=((zcN _ _).1 h.rise).1 r.id (List.mem_map_of_mem hr)
theorem zbB {p:Pln} (h:za2 p=true):OkP p∧(∀ r∈p.routes,(zao p r).2.2=0)∧∀ r∈p.routes,zct p r=true:=by
 simp only[za2,Bool.and_eq_true]at h
 refine ⟨zgc h.1,fun r hr=>?_,fun r hr=>?_⟩
 ·simpa using (List.all_eq_true.1 h.2.1) r hr
 ·exact (List.all_eq_true.1 h.2.2) r hr
theorem znf {p:Pln} {s:State} (ho:OkP p) (h:zap p s=true) {x:Switch} (hx:x∈s.switches):zex s x.id=x.call :=
 zjB _ _ (by rw[zhj h];exact ziu ho) x hx
theorem zeE {p:Pln} {s:State} (h:zap p s=true) {z:WL} (hz:z∈zof p s):∃ i,∃ r∈p.routes,i<p.routes.length∧nth p.routes i=r∧nth s.locks i=z.2∧z.2∈s.locks∧z.1=(zao p r).1∧zdW z.2 r=true:=by
 have hl:=zaQ h
 simp only[zap,Bool.and_eq_true]at h
 obtain ⟨i,hi,e⟩:=List.mem_iff_getElem.1 hz
 have hi1:i<p.routes.length:=by simp only[zof,List.length_zip,zbc,List.length_map]at hi;omega
 have hi2:i<s.locks.length:=by omega
 have e1:z.1=(zao p (nth p.routes i)).1:=by
  rw[←e];simp[zof,zbc,zaY hi1]
 have e2:nth s.locks i=z.2:=by
  rw[←e];simp[zof,zaY hi2]
 refine ⟨i,nth p.routes i,zas hi1,hi1,rfl,e2,by rw[←e2];exact zas hi2,e1, ?_⟩
 rw[←e2]
 exact zd0 h.2.2 hi2
theorem zof_at {p:Pln} {s:State} (h:zap p s=true) {i:Nat} (hi:i<p.routes.length):((zao p (nth p.routes i)).1,nth s.locks i)∈zof p s:=by
 have hl:=zaQ h
 have hi2:i<s.locks.length:=by omega
 rw[List.mem_iff_getElem]
 refine ⟨i,by simp[zof,zbc];omega, ?_⟩
 simp[zof,zbc,zaY hi,zaY hi2]
theorem zh2 {p:Pln} {s:State} (ho:za2 p=true) (h:zap p s=true):ZOk (zof p s):=by
 obtain ⟨hok,hw,_⟩:=zbB ho
 refine ⟨fun z hz=>?_,fun z hz n hn=>?_,fun z hz a ha=>?_⟩
 ·obtain ⟨i,r,hr,_,_,_,_,_,hl⟩:=zeE h hz
  simp only[zdW,Bool.and_eq_true,decide_eq_true_eq]at hl
  have:=zif hok hr
  omega
 ·obtain ⟨i,r,hr,_,_,_,_,e,hl⟩:=zeE h hz
  have hp:=zdo (hw r hr)
  unfold hdl zbv at hn
  split at hn
  ·simp at hn
  ·have h1:n∈r.path++r.over:=by
    rw[e,hp.1,hp.2.1]at hn
    rcases List.mem_append.1 hn with h2|h2
    ·exact List.mem_append.2 (.inl (List.mem_of_mem_drop h2))
    ·exact List.mem_append.2 (.inr h2)
   obtain ⟨q,hq,rfl⟩:=(zfp hok hr).1 n h1
   have:=zc8 hok hq
   omega
 ·obtain ⟨i,r,hr,_,_,_,_,e,hl⟩:=zeE h hz
  unfold zbL at ha
  split at ha
  ·simp at ha
  ·rw[e]at ha
   have:=zb2 hok hr ha
   omega
theorem zmP {p:Pln} {s:State} (ho:za2 p=true) (h:zap p s=true) {z:WL} (hz:z∈zof p s):(hdl z).Nodup:=by
 obtain ⟨hok,hw,_⟩:=zbB ho
 obtain ⟨i,r,hr,_,_,_,_,e,_⟩:=zeE h hz
 have hp:=zdo (hw r hr)
 unfold hdl zbv
 split
 ·simp
 ·rw[e,hp.1,hp.2.1]
  have:=(zfp hok hr).2
  exact List.Nodup.sublist (List.Sublist.append (List.drop_sublist _ _) (List.Sublist.refl _)) this
theorem zjI {p:Pln} {s:State} (h:zap p s=true):za0 p s=zdX (zft [] s.switches) (zof p s) zcx zcx true:=by
 unfold za0 zof
 rw[zmQ _ _ _ _ _ _ _ (by have:=zaQ h;simp[zbc];omega),List.drop_zero]
theorem zhf (k:Nat):nth zcx k=0:=by
 rcases Nat.lt_or_ge k 100 with h|h
 ·exact zgf _ _ _ h
 ·unfold zcx nth;rw[getElem!_neg _ _ (by simp;omega)];rfl
def zj2 (Z:List WL):Prop:=Z.Pairwise fun z z'=>∀ n∈hdl z,n∉hdl z'
def zkL (s:State) (Z:List WL):Prop:=∀ z∈Z,∀ a∈asl z,zex s a.pnt=a.lie
theorem zeI (p:Pln) (s:State):zav p s=0↔za2 p=true∧zap p s=true∧zj2 (zof p s)∧zkL s (zof p s):=by
 constructor
 ·intro h
  obtain ⟨h1,h2,h3⟩:=zaF h
  rw[zjI h2]at h3
  have:=((zdx _ _ _ _ (zh2 h1 h2) zbh zbh).1).1 h3
  exact ⟨h1,h2,this.2,fun z hz a ha=>(this.1 z hz).2.2 a ha⟩
 ·rintro ⟨h1,h2,h3,h4⟩
  unfold zav
  have h5:(za0 p s).2.2=true:=by
   rw[zjI h2]
   exact ((zdx _ _ _ _ (zh2 h1 h2) zbh zbh).1).2 ⟨fun z hz=>⟨fun n _=>zhf _,zmP h1 h2 hz,h4 z hz⟩,h3⟩
  rw[if_pos h1,if_pos ⟨h2,h5⟩]
theorem zkb {p:Pln} {s:State} (ho:za2 p=true) (h:zav p s≠0):zav p s=8:=by
 have e:zav p s=if zap p s=true∧(za0 p s).2.2=true then 0 else 8:=by unfold zav;rw[if_pos ho]
 by_cases h1:zap p s=true∧(za0 p s).2.2=true
 ·rw[if_pos h1]at e;exact absurd e h
 ·rw[if_neg h1]at e;exact e
section
variable {p:Pln} {s:State} (h:zav p s=0)
include h
theorem zeq:(∀ z∈zof p s,(∀ n∈hdl z,nth (za0 p s).1 n.toNat=z.2.id)∧∀ a∈asl z,nth (za0 p s).2.1 a.pnt.toNat=a.lie) ∧
  (∀ k:Nat,(∀ z∈zof p s,∀ n∈hdl z,n.toNat≠k)→nth (za0 p s).1 k=0)∧(∀ k:Nat,(∀ z∈zof p s,∀ a∈asl z,a.pnt.toNat≠k)→nth (za0 p s).2.1 k=0):=by
 obtain ⟨h1,h2,h3⟩:=zaF h
 rw[zjI h2]at h3 ⊢
 have:=(zdx _ _ _ _ (zh2 h1 h2) zbh zbh).2 h3
 refine ⟨this.1,fun k hk=>?_,fun k hk=>?_⟩
 ·rw[this.2.1 k hk];exact zhf k
 ·rw[this.2.2 k hk];exact zhf k
theorem hold_at {z:WL} (hz:z∈zof p s) {n:Int} (hn:n∈hdl z):nth (za0 p s).1 n.toNat=z.2.id:=((zeq h).1 z hz).1 n hn
theorem hold_no {n:Int} (h0:0≤n) (hn:∀ z∈zof p s,n∉hdl z):nth (za0 p s).1 n.toNat=0:=(zeq h).2.1 _ fun z hz m hm e=>by
 have:=(zh2 (zaF h).1 (zaF h).2.1).sec z hz m hm
 exact hn z hz (by rw[show n=m by omega];exact hm)
theorem ask_at {z:WL} (hz:z∈zof p s) {a:AskR} (ha:a∈asl z):nth (za0 p s).2.1 a.pnt.toNat=a.lie:=((zeq h).1 z hz).2 a ha
theorem ask_no {n:Int} (h0:0≤n) (hn:∀ z∈zof p s,∀ a∈asl z,a.pnt≠n):nth (za0 p s).2.1 n.toNat=0:=(zeq h).2.2 _ fun z hz a ha e=>by
 have:=(zh2 (zaF h).1 (zaF h).2.1).pnt z hz a (List.mem_filter.1 ha).1
 exact hn z hz a ha (by omega)
end
end Go.Lev
namespace Go.Lev
open Go.Eng
set_option maxRecDepth 10000
set_option maxHeartbeats 4000000
variable {P:Program} {inv:Nat→Option Nat} {w0:World} {M:Nat→Prop}
def minK (n:Int):Int:=if 1000<n then 1000 else n
def sumS:Int→List Section→Int
 |t,[]=>t
 |t,s::r=>sumS (t+minK s.ends.length) r
def sumR:Int→List Rte→Int
 |t,[]=>t
 |t,r::l=>sumR (t+minK r.path.length+minK r.over.length+minK r.flanks.length) l
def zcG (p:Pln):Bool:=decide (100<(p.sections.length:Int))||(decide (100<(p.points.length:Int))||(decide (100<(p.signals.length:Int))||decide (100<(p.routes.length:Int))))
def ziE (p:Pln):Bool:=zcG p||decide (1000<sumR (sumS 0 p.sections) p.routes)
theorem zkq (n:Nat):0≤minK n∧minK n≤1000:=by unfold minK;split<;>omega
theorem ziD (hH:HasAll P inv) (p:Pln):PC P inv 71 [.agg p.c] (·=.b (ziE p)):=by
 unfold ziE
 cases hg0:zcG p with
 |true =>
  rw[Bool.true_or]
  refine zae (F:=cd71) (hH.has _ _ rfl) (Nat.le_of_ble_eq_true rfl) fun w0 M Q hM hQ hR=>?_;have hE:=hH.callable;dsimp only[cd71,qm,ql,qf,qi,qb,qc,qp,qv,qN,qT,qF,qt]at hQ ⊢
  repeat' (first|refine zaa [0,1,2,3,4,5,27,32,49] fun K hK=>?_|refine AWp.block ?_|(refine hK.go ?_;clear hK K)|refine Cont.go (by assumption) ?_|(refine cnd2 rfl (fun h=>?_) (fun h=>?_)<;>(try first|exact h.elim|obtain rfl:(_:Bool)=true:=h|obtain rfl:(_:Bool)=false:=h)<;>first|(exfalso;omega)|skip)|((first|refine AWp.reg hE hM ?_|refine AWp.regd hE hM ?_|refine AWp.ret ?_|refine AWp.skip ?_|refine AWp.exit ?_|(refine pk2 (fun h=>?_) (fun h=>?_)<;>(try first|exact h.elim|obtain rfl:(_:Bool)=true:=h|obtain rfl:(_:Bool)=false:=h))|refine zab (fun h=>?_) ?_|(refine hQ _ _ _ rfl ?_;clear hQ hR hE hM)|(refine hR _ _ (hQ _ _ _ rfl ?_);clear hQ hR hE hM)|(refine zaf ?_ ?_;focus first|omega|(refine zac ?_;(refine no_implicit_lambda% (st ?_);try with_reducible exact True.intro);done)))<;>try (refine no_implicit_lambda% (st ?_);try with_reducible exact True.intro)))
  all_goals first|rfl|(exfalso;simp[zcG]at hg0;omega)
 |false =>
  rw[Bool.false_or]
  have hb:p.sections.length≤100∧p.points.length≤100∧p.signals.length≤100∧p.routes.length≤100:=by
   simp[zcG]at hg0;omega
  refine zae (F:=cd71) (hH.has _ _ rfl) (Nat.le_of_ble_eq_true rfl) fun w0 M Q hM hQ hR=>?_;have hE:=hH.callable;dsimp only[cd71,qm,ql,qf,qi,qb,qc,qp,qv,qN,qT,qF,qt]at hQ ⊢
  repeat' (first|refine zaa [0,1,2,3,4,5,27,32,49] fun K hK=>?_|refine AWp.block ?_|(refine hK.go ?_;clear hK K)|refine Cont.go (by assumption) ?_|(refine cnd2 rfl (fun h=>?_) (fun h=>?_)<;>(try first|exact h.elim|obtain rfl:(_:Bool)=true:=h|obtain rfl:(_:Bool)=false:=h)<;>first|(exfalso;omega)|skip)|((first|refine AWp.reg hE hM ?_|refine AWp.regd hE hM ?_|refine AWp.ret ?_|refine AWp.skip ?_|refine AWp.exit ?_|(refine pk2 (fun h=>?_) (fun h=>?_)<;>(try first|exact h.elim|obtain rfl:(_:Bool)=true:=h|obtain rfl:(_:Bool)=false:=h))|refine zab (fun h=>?_) ?_|(refine hQ _ _ _ rfl ?_;clear hQ hR hE hM)|(refine hR _ _ (hQ _ _ _ rfl ?_);clear hQ hR hE hM)|(refine zaf ?_ ?_;focus first|omega|(refine zac ?_;(refine no_implicit_lambda% (st ?_);try with_reducible exact True.intro);done)))<;>try (refine no_implicit_lambda% (st ?_);try with_reducible exact True.intro)))
  all_goals first|(exfalso;omega)|skip
  refine zai (ι:=Nat×Int) [1,2,3,4] (fun zz=>[(3,.n zz.2),(4,.n zz.1)]) (fun zz=>[]) (fun zz=>zz.1≤p.sections.length∧(0≤zz.2∧zz.2≤1000*zz.1)∧(sumS zz.2 (p.sections.drop zz.1)=sumS 0 p.sections)) (fun zz=>p.sections.length-zz.1) (0,0) ⟨Nat.zero_le _,(by first|rfl|assumption|omega|(simp;done)|(simp;omega)|grind),(by first|rfl|assumption|omega|(simp;done)|(simp;omega)|grind)⟩ (by (try dsimp only);(refine no_implicit_lambda% (st ?_);try with_reducible exact True.intro)<;>first|omega|(simp;done)) (by (try dsimp only);(refine no_implicit_lambda% (st ?_);try with_reducible exact True.intro)<;>first|omega|(simp;done)) ?_;rintro ⟨k,t⟩ ⟨hk,ht,hg⟩;(try dsimp only at hk ht hg ⊢);rcases Nat.lt_or_ge k p.sections.length with hlt|hge
  ·rw[zaq hlt]at hg
   rw[sumS]at hg
   have hm:=zkq (nth p.sections k).ends.length
   unfold minK at hg hm
   repeat' (first|refine zaa [0,1,2,3,4,5,27,32,49] fun K hK=>?_|refine AWp.block ?_|(refine hK.go ?_;clear hK K)|refine Cont.go (by assumption) ?_|(refine cnd2 rfl (fun h=>?_) (fun h=>?_)<;>(try first|exact h.elim|obtain rfl:(_:Bool)=true:=h|obtain rfl:(_:Bool)=false:=h)<;>first|(exfalso;omega)|skip)|((first|refine AWp.reg hE hM ?_|refine AWp.regd hE hM ?_|refine AWp.ret ?_|refine AWp.skip ?_|refine AWp.exit ?_|(refine pk2 (fun h=>?_) (fun h=>?_)<;>(try first|exact h.elim|obtain rfl:(_:Bool)=true:=h|obtain rfl:(_:Bool)=false:=h))|refine zab (fun h=>?_) ?_|(refine hQ _ _ _ rfl ?_;clear hQ hR hE hM)|(refine hR _ _ (hQ _ _ _ rfl ?_);clear hQ hR hE hM)|(refine zaf ?_ ?_;focus first|omega|(refine zac ?_;(refine no_implicit_lambda% (st ?_);try with_reducible exact True.intro);done)))<;>try (refine no_implicit_lambda% (st ?_);try with_reducible exact True.intro)))
   refine ⟨(k+1,_),by (try dsimp only);omega,⟨by (try dsimp only);omega,by (try dsimp only);omega,hg⟩, ?_⟩;(try dsimp only);(first|omega|(simp;done)|(simp;omega)|((refine no_implicit_lambda% (st ?_);try with_reducible exact True.intro);done)|(simp[List.map_set, *];done)|(simp[List.map_set, *];rfl)|((refine no_implicit_lambda% (st ?_);try with_reducible exact True.intro);simp[List.map_set, *];done)|((try (refine no_implicit_lambda% (st ?_);try with_reducible exact True.intro));(repeat' refine And.intro ?_ ?_)<;>first|omega|rfl|(simp;done)|(simp;omega)|(simp;rfl)|(simp[List.map_set, *];done)|(simp[List.map_set, *];rfl)))
  ·rw[List.drop_eq_nil_of_le hge,sumS]at hg
   repeat' (first|refine zaa [0,1,2,3,4,5,27,32,49] fun K hK=>?_|refine AWp.block ?_|(refine hK.go ?_;clear hK K)|refine Cont.go (by assumption) ?_|(refine cnd2 rfl (fun h=>?_) (fun h=>?_)<;>(try first|exact h.elim|obtain rfl:(_:Bool)=true:=h|obtain rfl:(_:Bool)=false:=h)<;>first|(exfalso;omega)|skip)|((first|refine AWp.reg hE hM ?_|refine AWp.regd hE hM ?_|refine AWp.ret ?_|refine AWp.skip ?_|refine AWp.exit ?_|(refine pk2 (fun h=>?_) (fun h=>?_)<;>(try first|exact h.elim|obtain rfl:(_:Bool)=true:=h|obtain rfl:(_:Bool)=false:=h))|refine zab (fun h=>?_) ?_|(refine hQ _ _ _ rfl ?_;clear hQ hR hE hM)|(refine hR _ _ (hQ _ _ _ rfl ?_);clear hQ hR hE hM)|(refine zaf ?_ ?_;focus first|omega|(refine zac ?_;(refine no_implicit_lambda% (st ?_);try with_reducible exact True.intro);done)))<;>try (refine no_implicit_lambda% (st ?_);try with_reducible exact True.intro)))
   refine zai (ι:=Nat×Int) [1,2,3,5] (fun zz=>[(3,.n zz.2),(5,.n zz.1)]) (fun zz=>[]) (fun zz=>zz.1≤p.routes.length∧(0≤zz.2∧zz.2≤100000+3000*zz.1)∧(sumR zz.2 (p.routes.drop zz.1)=sumR t p.routes)) (fun zz=>p.routes.length-zz.1) (0,t) ⟨Nat.zero_le _,(by first|rfl|assumption|omega|(simp;done)|(simp;omega)|grind),(by first|rfl|assumption|omega|(simp;done)|(simp;omega)|grind)⟩ (by (try dsimp only);(refine no_implicit_lambda% (st ?_);try with_reducible exact True.intro)<;>first|omega|(simp;done)) (by (try dsimp only);(refine no_implicit_lambda% (st ?_);try with_reducible exact True.intro)<;>first|omega|(simp;done)) ?_;rintro ⟨k2,u⟩ ⟨hk,hu,hg2⟩;(try dsimp only at hk hu hg2 ⊢);rcases Nat.lt_or_ge k2 p.routes.length with hlt|hge
   ·rw[zaq (by assumption),sumR]at hg2
    have hm1:=zkq (nth p.routes k2).path.length
    have hm2:=zkq (nth p.routes k2).over.length
    have hm3:=zkq (nth p.routes k2).flanks.length
    unfold minK at hg2 hm1 hm2 hm3
    repeat' (first|refine zaa [0,1,2,3,4,5,27,32,49] fun K hK=>?_|refine AWp.block ?_|(refine hK.go ?_;clear hK K)|refine Cont.go (by assumption) ?_|(refine cnd2 rfl (fun h=>?_) (fun h=>?_)<;>(try first|exact h.elim|obtain rfl:(_:Bool)=true:=h|obtain rfl:(_:Bool)=false:=h)<;>first|(exfalso;omega)|skip)|((first|refine AWp.reg hE hM ?_|refine AWp.regd hE hM ?_|refine AWp.ret ?_|refine AWp.skip ?_|refine AWp.exit ?_|(refine pk2 (fun h=>?_) (fun h=>?_)<;>(try first|exact h.elim|obtain rfl:(_:Bool)=true:=h|obtain rfl:(_:Bool)=false:=h))|refine zab (fun h=>?_) ?_|(refine hQ _ _ _ rfl ?_;clear hQ hR hE hM)|(refine hR _ _ (hQ _ _ _ rfl ?_);clear hQ hR hE hM)|(refine zaf ?_ ?_;focus first|omega|(refine zac ?_;(refine no_implicit_lambda% (st ?_);try with_reducible exact True.intro);done)))<;>try (refine no_implicit_lambda% (st ?_);try with_reducible exact True.intro)))
    refine ⟨(k2+1,_),by (try dsimp only);omega,⟨by (try dsimp only);omega,by (try dsimp only);omega,hg2⟩, ?_⟩;(try dsimp only);(first|omega|(simp;done)|(simp;omega)|((refine no_implicit_lambda% (st ?_);try with_reducible exact True.intro);done)|(simp[List.map_set, *];done)|(simp[List.map_set, *];rfl)|((refine no_implicit_lambda% (st ?_);try with_reducible exact True.intro);simp[List.map_set, *];done)|((try (refine no_implicit_lambda% (st ?_);try with_reducible exact True.intro));(repeat' refine And.intro ?_ ?_)<;>first|omega|rfl|(simp;done)|(simp;omega)|(simp;rfl)|(simp[List.map_set, *];done)|(simp[List.map_set, *];rfl)))
   ·rw[List.drop_eq_nil_of_le (by assumption),sumR]at hg2
    repeat' (first|refine zaa [0,1,2,3,4,5,27,32,49] fun K hK=>?_|refine AWp.block ?_|(refine hK.go ?_;clear hK K)|refine Cont.go (by assumption) ?_|(refine cnd2 rfl (fun h=>?_) (fun h=>?_)<;>(try first|exact h.elim|obtain rfl:(_:Bool)=true:=h|obtain rfl:(_:Bool)=false:=h)<;>first|(exfalso;omega)|skip)|((first|refine AWp.reg hE hM ?_|refine AWp.regd hE hM ?_|refine AWp.ret ?_|refine AWp.skip ?_|refine AWp.exit ?_|(refine pk2 (fun h=>?_) (fun h=>?_)<;>(try first|exact h.elim|obtain rfl:(_:Bool)=true:=h|obtain rfl:(_:Bool)=false:=h))|refine zab (fun h=>?_) ?_|(refine hQ _ _ _ rfl ?_;clear hQ hR hE hM)|(refine hR _ _ (hQ _ _ _ rfl ?_);clear hQ hR hE hM)|(refine zaf ?_ ?_;focus first|omega|(refine zac ?_;(refine no_implicit_lambda% (st ?_);try with_reducible exact True.intro);done)))<;>try (refine no_implicit_lambda% (st ?_);try with_reducible exact True.intro)))
    rw[hg2,hg]
theorem sm_of {p:Pln} (hp:Pln.ok p) (hg:ziE p=false):Sm p:=by
 have h1:zcG p=false:=by
  unfold ziE at hg
  simp only[Bool.or_eq_false_iff]at hg
  exact hg.1
 have hb:p.sections.length≤100∧p.points.length≤100∧p.signals.length≤100∧p.routes.length≤100:=by
  simp[zcG]at h1;omega
 obtain ⟨_,_,h3,h4,h5,h6⟩:=hp
 refine ⟨by omega,fun s hs=>?_,by omega,by omega,by omega,fun r hr=>?_⟩
 ·have:=(h3.2 s hs).2.2.1
  exact Nat.le_trans this (by decide)
 ·have:=h6.2 r hr
  exact ⟨Nat.le_trans this.2.2.2.1.1 (by decide),Nat.le_trans this.2.2.2.2.1.1 (by decide),Nat.le_trans this.2.2.2.2.2.1.1 (by decide)⟩
end Go.Lev
namespace Go.Lev
open Go.Eng
set_option maxRecDepth 10000
set_option maxHeartbeats 4000000
variable {P:Program} {inv:Nat→Option Nat} {w0:World} {M:Nat→Prop}
def zc5 {α:Type} (f:α→Int) (n:Int) (g:α→α) (l:List α):List α:=l.map fun x=>if f x=n then g x else x
theorem zj6 {α:Type} [Inhabited α] (f:α→Int) (n:Int) (g:α→α):∀ {l:List α},(l.map f).Nodup→∀ {k:Nat},k<l.length→f (nth l k)=n→l.set k (g (nth l k))=zc5 f n g l
 |[],_,k,h,_=>by simp at h
 |x::r,hn,0,_,e=>by
  simp only[List.map_cons,List.nodup_cons]at hn
  have e:f x=n:=e
  unfold zc5
  rw[List.set_cons_zero,List.map_cons,if_pos e]
  congr 1
  symm
  refine (List.map_congr_left fun y hy=>?_).trans (List.map_id r)
  rw[if_neg (fun h=>hn.1 (by rw[e,←h];exact List.mem_map_of_mem hy))]
  rfl
 |x::r,hn,k+1,h,e=>by
  simp only[List.map_cons,List.nodup_cons]at hn
  have hk:k<r.length:=by simpa using h
  have e:f (nth r k)=n:=e
  have ih:=zj6 f n g hn.2 hk e
  unfold zc5 at ih ⊢
  rw[List.set_cons_succ,List.map_cons,if_neg (fun h=>hn.1 (by rw[h,←e];exact List.mem_map_of_mem (zas hk)))]
  exact congrArg (x::·) ih
theorem zd2 {α:Type} (f:α→Int) (n:Int) (g:α→α) (l:List α):(zc5 f n g l).length=l.length:=by simp[zc5]
end Go.Lev
namespace Go.Lev
open Go.Eng
set_option maxRecDepth 10000
set_option maxHeartbeats 4000000
variable {P:Program} {inv:Nat→Option Nat} {w0:World} {M:Nat→Prop}
def setT (s:State) (n v:Int):State:=⟨zc5 Track.id n (fun t=>⟨t.id,v⟩) s.tracks,s.switches,s.locks⟩
def setL (s:State) (n v:Int):State:=⟨s.tracks,zc5 Switch.id n (fun t=>⟨t.id,v,t.call⟩) s.switches,s.locks⟩
def isTrk (s:State) (n:Int):Prop:=∃ t∈s.tracks,t.id=n
def isSwt (s:State) (n:Int):Prop:=∃ t∈s.switches,t.id=n
instance (s:State) (n:Int):Decidable (isTrk s n):=by unfold isTrk;infer_instance
instance (s:State) (n:Int):Decidable (isSwt s n):=by unfold isSwt;infer_instance
def secCode (p:Pln) (s:State) (n v:Int):Int:=if zav p s=0 then (if isTrk s n then (if v=0∨v=1 then 0 else 2) else 6) else zav p s
def detCode (p:Pln) (s:State) (n v:Int):Int:=if zav p s=0 then (if isSwt s n then (if 0≤v∧v≤2 then 0 else 2) else 6) else zav p s
def secR (p:Pln) (s:State) (n v:Int):State:=if secCode p s n v=0 then setT s n v else State.z
def detR (p:Pln) (s:State) (n v:Int):State:=if detCode p s n v=0 then setL s n v else State.z
end Go.Lev
namespace Go.Lev
open Go.Eng
theorem zdn {α β:Type} [Inhabited α] [Inhabited β] (q:α→β→Bool):∀ (a:List α) (b:List β),zaK q a b=true↔a.length=b.length∧∀ i,i<a.length→q (nth a i) (nth b i)=true
 |[],[]=>by simp[zaK]
 |[],_::_=>by simp[zaK]
 |_::_,[]=>by simp[zaK]
 |x::xs,y::ys=>by
  simp only[zaK,Bool.and_eq_true,zdn q xs ys,List.length_cons,Nat.add_right_cancel_iff]
  constructor
  ·rintro ⟨h1,h2,h3⟩
   refine ⟨h2,fun i hi=>?_⟩
   cases i with
   |zero=>exact h1
   |succ i=>exact h3 i (by omega)
  ·rintro ⟨h2,h3⟩
   exact ⟨h3 0 (by omega),h2,fun i hi=>h3 (i+1) (by omega)⟩
theorem zmB {p:Pln} {s:State} (h:zap p s=true) {i:Nat} (hi:i<s.locks.length):zdW (nth s.locks i) (nth p.routes i)=true:=by
 simp only[zap,Bool.and_eq_true]at h
 exact zd0 h.2.2 hi
theorem zhh {α:Type} (f:α→Int) (n:Int) (g:α→α) (hg:∀ x,f (g x)=f x) (l:List α):(zc5 f n g l).map f=l.map f:=by
 unfold zc5
 rw[List.map_map]
 refine List.map_congr_left fun x _=>?_
 simp only[Function.comp]
 split
 ·exact hg x
 ·rfl
end Go.Lev
namespace Go.Lev
open Go.Eng
theorem ofW_at {p:Pln} {s:State} (h:zav p s=0) {i:Nat} (hi:i<s.locks.length):ofW p (nth s.locks i).id=((zao p (nth p.routes i)).1,0):=by
 obtain ⟨h1,h2,_⟩:=zaF h
 obtain ⟨hok,hw,_⟩:=zbB h1
 have hl:=zaQ h2
 have hr:nth p.routes i∈p.routes:=zas (by omega)
 have hl2:=zmB h2 hi
 simp only[zdW,Bool.and_eq_true,decide_eq_true_eq]at hl2
 have hp:zb6 p=true:=by simp only[za2,Bool.and_eq_true]at h1;exact h1.1
 unfold ofW
 rw[if_pos hp,hl2.1,zm1 Rte.id (zfQ hok) hr]
 dsimp only
 rw[hw _ hr]
theorem lck_inj {p:Pln} {s:State} (h:zav p s=0) {i j:Nat} (hi:i<s.locks.length) (hj:j<s.locks.length) (e:(nth s.locks i).id=(nth s.locks j).id):i=j:=by
 obtain ⟨h1,h2,_⟩:=zaF h
 have hn:(s.locks.map Lock.id).Nodup:=by rw[zmA h2];exact zfQ (zbB h1).1
 have:=(List.nodup_iff_pairwise_ne.1 hn)
 rcases Nat.lt_trichotomy i j with hlt|he|hlt
 ·have:=List.pairwise_iff_getElem.1 this i j (by simpa using hi) (by simpa using hj) hlt
  simp only[List.getElem_map]at this
  rw[←zaY hi,←zaY hj]at this
  exact absurd e this
 ·exact he
 ·have:=List.pairwise_iff_getElem.1 this j i (by simpa using hj) (by simpa using hi) hlt
  simp only[List.getElem_map]at this
  rw[←zaY hi,←zaY hj]at this
  exact absurd e.symm this
theorem lck_pos {p:Pln} {s:State} (h:zav p s=0) {i:Nat} (hi:i<s.locks.length):1≤(nth s.locks i).id∧(nth s.locks i).id≤99:=by
 obtain ⟨h1,h2,_⟩:=zaF h
 have hl:=zaQ h2
 have hl2:=zmB h2 hi
 simp only[zdW,Bool.and_eq_true,decide_eq_true_eq]at hl2
 rw[hl2.1]
 exact zif (zbB h1).1 (zas (by omega))
def hdAt (p:Pln) (s:State) (i:Nat):List Int:=zbv (zao p (nth p.routes i)).1 (nth s.locks i)
def asAt (p:Pln) (s:State) (i:Nat):List AskR:=(zbL (zao p (nth p.routes i)).1 (nth s.locks i)).filter (zdl (nth s.locks i))
theorem zfB {p:Pln} {s:State} (h:zav p s=0) {z:WL} (hz:z∈zof p s):∃ i,i<s.locks.length∧z=((zao p (nth p.routes i)).1,nth s.locks i):=by
 have h2:=(zaF h).2.1
 have hl:=zaQ h2
 obtain ⟨i,r,hr,hi,e1,e2,_,e3,_⟩:=zeE h2 hz
 refine ⟨i,by omega, ?_⟩
 rw[e1,e2,←e3]
theorem ziw {p:Pln} {s:State} (h:zav p s=0) {i:Nat} (hi:i<s.locks.length):((zao p (nth p.routes i)).1,nth s.locks i)∈zof p s:=by
 have h2:=(zaF h).2.1
 have hl:=zaQ h2
 exact zof_at h2 (by omega)
theorem ask_is {p:Pln} {s:State} (h:zav p s=0) {i:Nat} (hi:i<s.locks.length) {a:AskR} (ha:a∈asAt p s i):nth (za0 p s).2.1 a.pnt.toNat=a.lie:=ask_at h (ziw h hi) ha
theorem zmx {p:Pln} {s:State} (h:zav p s=0) {i:Nat} (hi:i<s.locks.length) {a:AskR} (ha:a∈asAt p s i):a.lie=1∨a.lie=2:=by
 obtain ⟨h1,h2,_⟩:=zaF h
 have hl:=zaQ h2
 have h3:=(List.mem_filter.1 ha).1
 unfold zbL at h3
 split at h3
 ·simp at h3
 ·exact (zb2 (zbB h1).1 (zas (by omega)) h3).2.2
def pathG (g n:Int):Nat→List Int→Bool
 |_,[]=>false
 |k,x::r=>(decide (x=n)&&decide (g≤k))||pathG g n (k+1) r
end Go.Lev
namespace Go.Eng
mutual
def nz:AV→AV
 |.s0 sz=>.sl sz []
 |.agg cs=>.agg (nzL cs)
 |.tup cs=>.tup (nzL cs)
 |.fn j cs=>.fn j (nzL cs)
 |.sl sz es=>.sl sz (nzR es)
 |.ip sz es i k=>.ip sz (nzR es) i k
 |.i k n=>.i k n
 |.b t=>.b t
 |.v x=>.v x
 |.u=>.u
 |.ptr l ver off=>.ptr l ver off
 |.sm l ver off n sz=>.sm l ver off n sz
 |.mp l=>.mp l
 |.top=>.top
def nzL:List AV→List AV
 |[]=>[]
 |x::xs=>nz x::nzL xs
def nzR:List (List AV)→List (List AV)
 |[]=>[]
 |r::rs=>nzL r::nzR rs
end
theorem zmn:∀ xs:List AV,(nzL xs).length=xs.length
 |[]=>by simp only[nzL]
 |x::xs=>by simp only[nzL,List.length_cons,zmn xs]
theorem zjy:∀ xs:List (List AV),(nzR xs).length=xs.length
 |[]=>by simp only[nzR]
 |x::xs=>by simp only[nzR,List.length_cons,zjy xs]
mutual
theorem zjx:∀ x:AV,x.bare=true→(nz x).bare=true
 |.s0 sz,_=>by simp only[nz,AV.bare]
 |.agg cs,h=>by simp only[nz,AV.bare]at h ⊢;exact zfs cs h
 |.tup cs,h=>by simp only[nz,AV.bare]at h ⊢;exact zfs cs h
 |.fn j cs,h=>by simp only[nz,AV.bare]at h ⊢;exact zfs cs h
 |.sl sz es,_=>by simp only[nz,AV.bare]
 |.ip sz es i k,_=>by simp only[nz,AV.bare]
 |.i k n,_=>by simp only[nz,AV.bare]
 |.b t,_=>by simp only[nz,AV.bare]
 |.v x,_=>by simp only[nz,AV.bare]
 |.u,_=>by simp only[nz,AV.bare]
 |.ptr l ver off,h=>by simp only[nz];exact h
 |.sm l ver off n sz,h=>by simp only[nz];exact h
 |.mp l,h=>by simp only[nz];exact h
 |.top,_=>by simp only[nz,AV.bare]
theorem zfs:∀ xs:List AV,zah xs=true→zah (nzL xs)=true
 |[],_=>by simp only[nzL,zah]
 |x::xs,h=>by
  simp only[zah,Bool.and_eq_true]at h
  simp only[nzL,zah,zjx x h.1,zfs xs h.2,Bool.and_self]
end
mutual
theorem zkh:∀ (c:Ctx) (x:AV) (y:Value),rel c x y→rel c (nz x) y
 |c,.s0 sz,y,r=>by
  simp only[nz,rel]at r ⊢
  obtain ⟨ad,e⟩:=r
  exact ⟨ad,0,e,Nat.le_refl _,fun h=>absurd rfl h⟩
 |c,.agg cs,y,r=>by
  simp only[nz,rel]at r ⊢
  obtain ⟨xs,e,r⟩:=r
  exact ⟨xs,e,zkk c cs _ r⟩
 |c,.tup cs,y,r=>by
  simp only[nz,rel]at r ⊢
  obtain ⟨xs,e,r⟩:=r
  exact ⟨xs,e,zjp c cs _ r⟩
 |c,.fn j cs,y,r=>by
  simp only[nz,rel]at r ⊢
  obtain ⟨g,xs,e,hi,r⟩:=r
  exact ⟨g,xs,e,hi,zjp c cs _ r⟩
 |c,.sl sz es,y,r=>by
  simp only[nz,rel]at r ⊢
  obtain ⟨ad,cap,e,h,r⟩:=r
  refine ⟨ad,cap,by rw[zjy];exact e,by rw[zjy];exact h,fun hne=>?_⟩
  have hne':es≠[]:=fun e0=>hne (by rw[e0];simp only[nzR])
  obtain ⟨a,e1,h1,h2,h3⟩:=r hne'
  exact ⟨a,e1,h1,h2,zeO c sz a 0 es h3⟩
 |c,.ip sz es i k,y,r=>by
  simp only[nz,rel]at r ⊢
  obtain ⟨a,e,h1,h2,h3⟩:=r
  exact ⟨a,e,h1,h2,zeO c sz a 0 es h3⟩
 |c,.i k n,y,r=>by simp only[nz];exact r
 |c,.b t,y,r=>by simp only[nz];exact r
 |c,.v x,y,r=>by simp only[nz];exact r
 |c,.u,y,r=>by simp only[nz];exact r
 |c,.ptr l ver off,y,r=>by simp only[nz];exact r
 |c,.sm l ver off n sz,y,r=>by simp only[nz];exact r
 |c,.mp l,y,r=>by simp only[nz];exact r
 |c,.top,y,r=>by simp only[nz];exact r
theorem zjp:∀ (c:Ctx) (xs:List AV) (ys:List Value),zbu c xs ys→zbu c (nzL xs) ys
 |c,[],ys,r=>by simp only[nzL];exact r
 |c,x::xs,ys,r=>by
  simp only[nzL,zbu]at r ⊢
  obtain ⟨y,ys',e,r1,r2⟩:=r
  exact ⟨y,ys',e,zkh c x y r1,zjp c xs ys' r2⟩
theorem zkk:∀ (c:Ctx) (xs:List AV) (ys:List Value),relCs c xs ys→relCs c (nzL xs) ys
 |c,[],ys,r=>by simp only[nzL];exact r
 |c,x::xs,ys,r=>by
  simp only[nzL,relCs]at r ⊢
  obtain ⟨y,ys',e,ho,r1,r2⟩:=r
  exact ⟨y,ys',e,ho,zkh c x y r1,zkk c xs ys' r2⟩
theorem zii:∀ (c:Ctx) (a:Addr) (k:Nat) (xs:List AV),zbm c a k xs→zbm c a k (nzL xs)
 |c,a,k,[],r=>by simp only[nzL];exact r
 |c,a,k,x::xs,r=>by
  simp only[nzL,zbm]at r ⊢
  obtain ⟨⟨y,h1,h2,h3,h4⟩,r⟩:=r
  exact ⟨⟨y,h1,h2,zjx x h3,zkh _ x y h4⟩,zii c a (k+1) xs r⟩
theorem zeO:∀ (c:Ctx) (sz:Nat) (a:Addr) (k:Nat) (es:List (List AV)),zaz c sz a k es→zaz c sz a k (nzR es)
 |c,sz,a,k,[],r=>by simp only[nzR];exact r
 |c,sz,a,k,x::xs,r=>by
  simp only[nzR,zaz]at r ⊢
  exact ⟨by rw[zmn];exact r.1,zii c a k x r.2.1,zeO c sz a (k+sz) xs r.2.2⟩
end
theorem PC.nzr {P:Program} {inv:Nat→Option Nat} {j:Nat} {args:List AV} {r:AV} (h:PC P inv j args (·=r)):PC P inv j args (·=nz r) :=
 fun g hg M w vs hM ha=>(h g hg M w vs hM ha).mono fun _ _ ⟨v,r',e,h1,h2,h3,h4⟩=>⟨v,nz r',e,by rw[h1],h2,zjx r' h3,zkh _ r' v h4⟩
attribute [go_sem] nz nzL nzR
end Go.Eng
namespace Go.Eng
open Go.RowKit
def zmv {S R:Type} (body:Nat→S→(S→R)→R) (fin:S→R):Nat→Nat→S→R
 |0,_,s=>fin s
 |m+1,k,s=>body k s fun s'=>zmv body fin m (k+1) s'
section
variable {S R:Type} {body:Nat→S→(S→R)→R} {fin:S→R} {n k:Nat} {s:S}
end
mutual
def okS (g:Nat→Bool):AV→Bool
 |.agg cs=>zlD g cs
 |.tup cs=>zlD g cs
 |.fn _ cs=>zlD g cs
 |.ptr l _ _=>g l
 |.sm l _ _ _ _=>g l
 |.i _ _=>true|.b _=>true|.v _=>true|.u=>true|.s0 _=>true|.sl _ _=>true|.ip _ _ _ _=>true|.mp _=>true|.top=>true
def zlD (g:Nat→Bool):List AV→Bool
 |[]=>true
 |x::xs=>okS g x&&zlD g xs
end
def okF:Nat→AS→Nat→Bool
 |0,_,_=>false
 |k+1,σ,l=>match zaB σ l with
  |some (.cells cs _)=>zlD (okF k σ) cs
  |_=>false
section
variable {f f':Nat→Option (List AV)} {g:Nat→Bool} (h:∀ l,g l=true→f' l=f l)
include h
mutual
theorem zlR:∀ x:AV,okS g x=true→zaP f' x=zaP f x
 |.agg cs,e=>by simp only[okS]at e;simp only[zaP,zd6 cs e]
 |.tup cs,e=>by simp only[okS]at e;simp only[zaP,zd6 cs e]
 |.fn j cs,e=>by simp only[okS]at e;simp only[zaP,zd6 cs e]
 |.ptr l ver off,e=>by simp only[okS]at e;simp only[zaP,h l e]
 |.sm l ver off n sz,e=>by simp only[okS]at e;simp only[zaP,h l e]
 |.i _ _,_=>by simp only[zaP]
 |.b _,_=>by simp only[zaP]
 |.v _,_=>by simp only[zaP]
 |.u,_=>by simp only[zaP]
 |.s0 _,_=>by simp only[zaP]
 |.sl _ _,_=>by simp only[zaP]
 |.ip _ _ _ _,_=>by simp only[zaP]
 |.mp _,_=>by simp only[zaP]
 |.top,_=>by simp only[zaP]
theorem zd6:∀ xs:List AV,zlD g xs=true→zbD f' xs=zbD f xs
 |[],_=>by simp only[zbD]
 |x::xs,e=>by
  simp only[zlD,Bool.and_eq_true]at e
  simp only[zbD,zlR x e.1,zd6 xs e.2]
end
end
def oks (k:Nat) (σ:List (Nat×AO)) (xs:List AV):Bool:=zlD (okF k σ) xs
def ok1 (k:Nat) (σ:List (Nat×AO)) (x:AV):Bool:=okS (okF k σ) x
def okR (o:Option AO) (l:Nat) (K:List AV→Bool) (_:l=l):Bool:=match o with|some (.cells cs _)=>K cs|_=>false
theorem okR_c (cs:List AV) (r:Bool) (l:Nat) (K:List AV→Bool) (h:l=l):okR (some (.cells cs r)) l K h=K cs:=rfl
section
variable (k:Nat) (σ:List (Nat×AO))
theorem ok_i (q:IntKind) (n:Int):ok1 k σ (.i q n)=true:=by simp only[ok1,okS]
theorem ok_b (t:Bool):ok1 k σ (.b t)=true:=by simp only[ok1,okS]
theorem ok_v (x:Value):ok1 k σ (.v x)=true:=by simp only[ok1,okS]
theorem ok_u:ok1 k σ .u=true:=by simp only[ok1,okS]
theorem ok_s0 (sz:Nat):ok1 k σ (.s0 sz)=true:=by simp only[ok1,okS]
theorem ok_sl (sz:Nat) (es:List (List AV)):ok1 k σ (.sl sz es)=true:=by simp only[ok1,okS]
theorem ok_ip (sz:Nat) (es:List (List AV)) (i j:Nat):ok1 k σ (.ip sz es i j)=true:=by simp only[ok1,okS]
theorem ok_agg (cs:List AV):ok1 k σ (.agg cs)=oks k σ cs:=by simp only[ok1,okS,oks]
theorem ok_tup (cs:List AV):ok1 k σ (.tup cs)=oks k σ cs:=by simp only[ok1,okS,oks]
theorem ok_fn (j:Nat) (cs:List AV):ok1 k σ (.fn j cs)=oks k σ cs:=by simp only[ok1,okS,oks]
theorem ok_nil:oks k σ []=true:=by simp only[oks,zlD]
theorem ok_cons (x:AV) (xs:List AV):oks k σ (x::xs)=(ok1 k σ x&&oks k σ xs):=by simp only[ok1,zlD,oks]
theorem ok_ptr (l ver off:Nat):ok1 (k+1) σ (.ptr l ver off)=okR (zaB σ l) l (fun cs=>oks k σ cs) rfl:=by
 simp only[ok1,okS,okF,okR,oks]
theorem ok_sm (l ver off n sz:Nat):ok1 (k+1) σ (.sm l ver off n sz)=okR (zaB σ l) l (fun cs=>oks k σ cs) rfl:=by
 simp only[ok1,okS,okF,okR,oks]
end
mutual
theorem plain_ok (g:Nat→Bool):∀ x:AV,x.plain=true→okS g x=true
 |.agg cs,h=>by simp only[AV.plain]at h;simp only[okS];exact zda g cs h
 |.i _ _,_=>rfl|.b _,_=>rfl|.v _,_=>rfl|.sl _ _,_=>rfl|.ip _ _ _ _,_=>rfl
 |.tup _,h=>by simp[AV.plain]at h
 |.u,h=>by simp[AV.plain]at h
 |.s0 _,h=>by simp[AV.plain]at h
 |.ptr _ _ _,h=>by simp[AV.plain]at h
 |.sm _ _ _ _ _,h=>by simp[AV.plain]at h
 |.fn _ _,h=>by simp[AV.plain]at h
 |.mp _,h=>by simp[AV.plain]at h
 |.top,h=>by simp[AV.plain]at h
theorem zda (g:Nat→Bool):∀ xs:List AV,zay xs=true→zlD g xs=true
 |[],_=>rfl
 |x::xs,h=>by
  simp only[zay,Bool.and_eq_true]at h
  simp only[zlD,plain_ok g x h.1,zda g xs h.2,Bool.and_self]
end
theorem ok_flat {α:Type} {c:α→List AV} {sz:Nat} [h:Cells c sz] (k:Nat) (σ:AS) (l:List α):oks k σ (l.map c).flatten=true:=zda _ _ (zbW l)
theorem ok_bmap (k:Nat) (σ:AS) (l:List Bool):oks k σ (l.map AV.b)=true:=zda _ _ (zdC l)
theorem ok_imap (k:Nat) (σ:AS) (q:IntKind) (l:List Int):oks k σ (l.map (AV.i q))=true:=zda _ _ (zci q l)
attribute [go_sem] okR_c ok_i ok_b ok_v ok_u ok_s0 ok_sl ok_ip ok_agg ok_tup ok_fn ok_nil ok_cons ok_ptr ok_sm ok_flat ok_bmap ok_imap
section
variable {P:Program} {inv:Nat→Option Nat} {w0:World} {M:Nat→Prop} {σ:AS}
end
section
variable {P:Program} {inv:Nat→Option Nat} {w0:World} {M:Nat→Prop} {n N:Nat} {φ:AF} {σ:AS}
variable {l:Nat} {J:AF→AS→Prop} {Q:Exit→AF→AS→Prop}
theorem jt_ret:zhe l J Q .ret φ σ=Q .ret φ σ:=rfl
theorem zmD:zhe l J Q .normal φ σ=Q .normal φ σ:=rfl
theorem jt_exit (i:Nat):zhe l J Q (.exit i) φ σ=Q (.exit i) φ σ:=rfl
theorem jt_goto (l':Nat):zhe l J Q (.goto l') φ σ=(l'=l∧J φ σ):=rfl
attribute [go_sem] jt_ret zmD jt_exit jt_goto
end
section
variable {P:Program} {inv:Nat→Option Nat} {w0:World} {M:Nat→Prop} {n N:Nat} {φ:AF} {σ:AS}
end
end Go.Eng
namespace Go.Lev
open Go.Eng
set_option maxRecDepth 10000
set_option maxHeartbeats 4000000
variable {P:Program} {inv:Nat→Option Nat} {w0:World} {M:Nat→Prop}
def isOf (s:State) (n:Int):Int:=match s.tracks.find? fun t=>decide (t.id=n) with|some t=>t.is|none=>2
def zme (p:Pln) (n:Int):Int:=match p.points.find? fun t=>decide (t.id=n) with|some t=>t.sec|none=>0
def mayC (p:Pln) (s:State) (n:Int):Int:=if zav p s=0 then (if zhJ p n=true then (if nth (za0 p s).2.1 n.toNat=0 then (if isOf s (zme p n)=0 then 0 else 171) else 170) else 6) else zav p s
def setC (s:State) (n v:Int):State:=⟨s.tracks,zc5 Switch.id n (fun t=>⟨t.id,t.lie,v⟩) s.switches,s.locks⟩
def callC (p:Pln) (s:State) (n v:Int):Int:=if zav p s=0 then (if zhJ p n=true then (if v=1∨v=2 then mayC p s n else 2) else 6) else zav p s
def callR (p:Pln) (s:State) (n v:Int):State:=if callC p s n v=0 then setC s n v else State.z
end Go.Lev
namespace Go.Lev
open Go.Eng
theorem zhF (n v m:Int) (hm:m≠n):∀ (l:List Switch) (C D:List (Int×Int)),zeD C m=zeD D m→zeD (zft C (zc5 Switch.id n (fun t=>⟨t.id,t.lie,v⟩) l)) m=zeD (zft D l) m
 |[],_,_,h=>h
 |x::r,C,D,h=>by
  show zeD (zft (zjz C (if x.id=n then (⟨x.id,x.lie,v⟩:Switch) else x).id (if x.id=n then (⟨x.id,x.lie,v⟩:Switch) else x).call) (zc5 Switch.id n (fun t=>⟨t.id,t.lie,v⟩) r)) m=zeD (zft (zjz D x.id x.call) r) m
  refine zhF n v m hm r _ _ ?_
  rw[zel,zel]
  by_cases hx:x.id=n
  ·rw[if_pos hx]
   dsimp only
   rw[if_neg (by omega),if_neg (by omega)]
   exact h
  ·rw[if_neg hx,h]
theorem zjR (s:State) {n m:Int} (v:Int) (hm:m≠n):zex (setC s n v) m=zex s m:=zhF n v m hm s.switches [] [] rfl
theorem zkX {p:Pln} {s:State} {n v:Int} (h:zap p s=true) (hv:0≤v∧v≤2):zap p (setC s n v)=true:=by
 unfold zap at h ⊢
 simp only[Bool.and_eq_true,zdn]at h ⊢
 unfold setC
 simp only[zd2]
 refine ⟨h.1,⟨h.2.1.1,fun i hi=>?_⟩,h.2.2⟩
 have:=h.2.1.2 i hi
 unfold zc5
 rw[zk6 (fun x=>if Switch.id x=n then (⟨x.id,x.lie,v⟩:Switch) else x) hi]
 simp only[zhk,zem,Bool.and_eq_true,decide_eq_true_eq]at this ⊢
 split
 ·exact ⟨this.1,this.2.1,hv⟩
 ·exact this
theorem asl_lie {p:Pln} {s:State} (h:zav p s=0) {z:WL} (hz:z∈zof p s) {a:AskR} (ha:a∈asl z):a.lie=1∨a.lie=2:=by
 obtain ⟨i,hi,rfl⟩:=zfB h hz
 exact zmx h hi ha
theorem zlX {p:Pln} {s:State} {n v:Int} (h:zav p s=0) (hn:nth (za0 p s).2.1 n.toNat=0) (hv:0≤v∧v≤2):zav p (setC s n v)=0:=by
 obtain ⟨h1,h2,h3,h4⟩:=(zeI p s).1 h
 refine (zeI p _).2 ⟨h1,zkX h2 hv,h3,fun z hz a ha=>?_⟩
 have hne:a.pnt≠n:=fun e=>by
  have h5:=ask_at h hz ha
  have h6:=asl_lie h hz ha
  rw[e,hn]at h5
  omega
 rw[zjR s v hne]
 exact h4 z hz a ha
structure MayCall (p:Pln) (s:State) (n:Int):Prop where
 st:zav p s=0
 pt:zhJ p n=true
 ask:nth (za0 p s).2.1 n.toNat=0
 free:isOf s (zme p n)=0
theorem MayCall.code {p:Pln} {s:State} {n v:Int} (h:MayCall p s n) (hv:v=1∨v=2):zav p (setC s n v)=0:=zlX h.st h.ask (by omega)
end Go.Lev
namespace Go.Lev
open Go.Eng
theorem isPnt_at {p:Pln} {k:Nat} (hk:k<p.points.length):zhJ p (nth p.points k).id=true:=List.any_eq_true.2 ⟨_,zas hk,by simp⟩
def peF (p:Pln) (s:State) (n e a g m:Int):Bool :=
 zmv (fun i _ zdF=>cond (!decide ((nth p.points i).id=n)) (zdF ())
   (cond (!decide (a=0)) (decide (e=170))
    (zmv (fun k _ next2=>cond (decide ((nth s.tracks k).id=(nth p.points i).sec)&&!decide ((nth s.tracks k).is=0)) (decide (e=171)) (next2 ()))
     (fun _=>decide (e=0)&&decide (g=0)&&decide (m=0)) s.tracks.length 0 ())))
  (fun _=>decide (e=6)) p.points.length 0 ()
def pfF (p:Pln) (s:State) (n v e a c:Int):Bool :=
 zmv (fun i (st:Bool×Int) zdF=>cond (!decide ((nth p.points i).id=n)) (zdF st)
   (zmv (fun k (fr:Bool) next2=>next2 (fr||decide ((nth s.tracks k).id=(nth p.points i).sec)&&decide ((nth s.tracks k).is=0)))
    (fun fr=>zdF (fr,(i:Int))) s.tracks.length 0 st.1))
  (fun st=>cond (!decide (decide (e=0)=(decide (0≤st.2)&&(decide (v=1)||decide (v=2))&&decide (c=0)&&decide (a=0)&&st.1))) false true) p.points.length 0 (false,-1)
end Go.Lev
namespace Go.Lev
open Go.Eng
set_option maxRecDepth 10000
set_option maxHeartbeats 4000000
variable {P:Program} {inv:Nat→Option Nat} {w0:World} {M:Nat→Prop}
def frT (s:State) (n:Int):Bool:=s.tracks.any fun x=>decide (n=x.id)&&decide (0=x.is)
end Go.Lev
namespace Go.Lev
open Go.Eng
set_option maxRecDepth 10000
set_option maxHeartbeats 4000000
variable {P:Program} {inv:Nat→Option Nat} {w0:World} {M:Nat→Prop}
def lkIx (s:State) (n:Int):Int:=zdM (fun x=>decide (Lock.id x=n)) 0 s.locks
def lockE (H:List Int) (fr:Int→Bool):List Int→Int
 |[]=>0
 |x::r=>if nth H x.toNat=0 then (if fr x=true then lockE H fr r else 182) else 181
def askFr (p:Pln) (s:State) (A:List Int) (a:AskR):Bool:=decide (zex s a.pnt=a.lie)||(decide (nth A a.pnt.toNat=0)&&frT s (zme p a.pnt))
def setE (p:Pln) (s:State) (i:Nat):Int :=
 if lockE (za0 p s).1 (frT s) ((zao p (nth p.routes i)).1.path++(zao p (nth p.routes i)).1.over)=0 then (if (zao p (nth p.routes i)).1.asks.all (askFr p s (za0 p s).2.1)=true then 0 else 183)
 else lockE (za0 p s).1 (frT s) ((zao p (nth p.routes i)).1.path++(zao p (nth p.routes i)).1.over)
def lkC (p:Pln) (s:State) (n:Int):Int:=if zav p s=0 then (if lkIx s n<0 then 6 else if (nth s.locks (lkIx s n).toNat).phase=0 then setE p s (lkIx s n).toNat else 180) else zav p s
def lkW (p:Pln) (s:State) (n:Int):WayR:=if zav p s=0 then (if lkIx s n<0 then WayR.z else if (nth s.locks (lkIx s n).toNat).phase=0 then (zao p (nth p.routes (lkIx s n).toNat)).1 else WayR.z) else WayR.z
def askE (ok:AskR→Bool):Int→List AskR→Int
 |e,[]=>e
 |e,a::r=>askE ok (if e=0 then (if ok a=true then 0 else 183) else e) r
end Go.Lev
namespace Go.Lev
open Go.Eng
set_option maxRecDepth 10000
set_option maxHeartbeats 4000000
variable {P:Program} {inv:Nat→Option Nat} {w0:World} {M:Nat→Prop}
def zaN (q:List AskR) (l:List Switch):List Switch:=q.foldl (fun l a=>zc5 Switch.id a.pnt (fun t=>⟨t.id,t.lie,a.lie⟩) l) l
theorem zll (q:List AskR):∀ l:List Switch,(zaN q l).map Switch.id=l.map Switch.id:=by
 induction q with
 |nil=>intro l;rfl
 |cons a q ih=>intro l;show (zaN q _).map Switch.id=_;rw[ih,zhh Switch.id a.pnt (fun t=>⟨t.id,t.lie,a.lie⟩) (fun _=>rfl)]
theorem zbt (q:List AskR) (l:List Switch):(zaN q l).length=l.length:=by
 have:=congrArg List.length (zll q l)
 simpa using this
theorem zjQ (q:List AskR) (a:AskR) (l:List Switch):zaN (q++[a]) l=zc5 Switch.id a.pnt (fun t=>⟨t.id,t.lie,a.lie⟩) (zaN q l):=by unfold zaN;rw[List.foldl_append];rfl
theorem zlj (l:List Switch):zaN [] l=l:=rfl
attribute [go_sem] zlj
theorem fget0 {α:Type} {c:α→List AV} {sz:Nat} [Cells c sz] [Inhabited α] {l:List α} {k:Nat} (hk:k<l.length) (hs:0<sz):(l.map c).flatten[k*sz]?=(c (nth l k))[0]?:=by simpa using flat_get (c:=c) (i:=0) hk hs
def setK (s:State) (n:Int) (q:List AskR):State:=⟨s.tracks,zaN q s.switches,zc5 Lock.id n (fun l=>⟨l.id,1,l.gone,l.left⟩) s.locks⟩
def k1At (n:Int) (_:Nat) (l:Lock):Lock:=if l.id=n then ⟨l.id,1,l.gone,l.left⟩ else l
end Go.Lev
namespace Go.Lev
open Go.Eng
theorem ziA:∀ (l:List AskR) (m:List Bool),m.length=100→(∀ a∈l,0≤a.pnt∧a.pnt≤99)→(ziB m l=true↔(∀ a∈l,nth m a.pnt.toNat=false)∧(l.map AskR.pnt).Nodup)
 |[],m,_,_=>by simp[ziB]
 |a::r,m,hm,hr=>by
  have h0:=hr a (by simp)
  have ih:=ziA r (m.set a.pnt.toNat true) (by simpa using hm) fun b hb=>hr b (by simp[hb])
  rw[ziB,Bool.and_eq_true,ih]
  simp only[List.map_cons,List.nodup_cons,List.mem_cons,forall_eq_or_imp,Bool.not_eq_true',List.mem_map,not_exists,not_and]
  have key:∀ b∈r,nth (m.set a.pnt.toNat true) b.pnt.toNat=false↔(nth m b.pnt.toNat=false∧b.pnt≠a.pnt):=fun b hb=>by
   have hb':=hr b (by simp[hb])
   rw[zbo _ _ _ _ (by omega)]
   by_cases e:b.pnt=a.pnt
   ·rw[e,if_pos rfl];simp
   ·rw[if_neg (by omega)];simp[e]
  constructor
  ·rintro ⟨h1,h2,h3⟩
   exact ⟨⟨h1,fun b hb=>((key b hb).1 (h2 b hb)).1⟩,fun b hb=>((key b hb).1 (h2 b hb)).2,h3⟩
  ·rintro ⟨⟨h1,h2⟩,h3,h4⟩
   exact ⟨h1,fun b hb=>(key b hb).2 ⟨h2 b hb,h3 b hb⟩,h4⟩
theorem once_iff {l:List AskR} (h:∀ a∈l,0≤a.pnt∧a.pnt≤99):once l=true↔(l.map AskR.pnt).Nodup:=by
 unfold once
 rw[ziA l _ (by simp) h]
 constructor
 ·exact fun h=>h.2
 ·intro h2
  exact ⟨fun a ha=>by have:=h a ha;exact zgf _ _ _ (by omega),h2⟩
theorem zhc {p:Pln} (ho:za2 p=true) {r:Rte} (hr:r∈p.routes):((zao p r).1.asks.map AskR.pnt).Nodup:=by
 obtain ⟨hok,_,h3⟩:=zbB ho
 have:=h3 r hr
 simp only[zct,Bool.and_eq_true]at this
 exact (once_iff fun a ha=>by have:=zb2 hok hr ha;omega).1 this.1
def zdQ (l:List Switch) (n:Int):Int:=zeD (zft [] l) n
theorem zlm (l:List Switch) {n m:Int} (v:Int) (h:m≠n):zdQ (zc5 Switch.id n (fun t=>⟨t.id,t.lie,v⟩) l) m=zdQ l m:=zhF n v m h l [] [] rfl
theorem zng {l:List Switch} (hn:(l.map Switch.id).Nodup) {n:Int} (v:Int) (h:n∈l.map Switch.id):zdQ (zc5 Switch.id n (fun t=>⟨t.id,t.lie,v⟩) l) n=v:=by
 obtain ⟨x,hx,e⟩:=List.mem_map.1 h
 have h1:(⟨x.id,x.lie,v⟩:Switch)∈zc5 Switch.id n (fun t=>⟨t.id,t.lie,v⟩) l:=by
  unfold zc5
  exact List.mem_map.2 ⟨x,hx,by rw[if_pos e]⟩
 have:=zjB (zc5 Switch.id n (fun t=>⟨t.id,t.lie,v⟩) l) [] (by rw[zhh Switch.id n (fun t=>⟨t.id,t.lie,v⟩) (fun _=>rfl)];exact hn) _ h1
 dsimp only at this
 rw[e]at this
 exact this
theorem zeY:∀ (q:List AskR) (l:List Switch) {n:Int},(∀ a∈q,a.pnt≠n)→zdQ (zaN q l) n=zdQ l n
 |[],_,_,_=>rfl
 |a::q,l,n,h=>by
  show zdQ (zaN q (zc5 Switch.id a.pnt (fun t=>⟨t.id,t.lie,a.lie⟩) l)) n=_
  rw[zeY q _ fun b hb=>h b (by simp[hb]),zlm l a.lie (fun e=>h a (by simp) e.symm)]
theorem zgA:∀ (q:List AskR) (l:List Switch),(l.map Switch.id).Nodup→(q.map AskR.pnt).Nodup→∀ a∈q,a.pnt∈l.map Switch.id→zdQ (zaN q l) a.pnt=a.lie
 |[],_,_,_,a,ha,_=>by cases ha
 |b::q,l,hl,hq,a,ha,hi=>by
  simp only[List.map_cons,List.nodup_cons]at hq
  show zdQ (zaN q (zc5 Switch.id b.pnt (fun t=>⟨t.id,t.lie,b.lie⟩) l)) a.pnt=_
  rcases List.mem_cons.1 ha with rfl|ha
  ·rw[zeY q _ fun c hc e=>hq.1 (by rw[←e];exact List.mem_map_of_mem hc),zng hl _ hi]
  ·refine zgA q _ (by rw[zhh Switch.id b.pnt (fun t=>⟨t.id,t.lie,b.lie⟩) (fun _=>rfl)];exact hl) hq.2 a ha ?_
   rw[zhh Switch.id b.pnt (fun t=>⟨t.id,t.lie,b.lie⟩) (fun _=>rfl)];exact hi
end Go.Lev
namespace Go.Lev
open Go.Eng
theorem zlF {p:Pln} {s:State} (h:zap p s=true):(zof p s).length=s.locks.length:=by
 have:=zaQ h
 simp only[zof,List.length_zip,zbc,List.length_map]
 omega
theorem zeF {p:Pln} {s:State} (h:zap p s=true) {i:Nat} (hi:i<(zof p s).length):(zof p s)[i]=((zao p (nth p.routes i)).1,nth s.locks i):=by
 have h1:=zlF h
 have h2:=zaQ h
 simp[zof,zbc,zaY (show i<p.routes.length by omega),zaY (show i<s.locks.length by omega)]
theorem zi2 {p:Pln} {s:State} (h:zap p s=true):zj2 (zof p s)↔∀ i j,i<s.locks.length→j<s.locks.length→i≠j→∀ m∈hdAt p s i,m∉hdAt p s j:=by
 have hl:=zlF h
 unfold zj2
 rw[List.pairwise_iff_getElem]
 constructor
 ·intro hp i j hi hj hne m hm hm'
  rcases Nat.lt_trichotomy i j with hlt|e|hlt
  ·have:=hp i j (by omega) (by omega) hlt
   rw[zeF h,zeF h]at this
   exact this m hm hm'
  ·exact hne e
  ·have:=hp j i (by omega) (by omega) hlt
   rw[zeF h,zeF h]at this
   exact this m hm' hm
 ·intro hp i j hi hj hlt
  rw[zeF h,zeF h]
  exact hp i j (by omega) (by omega) (by omega)
theorem zfg {p:Pln} {s:State} (h:zap p s=true):zkL s (zof p s)↔∀ i,i<s.locks.length→∀ a∈asAt p s i,zex s a.pnt=a.lie:=by
 have h2:=zaQ h
 constructor
 ·intro hp i hi a ha
  exact hp _ (zof_at h (by omega)) a ha
 ·intro hp z hz a ha
  obtain ⟨i,r,_,hi,e1,e2,_,e3,_⟩:=zeE h hz
  refine hp i (by omega) a ?_
  unfold asAt
  rw[e1,e2,←e3]
  exact ha
theorem zd4 {p:Pln} {s:State}:zav p s=0↔za2 p=true∧zap p s=true∧(∀ i j,i<s.locks.length→j<s.locks.length→i≠j→∀ m∈hdAt p s i,m∉hdAt p s j)∧∀ i,i<s.locks.length→∀ a∈asAt p s i,zex s a.pnt=a.lie:=by
 rw[zeI]
 constructor
 ·rintro ⟨h1,h2,h3,h4⟩;exact ⟨h1,h2,(zi2 h2).1 h3,(zfg h2).1 h4⟩
 ·rintro ⟨h1,h2,h3,h4⟩;exact ⟨h1,h2,(zi2 h2).2 h3,(zfg h2).2 h4⟩
theorem zne (s:State) (n:Int):zex s n=zdQ s.switches n:=rfl
theorem zlk (q:List AskR):∀ (l:List Switch) (k:Nat),k<l.length→(nth (zaN q l) k).id=(nth l k).id∧(nth (zaN q l) k).lie=(nth l k).lie∧((nth (zaN q l) k).call=(nth l k).call∨∃ a∈q,a.pnt=(nth l k).id∧(nth (zaN q l) k).call=a.lie):=by
 induction q with
 |nil=>intro l k _;exact ⟨rfl,rfl,.inl rfl⟩
 |cons b q ih =>
  intro l k hk
  have h1:=ih (zc5 Switch.id b.pnt (fun t=>⟨t.id,t.lie,b.lie⟩) l) k (by rw[zd2];exact hk)
  have h2:nth (zc5 Switch.id b.pnt (fun t=>(⟨t.id,t.lie,b.lie⟩:Switch)) l) k=if (nth l k).id=b.pnt then ⟨(nth l k).id,(nth l k).lie,b.lie⟩ else nth l k:=by
   unfold zc5
   exact zk6 (fun x=>if Switch.id x=b.pnt then (⟨x.id,x.lie,b.lie⟩:Switch) else x) hk
  rw[show zaN (b::q) l=zaN q (zc5 Switch.id b.pnt (fun t=>⟨t.id,t.lie,b.lie⟩) l) from rfl]
  rw[h2]at h1
  by_cases e:(nth l k).id=b.pnt
  ·rw[if_pos e]at h1
   dsimp only at h1
   refine ⟨h1.1,h1.2.1,.inr ?_⟩
   rcases h1.2.2 with h3|⟨a,ha,h3,h4⟩
   ·exact ⟨b,by simp,e.symm,h3⟩
   ·exact ⟨a,by simp[ha],h3,h4⟩
  ·rw[if_neg e]at h1
   refine ⟨h1.1,h1.2.1, ?_⟩
   rcases h1.2.2 with h3|⟨a,ha,h3,h4⟩
   ·exact .inl h3
   ·exact .inr ⟨a,by simp[ha],h3,h4⟩
section
variable {p:Pln} {s:State} {i:Nat} (h:zav p s=0) (hi:i<s.locks.length) (hph:(nth s.locks i).phase=0)
include h hi
theorem zfL {n:Int} (hid:(nth s.locks i).id=n) (q:List AskR) {j:Nat} (hj:j<s.locks.length):nth (setK s n q).locks j=if j=i then ⟨n,1,(nth s.locks i).gone,(nth s.locks i).left⟩ else nth s.locks j:=by
 show nth (zc5 Lock.id n (fun l=>⟨l.id,1,l.gone,l.left⟩) s.locks) j=_
 have h2:nth (zc5 Lock.id n (fun l=>(⟨l.id,1,l.gone,l.left⟩:Lock)) s.locks) j=if (nth s.locks j).id=n then ⟨(nth s.locks j).id,1,(nth s.locks j).gone,(nth s.locks j).left⟩ else nth s.locks j:=by
  unfold zc5
  exact zk6 (fun x=>if Lock.id x=n then (⟨x.id,1,x.gone,x.left⟩:Lock) else x) hj
 rw[h2]
 by_cases e:j=i
 ·subst e;rw[if_pos hid,if_pos rfl,hid]
 ·rw[if_neg e,if_neg (fun e2=>e (lck_inj h hj hi (e2.trans hid.symm)))]
include hph
theorem zih:(nth s.locks i).gone=0∧(nth s.locks i).left=0:=by
 have:=zmB (zaF h).2.1 hi
 simp only[zdW,zdb,hph,Bool.and_eq_true]at this
 simpa using this.2
theorem zkW {n:Int} (hid:(nth s.locks i).id=n):zap p (setK s n (zao p (nth p.routes i)).1.asks)=true:=by
 have hpa:=(zaF h).2.1
 have hok:=zbx h
 have hl:=zaQ hpa
 have hp2:=hpa
 unfold zap at hpa ⊢
 simp only[Bool.and_eq_true,zdn]at hpa ⊢
 refine ⟨hpa.1,⟨by show (zaN _ _).length=_;rw[zbt];exact hpa.2.1.1,fun k hk=>?_⟩,by show (zc5 _ _ _ _).length=_;rw[zd2];exact hpa.2.2.1,fun k hk=>?_⟩
 ·have hk':k<s.switches.length:=by have:k<(zaN (zao p (nth p.routes i)).1.asks s.switches).length:=hk;rw[zbt]at this;exact this
  have h1:=hpa.2.1.2 k hk'
  have h2:=zlk (zao p (nth p.routes i)).1.asks s.switches k hk'
  show zhk (nth (zaN _ s.switches) k) _=true
  simp only[zhk,zem,Bool.and_eq_true,decide_eq_true_eq]at h1 ⊢
  refine ⟨h2.1.trans h1.1,by rw[h2.2.1];exact h1.2.1, ?_⟩
  rcases h2.2.2 with e|⟨a,ha,_,e⟩
  ·rw[e];exact h1.2.2
  ·have:=(zb2 hok (zas (show i<p.routes.length by omega)) ha).2.2
   rw[e];omega
 ·have hk':k<s.locks.length:=by have:k<(zc5 Lock.id n (fun l=>(⟨l.id,1,l.gone,l.left⟩:Lock)) s.locks).length:=hk;rw[zd2]at this;exact this
  rw[zfL h hi hid _ hk']
  have h1:=hpa.2.2.2 k hk'
  split
  ·rename_i e
   subst e
   have hr:=zih h hi hph
   simp only[zdW,zdb,Bool.and_eq_true,decide_eq_true_eq]at h1 ⊢
   refine ⟨hid▸h1.1, ?_⟩
   simp[hr.1,hr.2]
  ·exact h1
theorem zlW {n:Int} (hid:(nth s.locks i).id=n) (hf:∀ m∈(zao p (nth p.routes i)).1.path++(zao p (nth p.routes i)).1.over,nth (za0 p s).1 m.toNat=0)
  (hk:∀ a∈(zao p (nth p.routes i)).1.asks,zex s a.pnt=a.lie∨nth (za0 p s).2.1 a.pnt.toNat=0):zav p (setK s n (zao p (nth p.routes i)).1.asks)=0:=by
 have h':=zd4.1 h
 obtain ⟨h1,h2,h3,h4⟩:=h'
 have hok:=zbx h
 have hl:=zaQ h2
 have hr:=zih h hi hph
 have hsl:(setK s n (zao p (nth p.routes i)).1.asks).locks.length=s.locks.length:=zd2 _ _ _ _
 have hwr:nth p.routes i∈p.routes:=zas (by omega)
 have hd:∀ j,j<s.locks.length→hdAt p (setK s n (zao p (nth p.routes i)).1.asks) j=if j=i then (zao p (nth p.routes i)).1.path++(zao p (nth p.routes i)).1.over else hdAt p s j:=fun j hj=>by
  unfold hdAt
  rw[zfL h hi hid _ hj]
  by_cases e:j=i
  ·subst e
   rw[if_pos rfl,if_pos rfl]
   unfold zbv
   rw[if_neg (by dsimp only;omega)]
   dsimp only
   rw[hr.1];rfl
  ·rw[if_neg e,if_neg e]
 have ha:∀ j,j<s.locks.length→asAt p (setK s n (zao p (nth p.routes i)).1.asks) j=if j=i then (zao p (nth p.routes i)).1.asks else asAt p s j:=fun j hj=>by
  unfold asAt
  rw[zfL h hi hid _ hj]
  by_cases e:j=i
  ·subst e
   rw[if_pos rfl,if_pos rfl]
   unfold zbL
   rw[if_neg (by dsimp only;omega)]
   refine List.filter_eq_self.2 fun a _=>?_
   simp only[zdl,hr.1,Bool.or_eq_true,decide_eq_true_eq]
   omega
  ·rw[if_neg e,if_neg e]
 have hnd:(s.switches.map Switch.id).Nodup:=by rw[zhj h2];exact ziu hok
 refine zd4.2 ⟨h1,zkW h hi hph hid,fun a b ha' hb' hne m hm hm'=>?_,fun j hj a haj=>?_⟩
 ·rw[hsl]at ha' hb'
  rw[hd a ha']at hm
  rw[hd b hb']at hm'
  have free:∀ j,j<s.locks.length→∀ m∈(zao p (nth p.routes i)).1.path++(zao p (nth p.routes i)).1.over,m∉hdAt p s j:=fun j hj m hm hm'=>by
   have e1:=hf m hm
   have e2:=hold_at h (ziw h hj) hm'
   have:=lck_pos h hj
   rw[e1]at e2
   dsimp only at e2
   omega
  by_cases e:a=i
  ·rw[if_pos e]at hm
   rw[if_neg (fun e2=>hne (e.trans e2.symm))]at hm'
   exact free b hb' m hm hm'
  ·rw[if_neg e]at hm
   by_cases e2:b=i
   ·rw[if_pos e2]at hm'
    exact free a ha' m hm' hm
   ·rw[if_neg e2]at hm'
    exact h3 a b ha' hb' hne m hm hm'
 ·rw[hsl]at hj
  rw[ha j hj]at haj
  rw[zne]
  show zdQ (zaN _ s.switches) a.pnt=_
  by_cases e:j=i
  ·rw[if_pos e]at haj
   refine zgA _ _ hnd (zhc h1 hwr) a haj ?_
   obtain ⟨x,hx,ex⟩:=(zb2 hok hwr haj).1
   rw[zhj h2,←ex]
   exact List.mem_map_of_mem hx
  ·rw[if_neg e]at haj
   have h5:=h4 j hj a haj
   rcases Classical.em (∃ b∈(zao p (nth p.routes i)).1.asks,b.pnt=a.pnt) with ⟨b,hb,eb⟩|hno
   ·have h6:=zgA _ s.switches hnd (zhc h1 hwr) b hb (by
     obtain ⟨x,hx,ex⟩:=(zb2 hok hwr hb).1
     rw[zhj h2,←ex]
     exact List.mem_map_of_mem hx)
    rw[←eb,h6]
    rcases hk b hb with h7|h7
    ·rw[←h7,eb];exact h5
    ·rw[eb,ask_is h hj haj]at h7
     have:=zmx h hj haj
     omega
   ·rw[zeY _ _ fun b hb e=>hno ⟨b,hb,e⟩]
    exact h5
end
end Go.Lev
namespace Go.Lev
open Go.Eng
set_option maxRecDepth 10000
set_option maxHeartbeats 4000000
variable {P:Program} {inv:Nat→Option Nat} {w0:World} {M:Nat→Prop}
def zjt:Pln:=⟨1,0,[⟨1,0,[⟨0,0⟩,⟨2,0⟩]⟩,⟨2,0,[⟨1,1⟩,⟨0,0⟩]⟩],[],[⟨1,1,1⟩],[⟨1,1,0,[2],[],[],3⟩]⟩
theorem smA:Sm zjt:=⟨by decide,by decide,by decide,by decide,by decide,by decide⟩
def stA:State:=⟨[⟨1,2⟩,⟨2,2⟩],[],[⟨1,0,0,0⟩]⟩
theorem smSA:SmS stA:=⟨by decide,by decide,by decide⟩
theorem okA:za2 zjt=true:=by decide +kernel
theorem atA:atR zjt=stA:=by decide +kernel
theorem codeA:zav zjt stA=0:=by decide +kernel
theorem soundA:zbd zjt=0:=by unfold zbd;rw[if_pos okA]
theorem zmf (hH:HasAll P inv):PC P inv 66 [] (·=.agg zjt.c):=by
 have h:PC P inv 66 [] (·=.agg [.n 1,.n 0,.sl 3 (zjt.sections.map Section.c),.sl 2 [],.sl 3 (zjt.signals.map Sgn.c),.sl 7 [[.n 1,.n 1,.n 0,.sl 1 [[.n 2]],.s0 1,.s0 2,.n 3]]]):=by
  refine zae (F:=cd66) (hH.has _ _ rfl) (Nat.le_of_ble_eq_true rfl) fun w0 M Q hM hQ hR=>?_;have hE:=hH.callable;dsimp only[cd66,qm,ql,qf,qi,qb,qc,qp,qv,qN,qT,qF,qt]at hQ ⊢
  repeat' (first|refine zaa [0] fun K hK=>?_|refine AWp.block ?_|(refine hK.go ?_;clear hK K)|refine Cont.go (by assumption) ?_|(refine cnd2 rfl (fun h=>?_) (fun h=>?_)<;>(try first|exact h.elim|obtain rfl:(_:Bool)=true:=h|obtain rfl:(_:Bool)=false:=h)<;>first|(exfalso;omega)|skip)|((first|refine AWp.reg hE hM ?_|refine AWp.regd hE hM ?_|refine AWp.ret ?_|refine AWp.skip ?_|refine AWp.exit ?_|(refine pk2 (fun h=>?_) (fun h=>?_)<;>(try first|exact h.elim|obtain rfl:(_:Bool)=true:=h|obtain rfl:(_:Bool)=false:=h))|refine zab (fun h=>?_) ?_|(refine hQ _ _ _ rfl ?_;clear hQ hR hE hM)|(refine hR _ _ (hQ _ _ _ rfl ?_);clear hQ hR hE hM)|(refine zaf ?_ ?_;focus first|omega|(refine zac ?_;(refine no_implicit_lambda% (st ?_);try with_reducible exact True.intro);done)))<;>try (refine no_implicit_lambda% (st ?_);try with_reducible exact True.intro)))
  rfl
 exact h.nzr
theorem zlx (hH:HasAll P inv) (hI:HasIds P inv):PC P inv 68 [] (·=.b true):=by
 have c0:=zmf hH
 have c1:=sAt_pc hH hI zjt smA
 rw[atA,soundA]at c1
 have c2:=zdp hH hI zjt smA stA smSA
 rw[codeA]at c2
 unfold stA at c1 c2
 refine zae (F:=cd68) (hH.has _ _ rfl) (Nat.le_of_ble_eq_true rfl) fun w0 M Q hM hQ hR=>?_;have hE:=hH.callable;dsimp only[cd68,qm,ql,qf,qi,qb,qc,qp,qv,qN,qT,qF,qt]at hQ ⊢
 repeat' (first|refine zaa [0,1,2,41] fun K hK=>?_|refine AWp.block ?_|(refine hK.go ?_;clear hK K)|refine Cont.go (by assumption) ?_|(refine cnd2 rfl (fun h=>?_) (fun h=>?_)<;>(try first|exact h.elim|obtain rfl:(_:Bool)=true:=h|obtain rfl:(_:Bool)=false:=h)<;>first|(exfalso;omega)|skip)|((first|refine AWp.reg hE hM ?_|refine AWp.regd hE hM ?_|refine AWp.ret ?_|refine AWp.skip ?_|refine AWp.exit ?_|(refine pk2 (fun h=>?_) (fun h=>?_)<;>(try first|exact h.elim|obtain rfl:(_:Bool)=true:=h|obtain rfl:(_:Bool)=false:=h))|refine zab (fun h=>?_) ?_|refine zad hM (c0) ?_|refine zad hM (c1) ?_|refine zad hM (c2) ?_|(refine hQ _ _ _ rfl ?_;clear hQ hR hE hM)|(refine hR _ _ (hQ _ _ _ rfl ?_);clear hQ hR hE hM)|(refine zaf ?_ ?_;focus first|omega|(refine zac ?_;(refine no_implicit_lambda% (st ?_);try with_reducible exact True.intro);done)))<;>try (refine no_implicit_lambda% (st ?_);try with_reducible exact True.intro)))
 all_goals first|rfl|(exfalso;contradiction)|skip
end Go.Lev
namespace Go.Lev
open Go.Eng
set_option maxRecDepth 10000
set_option maxHeartbeats 4000000
variable {P:Program} {inv:Nat→Option Nat} {w0:World} {M:Nat→Prop}
section
variable {L:List Lock} {k:Nat} (h:k<L.length)
include h
theorem lk_set0 (v:Int):(L.map Lock.c).flatten.set (k*4) (.i .i64 v)=((L.set k ⟨v,(nth L k).phase,(nth L k).gone,(nth L k).left⟩).map Lock.c).flatten:=by
 have:=zhO (c:=Lock.c) (l:=L) (k:=k) (i:=0) h (by omega) (.i .i64 v) ⟨v,(nth L k).phase,(nth L k).gone,(nth L k).left⟩ rfl
 simpa using this
theorem zjC (v:Int):(L.map Lock.c).flatten.set (k*4+1) (.i .u8 v)=((L.set k ⟨(nth L k).id,v,(nth L k).gone,(nth L k).left⟩).map Lock.c).flatten :=
 zhO (c:=Lock.c) (l:=L) (k:=k) (i:=1) h (by omega) (.i .u8 v) ⟨(nth L k).id,v,(nth L k).gone,(nth L k).left⟩ rfl
theorem zjD:(L.map Lock.c).flatten[k*4]?=some (.i .i64 (nth L k).id):=fget0 (c:=Lock.c) (l:=L) h (by omega)
end
section
variable {L:List Lock} {k:Nat} (h:k<L.length) (x:Lock)
include h
end
def tickL (l:Lock):Lock:=if l.left=0 then l else if l.left-1=0 then ⟨l.id,0,0,0⟩ else ⟨l.id,l.phase,l.gone,l.left-1⟩
def tickS (s:State):State:=⟨s.tracks,s.switches,s.locks.map tickL⟩
theorem updI_id {α:Type} [Inhabited α] (f:Nat→α→α) {k:Nat} {l:List α} (h:k<l.length) (e:f k (nth l k)=nth l k):zi8 f k l=zi8 f (k+1) l:=by
 have e1:=zj4 f h
 rw[e,←zj5 f h,zaY (by rw[zfm];exact h),List.set_getElem_self]at e1
 exact e1
def tickR (p:Pln) (s:State):State:=if zav p s=0 then tickS s else State.z
end Go.Lev
namespace Go.Eng
open Go.RowKit
mutual
/-- Numbers,truth values,names: nothing that lies in memory nobody names. -/
def nmV:AV→Bool
 |.agg cs=>nmL cs
 |.tup cs=>nmL cs
 |.i _ _=>true|.b _=>true|.v _=>true|.u=>true|.s0 _=>true|.ptr _ _ _=>true|.sm _ _ _ _ _=>true
 |.sl _ _=>false|.ip _ _ _ _=>false|.fn _ _=>false|.mp _=>false|.top=>false
def nmL:List AV→Bool
 |[]=>true
 |x::xs=>nmV x&&nmL xs
end
mutual
theorem zmp {c c':Ctx} (hS:c'.S=c.S):∀ (x:AV) (y:Value),nmV x=true→rel c x y→rel c' x y
 |.agg cs,y,s,r=>by
  simp only[rel]at r ⊢
  obtain ⟨xs,e,r⟩:=r
  exact ⟨xs,e,zhD hS cs _ (by simpa only[nmV] using s) r⟩
 |.tup cs,y,s,r=>by
  simp only[rel]at r ⊢
  obtain ⟨xs,e,r⟩:=r
  exact ⟨xs,e,zmr hS cs _ (by simpa only[nmV] using s) r⟩
 |.i _ _,_,_,r=>by simpa only[rel] using r
 |.b _,_,_,r=>by simpa only[rel] using r
 |.v _,_,_,r=>by simpa only[rel] using r
 |.u,_,_,r=>by simpa only[rel] using r
 |.s0 _,_,_,r=>by simpa only[rel] using r
 |.ptr _ _ _,_,_,r=>by simpa only[rel,hS] using r
 |.sm _ _ _ _ _,_,_,r=>by simpa only[rel,hS] using r
 |.sl _ _,_,s,_=>by simp[nmV]at s
 |.ip _ _ _ _,_,s,_=>by simp[nmV]at s
 |.fn _ _,_,s,_=>by simp[nmV]at s
 |.mp _,_,s,_=>by simp[nmV]at s
 |.top,_,s,_=>by simp[nmV]at s
theorem zmr {c c':Ctx} (hS:c'.S=c.S):∀ (xs:List AV) (ys:List Value),nmL xs=true→zbu c xs ys→zbu c' xs ys
 |[],ys,_,r=>by simpa only[zbu] using r
 |x::xs,ys,s,r=>by
  simp only[nmL,Bool.and_eq_true]at s
  simp only[zbu]at r ⊢
  obtain ⟨y,ys',e,r1,r2⟩:=r
  exact ⟨y,ys',e,zmp hS x y s.1 r1,zmr hS xs ys' s.2 r2⟩
theorem zhD {c c':Ctx} (hS:c'.S=c.S):∀ (xs:List AV) (ys:List Value),nmL xs=true→relCs c xs ys→relCs c' xs ys
 |[],ys,_,r=>by simpa only[relCs] using r
 |x::xs,ys,s,r=>by
  simp only[nmL,Bool.and_eq_true]at s
  simp only[relCs]at r ⊢
  obtain ⟨y,ys',e,ho,r1,r2⟩:=r
  exact ⟨y,ys',e,ho,zmp hS x y s.1 r1,zhD hS xs ys' s.2 r2⟩
end
def nmR:List (Nat×AO)→Bool
 |[]=>true
 |(_,.cells cs _)::r=>nmL cs&&nmR r
 |_::r=>nmR r
theorem zmq:∀ {σ:List (Nat×AO)},nmR σ=true→∀ {l:Nat} {cs:List AV} {b:Bool},zaB σ l=some (.cells cs b)→nmL cs=true
 |[],_,l,cs,b,e=>by simp[zaB]at e
 |(k,o)::r,h,l,cs,b,e=>by
  have hr:nmR r=true:=by
   cases o with
   |cells cs' b'=>simp only[nmR,Bool.and_eq_true]at h;exact h.2
   |imap kvs=>exact h
   |rsv=>exact h
  unfold zaB at e
  split at e
  ·simp only[Option.some.injEq]at e
   subst e
   simp only[nmR,Bool.and_eq_true]at h
   exact h.1
  ·exact zmq hr e
theorem zms:∀ (xs ys:List AV),nmL (xs++ys)=(nmL xs&&nmL ys)
 |[],ys=>by simp[nmL]
 |x::xs,ys=>by simp[nmL,zms xs ys,Bool.and_assoc]
theorem zhC {α:Type} {c:α→List AV} (h:∀ a,nmL (c a)=true) (l:List α):nmL (l.map c).flatten=true:=by
 induction l with
 |nil=>rfl
 |cons x l ih=>simp[zms,h x,ih]
section
variable {P:Program} {inv:Nat→Option Nat} {w0:World} {M:Nat→Prop} {n N:Nat} {φ:AF} {σ:AS}
theorem zkK (hM:∀ b,M b→b<w0.heap.size) (k:Nat) {j:Nat} {args args':List AV} {r:AV} {σ0:AS} (h:PO P inv j args' r σ0) (he:zby k σ args=args') (hr:nmV r=true) (hs:nmR σ0=true) {K:AV→AS→Prop}
  (hk:K (shV (zaA N φ σ) r) (zh0 σ (shS (zaA N φ σ) σ0))):CallK P inv w0 M N φ σ j args K:=by
 obtain ⟨f1,f2,f3⟩:=zba N φ σ
 refine ⟨zaA N φ σ,f1,f2,fun g hg β w vs hm ha=>?_⟩
 have hf:=zd7 hm hM (A':=fun _=>False) (fun _ h=>h.elim) k
 have ha2:=zc7 hm hM (fun _ h=>h.elim) hf _ _ ha
 rw[show zbD (zhl k σ) args=args' from he]at ha2
 have hle:Ctx.Le ⟨inv,w,fun _=>False,fun _=>none⟩ (ctx inv (fun _=>False) [] (fun _=>0) w):=⟨rfl,Nat.le_refl _,fun _ _ _=>rfl,fun b _ hb=>by
  rcases hb with hb|⟨l,o,e,_⟩
  ·exact hb
  ·simp[zaB]at e⟩
 have hS:(ctx inv (fun _=>False) [] (fun _=>0) w).S=fun _=>Option.none:=by funext l;simp[ctx,zak,zaB]
 refine (h w (fun _=>False) (fun _ h=>h.elim) g hg (fun _=>0) w vs (Mem.none w) (zbG (N:=0) hle _ _ (.inr hS) ha2)).mono ?_
 rintro e w' ⟨v,r',σ',β',rfl,⟨rfl,rfl⟩,hm',_,hr'⟩
 have hm2:Mem inv w (avoid M σ β) σ' β' w':=⟨hm'.below,hm'.inj,hm'.own,fun l cs e=>by
  obtain ⟨xs,ty,q1,q2,q3⟩:=hm'.cells l cs e
  exact ⟨xs,ty,q1,q2,zhD (c:=ctx inv (fun _=>False) σ' β' w') (c':=ctx inv (avoid M σ β) σ' β' w') rfl _ _ (zmq hs e) q3⟩,hm'.ghost,hm'.maps⟩
 obtain ⟨j1,j2,j3⟩:=hm.join hm2 (zaA N φ σ) f3
 exact ⟨v,_,_,_,rfl,hk,j1,j2,j3 _ _ (zmp (c:=ctx inv (fun _=>False) σ' β' w') (c':=ctx inv (avoid M σ β) σ' β' w') rfl _ _ hr hr')⟩
end
end Go.Eng
