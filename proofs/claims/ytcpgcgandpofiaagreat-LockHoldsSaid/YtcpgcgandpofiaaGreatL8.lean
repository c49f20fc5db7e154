/-
  A part of the engine that walks the functions' codes, and of the functions' contracts. Conditions: those that each theorem names.
-/
import Derived.Test.YtcpgcgandpofiaaGreatL7
import Derived.IntWalk
set_option linter.unusedSimpArgs false
set_option linter.unusedVariables false
set_option linter.unusedSectionVars false
namespace Go.Lev
open Go.Eng
set_option maxRecDepth 10000
set_option maxHeartbeats 4000000
variable {P:Program} {inv:Nat→Option Nat} {w0:World} {M:Nat→Prop}
def minK (n:Int):Int:=if 1000<n then 1000 else n
def sumS:Int→List Section→Int
 |t,[]=>t
 |t,s::r=>sumS (t+minK s.ends.length) r
def sumR:Int→List Rte→Int
 |t,[]=>t
 |t,r::l=>sumR (t+minK r.path.length+minK r.over.length+minK r.flanks.length) l
def zc8 (p:Pln):Bool:=decide (100<(p.sections.length:Int))||(decide (100<(p.points.length:Int))||(decide (100<(p.signals.length:Int))||decide (100<(p.routes.length:Int))))
def zfa (p:Pln):Bool:=zc8 p||decide (1000<sumR (sumS 0 p.sections) p.routes)
theorem zlK (n:Nat):0≤minK n∧minK n≤1000:=by unfold minK;split<;>omega
theorem zcq (hH:HasAll P inv) (p:Pln):PC P inv 71 [.agg p.c] (·=.b (zfa p)):=by
 unfold zfa
 cases hg0:zc8 p with
 |true =>
  rw[Bool.true_or]
  refine zae (F:=cd71) (hH.has _ _ rfl) (Nat.le_of_ble_eq_true rfl) fun w0 M Q hM hQ hR=>?_;have hE:=hH.callable;dsimp only[cd71,qm,ql,qf,qi,qb,qc,qp,qv,qN,qT,qF,qt]at hQ ⊢
  repeat' (first|refine zaa [0,1,2,3,4,5,27,32,49] fun K hK=>?_|refine AWp.block ?_|(refine hK.go ?_;clear hK K)|refine Cont.go (by assumption) ?_|(refine cnd2 rfl (fun h=>?_) (fun h=>?_)<;>(try first|exact h.elim|obtain rfl:(_:Bool)=true:=h|obtain rfl:(_:Bool)=false:=h)<;>first|(exfalso;omega)|skip)|((first|refine AWp.reg hE hM ?_|refine AWp.regd hE hM ?_|refine AWp.ret ?_|refine AWp.skip ?_|refine AWp.exit ?_|(refine pk2 (fun h=>?_) (fun h=>?_)<;>(try first|exact h.elim|obtain rfl:(_:Bool)=true:=h|obtain rfl:(_:Bool)=false:=h))|refine zab (fun h=>?_) ?_|(refine hQ _ _ _ rfl ?_;clear hQ hR hE hM)|(refine hR _ _ (hQ _ _ _ rfl ?_);clear hQ hR hE hM)|(refine zaf ?_ ?_;focus first|omega|(refine zad ?_;(refine no_implicit_lambda% (st ?_);try with_reducible exact True.intro);done)))<;>try (refine no_implicit_lambda% (st ?_);try with_reducible exact True.intro)))
  all_goals first|rfl|(exfalso;simp[zc8]at hg0;omega)
 |false =>
  rw[Bool.false_or]
  have hb:p.sections.length≤100∧p.points.length≤100∧p.signals.length≤100∧p.routes.length≤100:=by
   simp[zc8]at hg0;omega
  refine zae (F:=cd71) (hH.has _ _ rfl) (Nat.le_of_ble_eq_true rfl) fun w0 M Q hM hQ hR=>?_;have hE:=hH.callable;dsimp only[cd71,qm,ql,qf,qi,qb,qc,qp,qv,qN,qT,qF,qt]at hQ ⊢
  repeat' (first|refine zaa [0,1,2,3,4,5,27,32,49] fun K hK=>?_|refine AWp.block ?_|(refine hK.go ?_;clear hK K)|refine Cont.go (by assumption) ?_|(refine cnd2 rfl (fun h=>?_) (fun h=>?_)<;>(try first|exact h.elim|obtain rfl:(_:Bool)=true:=h|obtain rfl:(_:Bool)=false:=h)<;>first|(exfalso;omega)|skip)|((first|refine AWp.reg hE hM ?_|refine AWp.regd hE hM ?_|refine AWp.ret ?_|refine AWp.skip ?_|refine AWp.exit ?_|(refine pk2 (fun h=>?_) (fun h=>?_)<;>(try first|exact h.elim|obtain rfl:(_:Bool)=true:=h|obtain rfl:(_:Bool)=false:=h))|refine zab (fun h=>?_) ?_|(refine hQ _ _ _ rfl ?_;clear hQ hR hE hM)|(refine hR _ _ (hQ _ _ _ rfl ?_);clear hQ hR hE hM)|(refine zaf ?_ ?_;focus first|omega|(refine zad ?_;(refine no_implicit_lambda% (st ?_);try with_reducible exact True.intro);done)))<;>try (refine no_implicit_lambda% (st ?_);try with_reducible exact True.intro)))
  all_goals first|(exfalso;omega)|skip
  refine zah (ι:=Nat×Int) [1,2,3,4] (fun zz=>[(3,.n zz.2),(4,.n zz.1)]) (fun zz=>[]) (fun zz=>zz.1≤p.sections.length∧(0≤zz.2∧zz.2≤1000*zz.1)∧(sumS zz.2 (p.sections.drop zz.1)=sumS 0 p.sections)) (fun zz=>p.sections.length-zz.1) (0,0) ⟨Nat.zero_le _,(by first|rfl|assumption|omega|(simp;done)|(simp;omega)|grind),(by first|rfl|assumption|omega|(simp;done)|(simp;omega)|grind)⟩ (by (try dsimp only);(refine no_implicit_lambda% (st ?_);try with_reducible exact True.intro)<;>first|omega|(simp;done)) (by (try dsimp only);(refine no_implicit_lambda% (st ?_);try with_reducible exact True.intro)<;>first|omega|(simp;done)) ?_;rintro ⟨k,t⟩ ⟨hk,ht,hg⟩;(try dsimp only at hk ht hg ⊢);rcases Nat.lt_or_ge k p.sections.length with hlt|hge
  ·rw[zap hlt]at hg
   rw[sumS]at hg
   have hm:=zlK (nth p.sections k).ends.length
   unfold minK at hg hm
   repeat' (first|refine zaa [0,1,2,3,4,5,27,32,49] fun K hK=>?_|refine AWp.block ?_|(refine hK.go ?_;clear hK K)|refine Cont.go (by assumption) ?_|(refine cnd2 rfl (fun h=>?_) (fun h=>?_)<;>(try first|exact h.elim|obtain rfl:(_:Bool)=true:=h|obtain rfl:(_:Bool)=false:=h)<;>first|(exfalso;omega)|skip)|((first|refine AWp.reg hE hM ?_|refine AWp.regd hE hM ?_|refine AWp.ret ?_|refine AWp.skip ?_|refine AWp.exit ?_|(refine pk2 (fun h=>?_) (fun h=>?_)<;>(try first|exact h.elim|obtain rfl:(_:Bool)=true:=h|obtain rfl:(_:Bool)=false:=h))|refine zab (fun h=>?_) ?_|(refine hQ _ _ _ rfl ?_;clear hQ hR hE hM)|(refine hR _ _ (hQ _ _ _ rfl ?_);clear hQ hR hE hM)|(refine zaf ?_ ?_;focus first|omega|(refine zad ?_;(refine no_implicit_lambda% (st ?_);try with_reducible exact True.intro);done)))<;>try (refine no_implicit_lambda% (st ?_);try with_reducible exact True.intro)))
   refine ⟨(k+1,_),by (try dsimp only);omega,⟨by (try dsimp only);omega,by (try dsimp only);omega,hg⟩, ?_⟩;(try dsimp only);(first|omega|(simp;done)|(simp;omega)|((refine no_implicit_lambda% (st ?_);try with_reducible exact True.intro);done)|(simp[List.map_set, *];done)|(simp[List.map_set, *];rfl)|((refine no_implicit_lambda% (st ?_);try with_reducible exact True.intro);simp[List.map_set, *];done)|((try (refine no_implicit_lambda% (st ?_);try with_reducible exact True.intro));(repeat' refine And.intro ?_ ?_)<;>first|omega|rfl|(simp;done)|(simp;omega)|(simp;rfl)|(simp[List.map_set, *];done)|(simp[List.map_set, *];rfl)))
  ·rw[List.drop_eq_nil_of_le hge,sumS]at hg
   repeat' (first|refine zaa [0,1,2,3,4,5,27,32,49] fun K hK=>?_|refine AWp.block ?_|(refine hK.go ?_;clear hK K)|refine Cont.go (by assumption) ?_|(refine cnd2 rfl (fun h=>?_) (fun h=>?_)<;>(try first|exact h.elim|obtain rfl:(_:Bool)=true:=h|obtain rfl:(_:Bool)=false:=h)<;>first|(exfalso;omega)|skip)|((first|refine AWp.reg hE hM ?_|refine AWp.regd hE hM ?_|refine AWp.ret ?_|refine AWp.skip ?_|refine AWp.exit ?_|(refine pk2 (fun h=>?_) (fun h=>?_)<;>(try first|exact h.elim|obtain rfl:(_:Bool)=true:=h|obtain rfl:(_:Bool)=false:=h))|refine zab (fun h=>?_) ?_|(refine hQ _ _ _ rfl ?_;clear hQ hR hE hM)|(refine hR _ _ (hQ _ _ _ rfl ?_);clear hQ hR hE hM)|(refine zaf ?_ ?_;focus first|omega|(refine zad ?_;(refine no_implicit_lambda% (st ?_);try with_reducible exact True.intro);done)))<;>try (refine no_implicit_lambda% (st ?_);try with_reducible exact True.intro)))
   refine zah (ι:=Nat×Int) [1,2,3,5] (fun zz=>[(3,.n zz.2),(5,.n zz.1)]) (fun zz=>[]) (fun zz=>zz.1≤p.routes.length∧(0≤zz.2∧zz.2≤100000+3000*zz.1)∧(sumR zz.2 (p.routes.drop zz.1)=sumR t p.routes)) (fun zz=>p.routes.length-zz.1) (0,t) ⟨Nat.zero_le _,(by first|rfl|assumption|omega|(simp;done)|(simp;omega)|grind),(by first|rfl|assumption|omega|(simp;done)|(simp;omega)|grind)⟩ (by (try dsimp only);(refine no_implicit_lambda% (st ?_);try with_reducible exact True.intro)<;>first|omega|(simp;done)) (by (try dsimp only);(refine no_implicit_lambda% (st ?_);try with_reducible exact True.intro)<;>first|omega|(simp;done)) ?_;rintro ⟨k2,u⟩ ⟨hk,hu,hg2⟩;(try dsimp only at hk hu hg2 ⊢);rcases Nat.lt_or_ge k2 p.routes.length with hlt|hge
   ·rw[zap (by assumption),sumR]at hg2
    have hm1:=zlK (nth p.routes k2).path.length
    have hm2:=zlK (nth p.routes k2).over.length
    have hm3:=zlK (nth p.routes k2).flanks.length
    unfold minK at hg2 hm1 hm2 hm3
    repeat' (first|refine zaa [0,1,2,3,4,5,27,32,49] fun K hK=>?_|refine AWp.block ?_|(refine hK.go ?_;clear hK K)|refine Cont.go (by assumption) ?_|(refine cnd2 rfl (fun h=>?_) (fun h=>?_)<;>(try first|exact h.elim|obtain rfl:(_:Bool)=true:=h|obtain rfl:(_:Bool)=false:=h)<;>first|(exfalso;omega)|skip)|((first|refine AWp.reg hE hM ?_|refine AWp.regd hE hM ?_|refine AWp.ret ?_|refine AWp.skip ?_|refine AWp.exit ?_|(refine pk2 (fun h=>?_) (fun h=>?_)<;>(try first|exact h.elim|obtain rfl:(_:Bool)=true:=h|obtain rfl:(_:Bool)=false:=h))|refine zab (fun h=>?_) ?_|(refine hQ _ _ _ rfl ?_;clear hQ hR hE hM)|(refine hR _ _ (hQ _ _ _ rfl ?_);clear hQ hR hE hM)|(refine zaf ?_ ?_;focus first|omega|(refine zad ?_;(refine no_implicit_lambda% (st ?_);try with_reducible exact True.intro);done)))<;>try (refine no_implicit_lambda% (st ?_);try with_reducible exact True.intro)))
    refine ⟨(k2+1,_),by (try dsimp only);omega,⟨by (try dsimp only);omega,by (try dsimp only);omega,hg2⟩, ?_⟩;(try dsimp only);(first|omega|(simp;done)|(simp;omega)|((refine no_implicit_lambda% (st ?_);try with_reducible exact True.intro);done)|(simp[List.map_set, *];done)|(simp[List.map_set, *];rfl)|((refine no_implicit_lambda% (st ?_);try with_reducible exact True.intro);simp[List.map_set, *];done)|((try (refine no_implicit_lambda% (st ?_);try with_reducible exact True.intro));(repeat' refine And.intro ?_ ?_)<;>first|omega|rfl|(simp;done)|(simp;omega)|(simp;rfl)|(simp[List.map_set, *];done)|(simp[List.map_set, *];rfl)))
   ·rw[List.drop_eq_nil_of_le (by assumption),sumR]at hg2
    repeat' (first|refine zaa [0,1,2,3,4,5,27,32,49] fun K hK=>?_|refine AWp.block ?_|(refine hK.go ?_;clear hK K)|refine Cont.go (by assumption) ?_|(refine cnd2 rfl (fun h=>?_) (fun h=>?_)<;>(try first|exact h.elim|obtain rfl:(_:Bool)=true:=h|obtain rfl:(_:Bool)=false:=h)<;>first|(exfalso;omega)|skip)|((first|refine AWp.reg hE hM ?_|refine AWp.regd hE hM ?_|refine AWp.ret ?_|refine AWp.skip ?_|refine AWp.exit ?_|(refine pk2 (fun h=>?_) (fun h=>?_)<;>(try first|exact h.elim|obtain rfl:(_:Bool)=true:=h|obtain rfl:(_:Bool)=false:=h))|refine zab (fun h=>?_) ?_|(refine hQ _ _ _ rfl ?_;clear hQ hR hE hM)|(refine hR _ _ (hQ _ _ _ rfl ?_);clear hQ hR hE hM)|(refine zaf ?_ ?_;focus first|omega|(refine zad ?_;(refine no_implicit_lambda% (st ?_);try with_reducible exact True.intro);done)))<;>try (refine no_implicit_lambda% (st ?_);try with_reducible exact True.intro)))
    rw[hg2,hg]
theorem zno {p:Pln} (hp:Pln.ok p) (hg:zfa p=false):Sm p:=by
 have h1:zc8 p=false:=by
  unfold zfa at hg
  simp only[Bool.or_eq_false_iff]at hg
  exact hg.1
 have hb:p.sections.length≤100∧p.points.length≤100∧p.signals.length≤100∧p.routes.length≤100:=by
  simp[zc8]at h1;omega
 obtain ⟨_,_,h3,h4,h5,h6⟩:=hp
 refine ⟨by omega,fun s hs=>?_,by omega,by omega,by omega,fun r hr=>?_⟩
 ·have:=(h3.2 s hs).2.2.1
  exact Nat.le_trans this (by decide)
 ·have:=h6.2 r hr
  exact ⟨Nat.le_trans this.2.2.2.1.1 (by decide),Nat.le_trans this.2.2.2.2.1.1 (by decide),Nat.le_trans this.2.2.2.2.2.1.1 (by decide)⟩
theorem zjl {s:State} (h:zf7 s=false):SmS s:=by
 unfold zf7 at h;unfold SmS;simp at h;omega
end Go.Lev
namespace Go.Lev
open Go.Eng
set_option maxRecDepth 10000
set_option maxHeartbeats 4000000
variable {P:Program} {inv:Nat→Option Nat} {w0:World} {M:Nat→Prop}
def zcm {α:Type} (f:α→Int) (n:Int) (g:α→α) (l:List α):List α:=l.map fun x=>if f x=n then g x else x
theorem zeG {α:Type} [Inhabited α] (f:α→Int) (n:Int) (g:α→α):∀ {l:List α},(l.map f).Nodup→∀ {k:Nat},k<l.length→f (nth l k)=n→l.set k (g (nth l k))=zcm f n g l
 |[],_,k,h,_=>by simp at h
 |x::r,hn,0,_,e=>by
  simp only[List.map_cons,List.nodup_cons]at hn
  have e:f x=n:=e
  unfold zcm
  rw[List.set_cons_zero,List.map_cons,if_pos e]
  congr 1
  symm
  refine (List.map_congr_left fun y hy=>?_).trans (List.map_id r)
  rw[if_neg (fun h=>hn.1 (by rw[e,←h];exact List.mem_map_of_mem hy))]
  rfl
 |x::r,hn,k+1,h,e=>by
  simp only[List.map_cons,List.nodup_cons]at hn
  have hk:k<r.length:=by simpa using h
  have e:f (nth r k)=n:=e
  have ih:=zeG f n g hn.2 hk e
  unfold zcm at ih ⊢
  rw[List.set_cons_succ,List.map_cons,if_neg (fun h=>hn.1 (by rw[h,←e];exact List.mem_map_of_mem (zal hk)))]
  exact congrArg (x::·) ih
theorem zbr {α:Type} (f:α→Int) (n:Int) (g:α→α) (l:List α):(zcm f n g l).length=l.length:=by simp[zcm]
theorem zbb {α:Type} [Inhabited α] (f:α→Int) (n:Int) (l:List α):(zcc (fun x=>decide (f x=n)) 0 l=-1∧∀ x∈l,f x≠n)∨∃ i:Nat,i<l.length∧zcc (fun x=>decide (f x=n)) 0 l=(i:Int)∧f (nth l i)=n:=by
 rcases zbX (fun x:α=>decide (f x=n)) l 0 with ⟨h1,h2⟩|⟨i,h1,h2,h3⟩
 ·exact .inl ⟨h1,zoG h2⟩
 ·exact .inr ⟨i,h1,by omega,(zdN (f:=f) h3).2⟩
end Go.Lev
namespace Go.Lev
open Go.Eng
set_option maxRecDepth 10000
set_option maxHeartbeats 4000000
variable {P:Program} {inv:Nat→Option Nat} {w0:World} {M:Nat→Prop}
def setT (s:State) (n v:Int):State:=⟨zcm Track.id n (fun t=>⟨t.id,v⟩) s.tracks,s.switches,s.locks⟩
def setL (s:State) (n v:Int):State:=⟨s.tracks,zcm Switch.id n (fun t=>⟨t.id,v,t.call⟩) s.switches,s.locks⟩
def zoh (s:State) (n:Int):Prop:=∃ t∈s.tracks,t.id=n
def isSwt (s:State) (n:Int):Prop:=∃ t∈s.switches,t.id=n
instance (s:State) (n:Int):Decidable (zoh s n):=by unfold zoh;infer_instance
instance (s:State) (n:Int):Decidable (isSwt s n):=by unfold isSwt;infer_instance
def zes (p:Pln) (s:State) (n v:Int):Int:=if zan p s=0 then (if zoh s n then (if v=0∨v=1 then 0 else 2) else 6) else zan p s
def detCode (p:Pln) (s:State) (n v:Int):Int:=if zan p s=0 then (if isSwt s n then (if 0≤v∧v≤2 then 0 else 2) else 6) else zan p s
def secR (p:Pln) (s:State) (n v:Int):State:=if zes p s n v=0 then setT s n v else State.z
def detR (p:Pln) (s:State) (n v:Int):State:=if detCode p s n v=0 then setL s n v else State.z
end Go.Lev
namespace Go.Lev
open Go.Eng
theorem zcB {α β:Type} [Inhabited α] [Inhabited β] (q:α→β→Bool):∀ (a:List α) (b:List β),zaK q a b=true↔a.length=b.length∧∀ i,i<a.length→q (nth a i) (nth b i)=true
 |[],[]=>by simp[zaK]
 |[],_::_=>by simp[zaK]
 |_::_,[]=>by simp[zaK]
 |x::xs,y::ys=>by
  simp only[zaK,Bool.and_eq_true,zcB q xs ys,List.length_cons,Nat.add_right_cancel_iff]
  constructor
  ·rintro ⟨h1,h2,h3⟩
   refine ⟨h2,fun i hi=>?_⟩
   cases i with
   |zero=>exact h1
   |succ i=>exact h3 i (by omega)
  ·rintro ⟨h2,h3⟩
   exact ⟨h3 0 (by omega),h2,fun i hi=>h3 (i+1) (by omega)⟩
theorem zod {p:Pln} {s:State} (h:zar p s=true) {i:Nat} (hi:i<s.locks.length):ze3 (nth s.locks i) (nth p.routes i)=true:=by
 simp only[zar,Bool.and_eq_true]at h
 exact zeE h.2.2 hi
theorem zik {α:Type} (f:α→Int) (n:Int) (g:α→α) (hg:∀ x,f (g x)=f x) (l:List α):(zcm f n g l).map f=l.map f:=by
 unfold zcm
 rw[List.map_map]
 refine List.map_congr_left fun x _=>?_
 simp only[Function.comp]
 split
 ·exact hg x
 ·rfl
end Go.Lev
namespace Go.Lev
open Go.Eng
theorem zg7 {p:Pln} {s:State} (h:zan p s=0) {i j:Nat} (hi:i<s.locks.length) (hj:j<s.locks.length) (e:(nth s.locks i).id=(nth s.locks j).id):i=j:=by
 obtain ⟨h1,h2,_⟩:=zaj h
 have hn:(s.locks.map Lock.id).Nodup:=by rw[lck_ids h2];exact zjv (zbo h1).1
 have:=(List.nodup_iff_pairwise_ne.1 hn)
 rcases Nat.lt_trichotomy i j with hlt|he|hlt
 ·have:=List.pairwise_iff_getElem.1 this i j (by simpa using hi) (by simpa using hj) hlt
  simp only[List.getElem_map]at this
  rw[←zaV hi,←zaV hj]at this
  exact absurd e this
 ·exact he
 ·have:=List.pairwise_iff_getElem.1 this j i (by simpa using hj) (by simpa using hi) hlt
  simp only[List.getElem_map]at this
  rw[←zaV hi,←zaV hj]at this
  exact absurd e.symm this
theorem zoc {p:Pln} {s:State} (h:zan p s=0) {i:Nat} (hi:i<s.locks.length):1≤(nth s.locks i).id∧(nth s.locks i).id≤99:=by
 obtain ⟨h1,h2,_⟩:=zaj h
 have hl:=zaB h2
 have hl2:=zod h2 hi
 simp only[ze3,Bool.and_eq_true,decide_eq_true_eq]at hl2
 rw[hl2.1]
 exact zju (zbo h1).1 (zal (by omega))
def zm5 (p:Pln) (s:State) (i:Nat):List Int:=zbL (zak p (nth p.routes i)).1 (nth s.locks i)
def zo4 (p:Pln) (s:State) (i:Nat):List AskR:=(zch (zak p (nth p.routes i)).1 (nth s.locks i)).filter (zdS (nth s.locks i))
theorem zjb {p:Pln} {s:State} (h:zan p s=0) {z:WL} (hz:z∈zof p s):∃ i,i<s.locks.length∧z=((zak p (nth p.routes i)).1,nth s.locks i):=by
 have h2:=(zaj h).2.1
 have hl:=zaB h2
 obtain ⟨i,r,hr,hi,e1,e2,_,e3,_⟩:=zfo h2 hz
 refine ⟨i,by omega, ?_⟩
 rw[e1,e2,←e3]
theorem zgW {p:Pln} {s:State} (h:zan p s=0) {i:Nat} (hi:i<s.locks.length):((zak p (nth p.routes i)).1,nth s.locks i)∈zof p s:=by
 have h2:=(zaj h).2.1
 have hl:=zaB h2
 exact zof_at h2 (by omega)
theorem hold_iff {p:Pln} {s:State} (h:zan p s=0) {i:Nat} (hi:i<s.locks.length) {n:Int} (hn:0≤n):nth (zaw p s).1 n.toNat=(nth s.locks i).id↔n∈zm5 p s i:=by
 constructor
 ·intro e
  rcases zmG h hn with ⟨z,hz,hm,e2⟩|⟨_,e2⟩
  ·obtain ⟨j,hj,rfl⟩:=zjb h hz
   rw[e2]at e
   obtain rfl:=zg7 h hj hi e
   exact hm
  ·have:=zoc h hi
   omega
 ·intro hm
  exact zk0 h (zgW h hi) hm
theorem ask_is {p:Pln} {s:State} (h:zan p s=0) {i:Nat} (hi:i<s.locks.length) {a:AskR} (ha:a∈zo4 p s i):nth (zaw p s).2.1 a.pnt.toNat=a.lie:=zl4 h (zgW h hi) ha
theorem zn9 {p:Pln} {s:State} (h:zan p s=0) {i:Nat} (hi:i<s.locks.length) {a:AskR} (ha:a∈zo4 p s i):a.lie=1∨a.lie=2:=by
 obtain ⟨h1,h2,_⟩:=zaj h
 have hl:=zaB h2
 have h3:=(List.mem_filter.1 ha).1
 unfold zch at h3
 split at h3
 ·simp at h3
 ·exact (zbK (zbo h1).1 (zal (by omega)) h3).2.2
def pathG (g n:Int):Nat→List Int→Bool
 |_,[]=>false
 |k,x::r=>(decide (x=n)&&decide (g≤k))||pathG g n (k+1) r
end Go.Lev
namespace Go.Eng
mutual
def nz:AV→AV
 |.s0 sz=>.sl sz []
 |.agg cs=>.agg (nzL cs)
 |.tup cs=>.tup (nzL cs)
 |.fn j cs=>.fn j (nzL cs)
 |.sl sz es=>.sl sz (nzR es)
 |.ip sz es i k=>.ip sz (nzR es) i k
 |.i k n=>.i k n
 |.b t=>.b t
 |.v x=>.v x
 |.u=>.u
 |.ptr l ver off=>.ptr l ver off
 |.sm l ver off n sz=>.sm l ver off n sz
 |.mp l=>.mp l
 |.top=>.top
def nzL:List AV→List AV
 |[]=>[]
 |x::xs=>nz x::nzL xs
def nzR:List (List AV)→List (List AV)
 |[]=>[]
 |r::rs=>nzL r::nzR rs
end
theorem znX:∀ xs:List AV,(nzL xs).length=xs.length
 |[]=>by simp only[nzL]
 |x::xs=>by simp only[nzL,List.length_cons,znX xs]
theorem zkQ:∀ xs:List (List AV),(nzR xs).length=xs.length
 |[]=>by simp only[nzR]
 |x::xs=>by simp only[nzR,List.length_cons,zkQ xs]
mutual
theorem zkP:∀ x:AV,x.bare=true→(nz x).bare=true
 |.s0 sz,_=>by simp only[nz,AV.bare]
 |.agg cs,h=>by simp only[nz,AV.bare]at h ⊢;exact zgi cs h
 |.tup cs,h=>by simp only[nz,AV.bare]at h ⊢;exact zgi cs h
 |.fn j cs,h=>by simp only[nz,AV.bare]at h ⊢;exact zgi cs h
 |.sl sz es,_=>by simp only[nz,AV.bare]
 |.ip sz es i k,_=>by simp only[nz,AV.bare]
 |.i k n,_=>by simp only[nz,AV.bare]
 |.b t,_=>by simp only[nz,AV.bare]
 |.v x,_=>by simp only[nz,AV.bare]
 |.u,_=>by simp only[nz,AV.bare]
 |.ptr l ver off,h=>by simp only[nz];exact h
 |.sm l ver off n sz,h=>by simp only[nz];exact h
 |.mp l,h=>by simp only[nz];exact h
 |.top,_=>by simp only[nz,AV.bare]
theorem zgi:∀ xs:List AV,zai xs=true→zai (nzL xs)=true
 |[],_=>by simp only[nzL,zai]
 |x::xs,h=>by
  simp only[zai,Bool.and_eq_true]at h
  simp only[nzL,zai,zkP x h.1,zgi xs h.2,Bool.and_self]
end
mutual
theorem zlA:∀ (c:Ctx) (x:AV) (y:Value),rel c x y→rel c (nz x) y
 |c,.s0 sz,y,r=>by
  simp only[nz,rel]at r ⊢
  obtain ⟨ad,e⟩:=r
  exact ⟨ad,0,e,Nat.le_refl _,fun h=>absurd rfl h⟩
 |c,.agg cs,y,r=>by
  simp only[nz,rel]at r ⊢
  obtain ⟨xs,e,r⟩:=r
  exact ⟨xs,e,zlD c cs _ r⟩
 |c,.tup cs,y,r=>by
  simp only[nz,rel]at r ⊢
  obtain ⟨xs,e,r⟩:=r
  exact ⟨xs,e,zkH c cs _ r⟩
 |c,.fn j cs,y,r=>by
  simp only[nz,rel]at r ⊢
  obtain ⟨g,xs,e,hi,r⟩:=r
  exact ⟨g,xs,e,hi,zkH c cs _ r⟩
 |c,.sl sz es,y,r=>by
  simp only[nz,rel]at r ⊢
  obtain ⟨ad,cap,e,h,r⟩:=r
  refine ⟨ad,cap,by rw[zkQ];exact e,by rw[zkQ];exact h,fun hne=>?_⟩
  have hne':es≠[]:=fun e0=>hne (by rw[e0];simp only[nzR])
  obtain ⟨a,e1,h1,h2,h3⟩:=r hne'
  exact ⟨a,e1,h1,h2,zfx c sz a 0 es h3⟩
 |c,.ip sz es i k,y,r=>by
  simp only[nz,rel]at r ⊢
  obtain ⟨a,e,h1,h2,h3⟩:=r
  exact ⟨a,e,h1,h2,zfx c sz a 0 es h3⟩
 |c,.i k n,y,r=>by simp only[nz];exact r
 |c,.b t,y,r=>by simp only[nz];exact r
 |c,.v x,y,r=>by simp only[nz];exact r
 |c,.u,y,r=>by simp only[nz];exact r
 |c,.ptr l ver off,y,r=>by simp only[nz];exact r
 |c,.sm l ver off n sz,y,r=>by simp only[nz];exact r
 |c,.mp l,y,r=>by simp only[nz];exact r
 |c,.top,y,r=>by simp only[nz];exact r
theorem zkH:∀ (c:Ctx) (xs:List AV) (ys:List Value),zbC c xs ys→zbC c (nzL xs) ys
 |c,[],ys,r=>by simp only[nzL];exact r
 |c,x::xs,ys,r=>by
  simp only[nzL,zbC]at r ⊢
  obtain ⟨y,ys',e,r1,r2⟩:=r
  exact ⟨y,ys',e,zlA c x y r1,zkH c xs ys' r2⟩
theorem zlD:∀ (c:Ctx) (xs:List AV) (ys:List Value),relCs c xs ys→relCs c (nzL xs) ys
 |c,[],ys,r=>by simp only[nzL];exact r
 |c,x::xs,ys,r=>by
  simp only[nzL,relCs]at r ⊢
  obtain ⟨y,ys',e,ho,r1,r2⟩:=r
  exact ⟨y,ys',e,ho,zlA c x y r1,zlD c xs ys' r2⟩
theorem zjx:∀ (c:Ctx) (a:Addr) (k:Nat) (xs:List AV),zbu c a k xs→zbu c a k (nzL xs)
 |c,a,k,[],r=>by simp only[nzL];exact r
 |c,a,k,x::xs,r=>by
  simp only[nzL,zbu]at r ⊢
  obtain ⟨⟨y,h1,h2,h3,h4⟩,r⟩:=r
  exact ⟨⟨y,h1,h2,zkP x h3,zlA _ x y h4⟩,zjx c a (k+1) xs r⟩
theorem zfx:∀ (c:Ctx) (sz:Nat) (a:Addr) (k:Nat) (es:List (List AV)),zaD c sz a k es→zaD c sz a k (nzR es)
 |c,sz,a,k,[],r=>by simp only[nzR];exact r
 |c,sz,a,k,x::xs,r=>by
  simp only[nzR,zaD]at r ⊢
  exact ⟨by rw[znX];exact r.1,zjx c a k x r.2.1,zfx c sz a (k+sz) xs r.2.2⟩
end
theorem PC.nzr {P:Program} {inv:Nat→Option Nat} {j:Nat} {args:List AV} {r:AV} (h:PC P inv j args (·=r)):PC P inv j args (·=nz r) :=
 fun g hg M w vs hM ha=>(h g hg M w vs hM ha).mono fun _ _ ⟨v,r',e,h1,h2,h3,h4⟩=>⟨v,nz r',e,by rw[h1],h2,zkP r' h3,zlA _ r' v h4⟩
attribute [go_sem] nz nzL nzR
end Go.Eng
namespace Go.Eng
open Go.RowKit
theorem pk3 {t:Bool} {X Y A B:Prop} (x:t=true→A→X) (y:t=false→B→Y) (h:Rw (t=true) A:=by first|(simp only[decide_eq_true_eq,decide_eq_false_iff_not,Bool.not_eq_true',Bool.not_eq_false',Bool.and_eq_true,Bool.or_eq_true,Bool.and_eq_false_imp,Bool.or_eq_false_iff,Bool.true_eq_false,Bool.false_eq_true,reduceCtorEq,if_true,if_false];exact zbz _)|exact zbz _) (h':Rw (t=false) B:=by first|(simp only[decide_eq_true_eq,decide_eq_false_iff_not,Bool.not_eq_true',Bool.not_eq_false',Bool.and_eq_true,Bool.or_eq_true,Bool.and_eq_false_imp,Bool.or_eq_false_iff,Bool.true_eq_false,Bool.false_eq_true,reduceCtorEq,if_true,if_false];exact zbz _)|exact zbz _):zev t X Y:=⟨fun e=>x e (Eq.mp h e),fun e=>y e (Eq.mp h' e)⟩
theorem zfJ {P:Program} {inv:Nat→Option Nat} {w0:World} {M:Nat→Prop} {n N:Nat} {φ:AF} {σ:AS} {c:Opd} {u v:ACode} {Q:Exit→AF→AS→Prop} {t:Bool} {A B:Prop} (ht:ev φ c=.b t) (x:t=true→A→AWp P inv w0 M N n u Q φ σ) (y:t=false→B→AWp P inv w0 M N n v Q φ σ) (h:Rw (t=true) A:=by first|(simp only[decide_eq_true_eq,decide_eq_false_iff_not,Bool.not_eq_true',Bool.not_eq_false',Bool.and_eq_true,Bool.or_eq_true,Bool.and_eq_false_imp,Bool.or_eq_false_iff,Bool.true_eq_false,Bool.false_eq_true,reduceCtorEq,if_true,if_false];exact zbz _)|exact zbz _) (h':Rw (t=false) B:=by first|(simp only[decide_eq_true_eq,decide_eq_false_iff_not,Bool.not_eq_true',Bool.not_eq_false',Bool.and_eq_true,Bool.or_eq_true,Bool.and_eq_false_imp,Bool.or_eq_false_iff,Bool.true_eq_false,Bool.false_eq_true,reduceCtorEq,if_true,if_false];exact zbz _)|exact zbz _):AWp P inv w0 M N n (.cond c u v) Q φ σ:=AWp.cond ht (fun e=>x e (Eq.mp h e)) (fun e=>y e (Eq.mp h' e))
def zbI {S R:Type} (body:Nat→S→(S→R)→R) (fin:S→R):Nat→Nat→S→R
 |0,_,s=>fin s
 |m+1,k,s=>body k s fun s'=>zbI body fin m (k+1) s'
section
variable {S R:Type} {body:Nat→S→(S→R)→R} {fin:S→R} {n k:Nat} {s:S}
theorem zmx (h:k<n):zbI body fin (n-k) k s=body k s fun s'=>zbI body fin (n-(k+1)) (k+1) s':=by
 obtain ⟨m,hm⟩:∃ m,n-k=m+1:=⟨n-k-1,by omega⟩
 rw[hm,show n-(k+1)=m by omega]
 rfl
theorem zbc {B:Nat→S→(S→R)→R} (hB:B=body) (h:k<n):zbI B fin (n-k) k s=body k s fun s'=>zbI B fin (n-(k+1)) (k+1) s':=by rw[zmx h];subst hB;rfl
theorem zbG (h:n≤k):zbI body fin (n-k) k s=fin s:=by
 rw[show n-k=0 by omega]
 rfl
theorem zbH {X:R} (hF:zbI body fin n 0 s=X) {G:Prop} (h:∀ B F,B=body→F=fin→zbI B F (n-0) 0 s=X→G):G:=h _ _ rfl rfl hF
theorem zbp (good:R→Prop) (Inv:Nat→S→Prop) (h0:Inv 0 s) (hs:∀ k s zcw,k<n→Inv k s→(∀ s',Inv (k+1) s'→good (zcw s'))→good (body k s zcw)) (hf:∀ s,Inv n s→good (fin s)):good (zbI body fin n 0 s):=by
 have key:∀ m k s,k+m=n→Inv k s→good (zbI body fin m k s):=by
  intro m
  induction m with
  |zero=>intro k s hk hi;exact hf s (by rw[show n=k by omega];exact hi)
  |succ m ih=>intro k s hk hi;exact hs k s _ (by omega) hi fun s' h'=>ih (k+1) s' (by omega) h'
 exact key n 0 s (by omega) h0
end
mutual
def okS (g:Nat→Bool):AV→Bool
 |.agg cs=>zm2 g cs
 |.tup cs=>zm2 g cs
 |.fn _ cs=>zm2 g cs
 |.ptr l _ _=>g l
 |.sm l _ _ _ _=>g l
 |.i _ _=>true|.b _=>true|.v _=>true|.u=>true|.s0 _=>true|.sl _ _=>true|.ip _ _ _ _=>true|.mp _=>true|.top=>true
def zm2 (g:Nat→Bool):List AV→Bool
 |[]=>true
 |x::xs=>okS g x&&zm2 g xs
end
def okF:Nat→AS→Nat→Bool
 |0,_,_=>false
 |k+1,σ,l=>match zaF σ l with
  |some (.cells cs _)=>zm2 (okF k σ) cs
  |_=>false
section
variable {f f':Nat→Option (List AV)} {g:Nat→Bool} (h:∀ l,g l=true→f' l=f l)
include h
mutual
theorem znn:∀ x:AV,okS g x=true→zaS f' x=zaS f x
 |.agg cs,e=>by simp only[okS]at e;simp only[zaS,zcZ cs e]
 |.tup cs,e=>by simp only[okS]at e;simp only[zaS,zcZ cs e]
 |.fn j cs,e=>by simp only[okS]at e;simp only[zaS,zcZ cs e]
 |.ptr l ver off,e=>by simp only[okS]at e;simp only[zaS,h l e]
 |.sm l ver off n sz,e=>by simp only[okS]at e;simp only[zaS,h l e]
 |.i _ _,_=>by simp only[zaS]
 |.b _,_=>by simp only[zaS]
 |.v _,_=>by simp only[zaS]
 |.u,_=>by simp only[zaS]
 |.s0 _,_=>by simp only[zaS]
 |.sl _ _,_=>by simp only[zaS]
 |.ip _ _ _ _,_=>by simp only[zaS]
 |.mp _,_=>by simp only[zaS]
 |.top,_=>by simp only[zaS]
theorem zcZ:∀ xs:List AV,zm2 g xs=true→zbP f' xs=zbP f xs
 |[],_=>by simp only[zbP]
 |x::xs,e=>by
  simp only[zm2,Bool.and_eq_true]at e
  simp only[zbP,znn x e.1,zcZ xs e.2]
end
end
def oks (k:Nat) (σ:List (Nat×AO)) (xs:List AV):Bool:=zm2 (okF k σ) xs
def ok1 (k:Nat) (σ:List (Nat×AO)) (x:AV):Bool:=okS (okF k σ) x
def okR (o:Option AO) (l:Nat) (K:List AV→Bool) (_:l=l):Bool:=match o with|some (.cells cs _)=>K cs|_=>false
theorem okR_c (cs:List AV) (r:Bool) (l:Nat) (K:List AV→Bool) (h:l=l):okR (some (.cells cs r)) l K h=K cs:=rfl
section
variable (k:Nat) (σ:List (Nat×AO))
theorem ok_i (q:IntKind) (n:Int):ok1 k σ (.i q n)=true:=by simp only[ok1,okS]
theorem ok_b (t:Bool):ok1 k σ (.b t)=true:=by simp only[ok1,okS]
theorem ok_v (x:Value):ok1 k σ (.v x)=true:=by simp only[ok1,okS]
theorem ok_u:ok1 k σ .u=true:=by simp only[ok1,okS]
theorem ok_s0 (sz:Nat):ok1 k σ (.s0 sz)=true:=by simp only[ok1,okS]
theorem ok_sl (sz:Nat) (es:List (List AV)):ok1 k σ (.sl sz es)=true:=by simp only[ok1,okS]
theorem ok_ip (sz:Nat) (es:List (List AV)) (i j:Nat):ok1 k σ (.ip sz es i j)=true:=by simp only[ok1,okS]
theorem ok_agg (cs:List AV):ok1 k σ (.agg cs)=oks k σ cs:=by simp only[ok1,okS,oks]
theorem ok_tup (cs:List AV):ok1 k σ (.tup cs)=oks k σ cs:=by simp only[ok1,okS,oks]
theorem ok_fn (j:Nat) (cs:List AV):ok1 k σ (.fn j cs)=oks k σ cs:=by simp only[ok1,okS,oks]
theorem ok_nil:oks k σ []=true:=by simp only[oks,zm2]
theorem ok_cons (x:AV) (xs:List AV):oks k σ (x::xs)=(ok1 k σ x&&oks k σ xs):=by simp only[ok1,zm2,oks]
theorem ok_ptr (l ver off:Nat):ok1 (k+1) σ (.ptr l ver off)=okR (zaF σ l) l (fun cs=>oks k σ cs) rfl:=by
 simp only[ok1,okS,okF,okR,oks]
theorem ok_sm (l ver off n sz:Nat):ok1 (k+1) σ (.sm l ver off n sz)=okR (zaF σ l) l (fun cs=>oks k σ cs) rfl:=by
 simp only[ok1,okS,okF,okR,oks]
end
mutual
theorem plain_ok (g:Nat→Bool):∀ x:AV,x.plain=true→okS g x=true
 |.agg cs,h=>by simp only[AV.plain]at h;simp only[okS];exact zdH g cs h
 |.i _ _,_=>rfl|.b _,_=>rfl|.v _,_=>rfl|.sl _ _,_=>rfl|.ip _ _ _ _,_=>rfl
 |.tup _,h=>by simp[AV.plain]at h
 |.u,h=>by simp[AV.plain]at h
 |.s0 _,h=>by simp[AV.plain]at h
 |.ptr _ _ _,h=>by simp[AV.plain]at h
 |.sm _ _ _ _ _,h=>by simp[AV.plain]at h
 |.fn _ _,h=>by simp[AV.plain]at h
 |.mp _,h=>by simp[AV.plain]at h
 |.top,h=>by simp[AV.plain]at h
theorem zdH (g:Nat→Bool):∀ xs:List AV,zaC xs=true→zm2 g xs=true
 |[],_=>rfl
 |x::xs,h=>by
  simp only[zaC,Bool.and_eq_true]at h
  simp only[zm2,plain_ok g x h.1,zdH g xs h.2,Bool.and_self]
end
theorem ok_flat {α:Type} {c:α→List AV} {sz:Nat} [h:Cells c sz] (k:Nat) (σ:AS) (l:List α):oks k σ (l.map c).flatten=true:=zdH _ _ (zcd l)
theorem ok_bmap (k:Nat) (σ:AS) (l:List Bool):oks k σ (l.map AV.b)=true:=zdH _ _ (zec l)
theorem ok_imap (k:Nat) (σ:AS) (q:IntKind) (l:List Int):oks k σ (l.map (AV.i q))=true:=zdH _ _ (zcE q l)
attribute [go_sem] okR_c ok_i ok_b ok_v ok_u ok_s0 ok_sl ok_ip ok_agg ok_tup ok_fn ok_nil ok_cons ok_ptr ok_sm ok_flat ok_bmap ok_imap
section
variable {P:Program} {inv:Nat→Option Nat} {w0:World} {M:Nat→Prop} {σ:AS}
end
section
variable {P:Program} {inv:Nat→Option Nat} {w0:World} {M:Nat→Prop} {n N:Nat} {φ:AF} {σ:AS}
variable {l:Nat} {J:AF→AS→Prop} {Q:Exit→AF→AS→Prop}
theorem jt_ret:zhI l J Q .ret φ σ=Q .ret φ σ:=rfl
theorem zoe:zhI l J Q .normal φ σ=Q .normal φ σ:=rfl
theorem jt_exit (i:Nat):zhI l J Q (.exit i) φ σ=Q (.exit i) φ σ:=rfl
theorem jt_goto (l':Nat):zhI l J Q (.goto l') φ σ=(l'=l∧J φ σ):=rfl
attribute [go_sem] jt_ret zoe jt_exit jt_goto
end
section
variable {P:Program} {inv:Nat→Option Nat} {w0:World} {M:Nat→Prop} {n N:Nat} {φ:AF} {σ:AS}
end
end Go.Eng
namespace Go.Lev
open Go.Eng
set_option maxRecDepth 10000
set_option maxHeartbeats 4000000
variable {P:Program} {inv:Nat→Option Nat} {w0:World} {M:Nat→Prop}
def zfn (s:State) (n:Int):Int:=match s.tracks.find? fun t=>decide (t.id=n) with|some t=>t.is|none=>2
def zbU (p:Pln) (n:Int):Int:=match p.points.find? fun t=>decide (t.id=n) with|some t=>t.sec|none=>0
def zd4 (p:Pln) (s:State) (n:Int):Int:=if zan p s=0 then (if zcx p n=true then (if nth (zaw p s).2.1 n.toNat=0 then (if zfn s (zbU p n)=0 then 0 else 171) else 170) else 6) else zan p s
def zdv (s:State) (n v:Int):State:=⟨s.tracks,zcm Switch.id n (fun t=>⟨t.id,t.lie,v⟩) s.switches,s.locks⟩
def zby (p:Pln) (s:State) (n v:Int):Int:=if zan p s=0 then (if zcx p n=true then (if v=1∨v=2 then zd4 p s n else 2) else 6) else zan p s
def zds (p:Pln) (s:State) (n v:Int):State:=if zby p s n v=0 then zdv s n v else State.z
theorem zfc {α:Type} [Inhabited α] (f:α→Int) {l:List α} (hn:(l.map f).Nodup) {k:Nat} (hk:k<l.length) {n:Int} (e:f (nth l k)=n):(l.find? fun t=>decide (f t=n))=some (nth l k):=by
 subst e
 exact zk6 f hn (zal hk)
theorem zng {p:Pln} {s:State} (h:zar p s=true) {n:Int} (hn:zcx p n=true):isSwt s n:=by
 obtain ⟨x,hx,e⟩:=List.any_eq_true.1 hn
 have e:x.id=n:=by simpa using e
 have:x.id∈s.switches.map Switch.id:=by rw[zdf h];exact List.mem_map_of_mem hx
 obtain ⟨t,ht,e2⟩:=List.mem_map.1 this
 exact ⟨t,ht,e2.trans e⟩
end Go.Lev
namespace Go.Lev
open Go.Eng
theorem ziL (n v m:Int) (hm:m≠n):∀ (l:List Switch) (C D:List (Int×Int)),zfm C m=zfm D m→zfm (zgj C (zcm Switch.id n (fun t=>⟨t.id,t.lie,v⟩) l)) m=zfm (zgj D l) m
 |[],_,_,h=>h
 |x::r,C,D,h=>by
  show zfm (zgj (zkS C (if x.id=n then (⟨x.id,x.lie,v⟩:Switch) else x).id (if x.id=n then (⟨x.id,x.lie,v⟩:Switch) else x).call) (zcm Switch.id n (fun t=>⟨t.id,t.lie,v⟩) r)) m=zfm (zgj (zkS D x.id x.call) r) m
  refine ziL n v m hm r _ _ ?_
  rw[ze1,ze1]
  by_cases hx:x.id=n
  ·rw[if_pos hx]
   dsimp only
   rw[if_neg (by omega),if_neg (by omega)]
   exact h
  ·rw[if_neg hx,h]
theorem zla (s:State) {n m:Int} (v:Int) (hm:m≠n):zcu (zdv s n v) m=zcu s m:=ziL n v m hm s.switches [] [] rfl
theorem zml {p:Pln} {s:State} {n v:Int} (h:zar p s=true) (hv:0≤v∧v≤2):zar p (zdv s n v)=true:=by
 unfold zar at h ⊢
 simp only[Bool.and_eq_true,zcB]at h ⊢
 unfold zdv
 simp only[zbr]
 refine ⟨h.1,⟨h.2.1.1,fun i hi=>?_⟩,h.2.2⟩
 have:=h.2.1.2 i hi
 unfold zcm
 rw[nthm (fun x=>if Switch.id x=n then (⟨x.id,x.lie,v⟩:Switch) else x) hi]
 simp only[zgp,ze2,Bool.and_eq_true,decide_eq_true_eq]at this ⊢
 split
 ·exact ⟨this.1,this.2.1,hv⟩
 ·exact this
theorem asl_lie {p:Pln} {s:State} (h:zan p s=0) {z:WL} (hz:z∈zof p s) {a:AskR} (ha:a∈asl z):a.lie=1∨a.lie=2:=by
 obtain ⟨i,hi,rfl⟩:=zjb h hz
 exact zn9 h hi ha
theorem znw {p:Pln} {s:State} {n v:Int} (h:zan p s=0) (hn:nth (zaw p s).2.1 n.toNat=0) (hv:0≤v∧v≤2):zan p (zdv s n v)=0:=by
 obtain ⟨h1,h2,h3,h4⟩:=(zdW p s).1 h
 refine (zdW p _).2 ⟨h1,zml h2 hv,h3,fun z hz a ha=>?_⟩
 have hne:a.pnt≠n:=fun e=>by
  have h5:=zl4 h hz ha
  have h6:=asl_lie h hz ha
  rw[e,hn]at h5
  omega
 rw[zla s v hne]
 exact h4 z hz a ha
structure MayCall (p:Pln) (s:State) (n:Int):Prop where
 st:zan p s=0
 pt:zcx p n=true
 ask:nth (zaw p s).2.1 n.toNat=0
 free:zfn s (zbU p n)=0
theorem MayCall.code {p:Pln} {s:State} {n v:Int} (h:MayCall p s n) (hv:v=1∨v=2):zan p (zdv s n v)=0:=znw h.st h.ask (by omega)
theorem zkR {α:Type} [Inhabited α] (f:α→Int) {l:List α} (hn:(l.map f).Nodup) {i j:Nat} (hi:i<l.length) (hj:j<l.length) (e:f (nth l i)=f (nth l j)):i=j:=by
 have:=List.nodup_iff_pairwise_ne.1 hn
 rcases Nat.lt_trichotomy i j with hlt|he|hlt
 ·have:=List.pairwise_iff_getElem.1 this i j (by simpa using hi) (by simpa using hj) hlt
  simp only[List.getElem_map]at this
  rw[←zaV hi,←zaV hj]at this
  exact absurd e this
 ·exact he
 ·have:=List.pairwise_iff_getElem.1 this j i (by simpa using hj) (by simpa using hi) hlt
  simp only[List.getElem_map]at this
  rw[←zaV hi,←zaV hj]at this
  exact absurd e.symm this
theorem zez {α:Type} [Inhabited α] {l:List α} {x:α} (h:x∈l):∃ k,k<l.length∧nth l k=x:=by
 obtain ⟨k,hk,e⟩:=List.mem_iff_getElem.1 h
 exact ⟨k,hk,by rw[zaV hk];exact e⟩
end Go.Lev
namespace Go.Lev
open Go.Eng
theorem zg9 {p:Pln} {s:State} (ho:OkP p) (h:zar p s=true) {k:Nat} (hk:k<s.tracks.length):zfn s (nth s.tracks k).id=(nth s.tracks k).is:=by
 unfold zfn
 rw[zfc Track.id (by rw[zil h];exact zgy ho) hk rfl]
theorem zc6 {p:Pln} (h:OkP p) {k:Nat} (hk:k<p.points.length):zbU p (nth p.points k).id=(nth p.points k).sec:=by
 unfold zbU
 rw[zfc Pnt.id (zbF h) hk rfl]
theorem ze4 {p:Pln} {k:Nat} (hk:k<p.points.length):zcx p (nth p.points k).id=true:=List.any_eq_true.2 ⟨_,zal hk,by simp⟩
def peF (p:Pln) (s:State) (n e a g m:Int):Bool :=
 zbI (fun i _ zcw=>cond (!decide ((nth p.points i).id=n)) (zcw ())
   (cond (!decide (a=0)) (decide (e=170))
    (zbI (fun k _ next2=>cond (decide ((nth s.tracks k).id=(nth p.points i).sec)&&!decide ((nth s.tracks k).is=0)) (decide (e=171)) (next2 ()))
     (fun _=>decide (e=0)&&decide (g=0)&&decide (m=0)) s.tracks.length 0 ())))
  (fun _=>decide (e=6)) p.points.length 0 ()
def pfF (p:Pln) (s:State) (n v e a c:Int):Bool :=
 zbI (fun i (st:Bool×Int) zcw=>cond (!decide ((nth p.points i).id=n)) (zcw st)
   (zbI (fun k (fr:Bool) next2=>next2 (fr||decide ((nth s.tracks k).id=(nth p.points i).sec)&&decide ((nth s.tracks k).is=0)))
    (fun fr=>zcw (fr,(i:Int))) s.tracks.length 0 st.1))
  (fun st=>cond (!decide (decide (e=0)=(decide (0≤st.2)&&(decide (v=1)||decide (v=2))&&decide (c=0)&&decide (a=0)&&st.1))) false true) p.points.length 0 (false,-1)
end Go.Lev
namespace Go.Lev
open Go.Eng
set_option maxRecDepth 10000
set_option maxHeartbeats 4000000
variable {P:Program} {inv:Nat→Option Nat} {w0:World} {M:Nat→Prop}
def planA:Pln:=⟨1,0,[⟨1,0,[⟨0,0⟩,⟨2,0⟩]⟩,⟨2,0,[⟨1,1⟩,⟨0,0⟩]⟩],[],[⟨1,1,1⟩],[⟨1,1,0,[2],[],[],3⟩]⟩
def stA:State:=⟨[⟨1,2⟩,⟨2,2⟩],[],[⟨1,0,0,0⟩]⟩
end Go.Lev
namespace Go.Lev
open Go.Eng
theorem of_ar {n:Nat} {e:Sh} {d:D} (h:Sh.ok (.ar n e) d):∃ l,d=.l l∧l.length=n∧∀ x∈l,Sh.ok e x:=by
 cases d with
 |l l=>exact ⟨l,rfl,by simpa only[Sh.ok] using h⟩
 |t _=>exact h.elim
 |n _=>exact h.elim
theorem arg_arr2 {d:D} (h:Sh.ok (.ar 2 (.i .i64)) d):∃ a b:Int,Sh.arg (.ar 2 (.i .i64)) d=.agg [.n a,.n b]:=by
 obtain ⟨l,rfl,hl,h⟩:=of_ar h
 match l,hl,h with
 |[x,y],_,h =>
  obtain ⟨a,rfl,_⟩:=zbe (h x (by simp))
  obtain ⟨b,rfl,_⟩:=zbe (h y (by simp))
  exact ⟨a,b,rfl⟩
theorem arg_bool {d:D} (h:Sh.ok .b d):∃ t,Sh.arg .b d=.b t:=by
 cases d with
 |t t=>exact ⟨t,rfl⟩
 |l _=>exact h.elim
 |n _=>exact h.elim
end Go.Lev
namespace Go.Lev
open Go.Eng
set_option maxRecDepth 10000
set_option maxHeartbeats 4000000
variable {P:Program} {inv:Nat→Option Nat} {w0:World} {M:Nat→Prop}
def zgS:Pln:=⟨1,0,[⟨1,0,[⟨0,0⟩,⟨2,0⟩]⟩,⟨2,5,[⟨1,1⟩,⟨3,0⟩,⟨4,0⟩]⟩,⟨3,0,[⟨2,1⟩,⟨0,0⟩]⟩,⟨4,0,[⟨2,2⟩,⟨0,0⟩]⟩],[⟨5,2⟩],[⟨1,1,1⟩],[⟨1,1,0,[2,3],[],[],3⟩]⟩
def stB:State:=⟨[⟨1,2⟩,⟨2,2⟩,⟨3,2⟩,⟨4,2⟩],[⟨5,0,0⟩],[⟨1,0,0,0⟩]⟩
def stB2:State:=⟨[⟨1,2⟩,⟨2,0⟩,⟨3,2⟩,⟨4,2⟩],[⟨5,0,0⟩],[⟨1,0,0,0⟩]⟩
def stB3:State:=⟨[⟨1,2⟩,⟨2,0⟩,⟨3,2⟩,⟨4,2⟩],[⟨5,0,2⟩],[⟨1,0,0,0⟩]⟩
end Go.Lev
namespace Go.Lev
open Go.Eng
set_option maxRecDepth 10000
set_option maxHeartbeats 4000000
variable {P:Program} {inv:Nat→Option Nat} {w0:World} {M:Nat→Prop}
def hasT (s:State) (n:Int):Bool:=s.tracks.any fun t=>decide (t.id=n)
def hasW (s:State) (n:Int):Bool:=s.switches.any fun t=>decide (t.id=n)
def ibF (s A B:State) (n v e1 e2:Int):Bool :=
 zbI (fun k t zcw =>
   cond (decide (e1=0)&&(decide ((nth s.tracks k).id=n)&&!decide ((nth A.tracks k).is=v)||!decide ((nth s.tracks k).id=n)&&!(decide ((nth A.tracks k).id=(nth s.tracks k).id)&&decide ((nth A.tracks k).is=(nth s.tracks k).is))))
    false (zcw (t||decide ((nth s.tracks k).id=n))))
  (fun t=>zbI (fun k u zcw =>
    cond (decide (e2=0)&&(decide ((nth s.switches k).id=n)&&(!decide ((nth B.switches k).lie=v)||!decide ((nth B.switches k).call=(nth s.switches k).call))||!decide ((nth s.switches k).id=n)&&!(decide ((nth B.switches k).id=(nth s.switches k).id)&&(decide ((nth B.switches k).lie=(nth s.switches k).lie)&&decide ((nth B.switches k).call=(nth s.switches k).call)))))
     false (zcw (u||decide ((nth s.switches k).id=n))))
   (fun u=>decide (decide (e1=0)=(t&&(decide (v=0)||decide (v=1))))&&decide (decide (e2=0)=(u&&(decide (0≤v)&&decide (v≤2)))))
   s.switches.length 0 false)
  s.tracks.length 0 false
end Go.Lev
namespace Go.Eng
open Go.RowKit
mutual
/-- Numbers,truth values,names: nothing that lies in memory nobody names. -/
def nmV:AV→Bool
 |.agg cs=>nmL cs
 |.tup cs=>nmL cs
 |.i _ _=>true|.b _=>true|.v _=>true|.u=>true|.s0 _=>true|.ptr _ _ _=>true|.sm _ _ _ _ _=>true
 |.sl _ _=>false|.ip _ _ _ _=>false|.fn _ _=>false|.mp _=>false|.top=>false
def nmL:List AV→Bool
 |[]=>true
 |x::xs=>nmV x&&nmL xs
end
mutual
theorem znZ {c c':Ctx} (hS:c'.S=c.S):∀ (x:AV) (y:Value),nmV x=true→rel c x y→rel c' x y
 |.agg cs,y,s,r=>by
  simp only[rel]at r ⊢
  obtain ⟨xs,e,r⟩:=r
  exact ⟨xs,e,ziH hS cs _ (by simpa only[nmV] using s) r⟩
 |.tup cs,y,s,r=>by
  simp only[rel]at r ⊢
  obtain ⟨xs,e,r⟩:=r
  exact ⟨xs,e,zn1 hS cs _ (by simpa only[nmV] using s) r⟩
 |.i _ _,_,_,r=>by simpa only[rel] using r
 |.b _,_,_,r=>by simpa only[rel] using r
 |.v _,_,_,r=>by simpa only[rel] using r
 |.u,_,_,r=>by simpa only[rel] using r
 |.s0 _,_,_,r=>by simpa only[rel] using r
 |.ptr _ _ _,_,_,r=>by simpa only[rel,hS] using r
 |.sm _ _ _ _ _,_,_,r=>by simpa only[rel,hS] using r
 |.sl _ _,_,s,_=>by simp[nmV]at s
 |.ip _ _ _ _,_,s,_=>by simp[nmV]at s
 |.fn _ _,_,s,_=>by simp[nmV]at s
 |.mp _,_,s,_=>by simp[nmV]at s
 |.top,_,s,_=>by simp[nmV]at s
theorem zn1 {c c':Ctx} (hS:c'.S=c.S):∀ (xs:List AV) (ys:List Value),nmL xs=true→zbC c xs ys→zbC c' xs ys
 |[],ys,_,r=>by simpa only[zbC] using r
 |x::xs,ys,s,r=>by
  simp only[nmL,Bool.and_eq_true]at s
  simp only[zbC]at r ⊢
  obtain ⟨y,ys',e,r1,r2⟩:=r
  exact ⟨y,ys',e,znZ hS x y s.1 r1,zn1 hS xs ys' s.2 r2⟩
theorem ziH {c c':Ctx} (hS:c'.S=c.S):∀ (xs:List AV) (ys:List Value),nmL xs=true→relCs c xs ys→relCs c' xs ys
 |[],ys,_,r=>by simpa only[relCs] using r
 |x::xs,ys,s,r=>by
  simp only[nmL,Bool.and_eq_true]at s
  simp only[relCs]at r ⊢
  obtain ⟨y,ys',e,ho,r1,r2⟩:=r
  exact ⟨y,ys',e,ho,znZ hS x y s.1 r1,ziH hS xs ys' s.2 r2⟩
end
def nmR:List (Nat×AO)→Bool
 |[]=>true
 |(_,.cells cs _)::r=>nmL cs&&nmR r
 |_::r=>nmR r
theorem zn0:∀ {σ:List (Nat×AO)},nmR σ=true→∀ {l:Nat} {cs:List AV} {b:Bool},zaF σ l=some (.cells cs b)→nmL cs=true
 |[],_,l,cs,b,e=>by simp[zaF]at e
 |(k,o)::r,h,l,cs,b,e=>by
  have hr:nmR r=true:=by
   cases o with
   |cells cs' b'=>simp only[nmR,Bool.and_eq_true]at h;exact h.2
   |imap kvs=>exact h
   |rsv=>exact h
  unfold zaF at e
  split at e
  ·simp only[Option.some.injEq]at e
   subst e
   simp only[nmR,Bool.and_eq_true]at h
   exact h.1
  ·exact zn0 hr e
section
variable {P:Program} {inv:Nat→Option Nat} {w0:World} {M:Nat→Prop} {n N:Nat} {φ:AF} {σ:AS}
theorem PO.snapK (hM:∀ b,M b→b<w0.heap.size) (k:Nat) {j:Nat} {args args':List AV} {r:AV} {σ0:AS} (h:PO P inv j args' r σ0) (he:zbE k σ args=args') (hr:nmV r=true) (hs:nmR σ0=true) {K:AV→AS→Prop}
  (hk:K (shV (zaE N φ σ) r) (zi9 σ (shS (zaE N φ σ) σ0))):CallK P inv w0 M N φ σ j args K:=by
 obtain ⟨f1,f2,f3⟩:=zbg N φ σ
 refine ⟨zaE N φ σ,f1,f2,fun g hg β w vs hm ha=>?_⟩
 have hf:=zeJ hm hM (A':=fun _=>False) (fun _ h=>h.elim) k
 have ha2:=zdC hm hM (fun _ h=>h.elim) hf _ _ ha
 rw[show zbP (zf4 k σ) args=args' from he]at ha2
 have hle:Ctx.Le ⟨inv,w,fun _=>False,fun _=>none⟩ (ctx inv (fun _=>False) [] (fun _=>0) w):=⟨rfl,Nat.le_refl _,fun _ _ _=>rfl,fun b _ hb=>by
  rcases hb with hb|⟨l,o,e,_⟩
  ·exact hb
  ·simp[zaF]at e⟩
 have hS:(ctx inv (fun _=>False) [] (fun _=>0) w).S=fun _=>Option.none:=by funext l;simp[ctx,zao,zaF]
 refine (h w (fun _=>False) (fun _ h=>h.elim) g hg (fun _=>0) w vs (Mem.none w) (zbT (N:=0) hle _ _ (.inr hS) ha2)).mono ?_
 rintro e w' ⟨v,r',σ',β',rfl,⟨rfl,rfl⟩,hm',_,hr'⟩
 have hm2:Mem inv w (avoid M σ β) σ' β' w':=⟨hm'.below,hm'.inj,hm'.own,fun l cs e=>by
  obtain ⟨xs,ty,q1,q2,q3⟩:=hm'.cells l cs e
  exact ⟨xs,ty,q1,q2,ziH (c:=ctx inv (fun _=>False) σ' β' w') (c':=ctx inv (avoid M σ β) σ' β' w') rfl _ _ (zn0 hs e) q3⟩,hm'.ghost,hm'.maps⟩
 obtain ⟨j1,j2,j3⟩:=hm.join hm2 (zaE N φ σ) f3
 exact ⟨v,_,_,_,rfl,hk,j1,j2,j3 _ _ (znZ (c:=ctx inv (fun _=>False) σ' β' w') (c':=ctx inv (avoid M σ β) σ' β' w') rfl _ _ hr hr')⟩
end
end Go.Eng
namespace Go.Lev
open Go.Eng
set_option maxRecDepth 10000
set_option maxHeartbeats 4000000
variable {P:Program} {inv:Nat→Option Nat} {w0:World} {M:Nat→Prop}
def pgF (p:Pln) (s:State) (n:Int):Bool×Int :=
 zbI (fun i (st:Bool×Int) zcw=>cond (!decide ((nth p.points i).id=n)) (zcw st)
   (zbI (fun k (fr:Bool) next2=>next2 (fr||decide ((nth s.tracks k).id=(nth p.points i).sec)&&decide ((nth s.tracks k).is=0)))
    (fun fr=>zcw (fr,(i:Int))) s.tracks.length 0 st.1))
  (fun st=>st) p.points.length 0 (false,-1)
end Go.Lev
namespace Go.Lev
open Go.Eng
set_option maxRecDepth 10000
set_option maxHeartbeats 4000000
variable {P:Program} {inv:Nat→Option Nat} {w0:World} {M:Nat→Prop}
def frT (s:State) (n:Int):Bool:=s.tracks.any fun x=>decide (n=x.id)&&decide (0=x.is)
end Go.Lev
namespace Go.Lev
open Go.Eng
set_option maxRecDepth 10000
set_option maxHeartbeats 4000000
variable {P:Program} {inv:Nat→Option Nat} {w0:World} {M:Nat→Prop}
def zf6 (s:State) (n:Int):Int:=zcc (fun x=>decide (Lock.id x=n)) 0 s.locks
def zcs (H:List Int) (fr:Int→Bool):List Int→Int
 |[]=>0
 |x::r=>if nth H x.toNat=0 then (if fr x=true then zcs H fr r else 182) else 181
def zgc (p:Pln) (s:State) (A:List Int) (a:AskR):Bool:=decide (zcu s a.pnt=a.lie)||(decide (nth A a.pnt.toNat=0)&&frT s (zbU p a.pnt))
def setE (p:Pln) (s:State) (i:Nat):Int :=
 if zcs (zaw p s).1 (frT s) ((zak p (nth p.routes i)).1.path++(zak p (nth p.routes i)).1.over)=0 then (if (zak p (nth p.routes i)).1.asks.all (zgc p s (zaw p s).2.1)=true then 0 else 183)
 else zcs (zaw p s).1 (frT s) ((zak p (nth p.routes i)).1.path++(zak p (nth p.routes i)).1.over)
def lkC (p:Pln) (s:State) (n:Int):Int:=if zan p s=0 then (if zf6 s n<0 then 6 else if (nth s.locks (zf6 s n).toNat).phase=0 then setE p s (zf6 s n).toNat else 180) else zan p s
def lkW (p:Pln) (s:State) (n:Int):WayR:=if zan p s=0 then (if zf6 s n<0 then WayR.z else if (nth s.locks (zf6 s n).toNat).phase=0 then (zak p (nth p.routes (zf6 s n).toNat)).1 else WayR.z) else WayR.z
def askE (ok:AskR→Bool):Int→List AskR→Int
 |e,[]=>e
 |e,a::r=>askE ok (if e=0 then (if ok a=true then 0 else 183) else e) r
end Go.Lev
namespace Go.Lev
open Go.Eng
set_option maxRecDepth 10000
set_option maxHeartbeats 4000000
variable {P:Program} {inv:Nat→Option Nat} {w0:World} {M:Nat→Prop}
def za3 (q:List AskR) (l:List Switch):List Switch:=q.foldl (fun l a=>zcm Switch.id a.pnt (fun t=>⟨t.id,t.lie,a.lie⟩) l) l
theorem zfL (q:List AskR):∀ l:List Switch,(za3 q l).map Switch.id=l.map Switch.id:=by
 induction q with
 |nil=>intro l;rfl
 |cons a q ih=>intro l;show (za3 q _).map Switch.id=_;rw[ih,zik Switch.id a.pnt (fun t=>⟨t.id,t.lie,a.lie⟩) (fun _=>rfl)]
theorem zcg (q:List AskR) (l:List Switch):(za3 q l).length=l.length:=by
 have:=congrArg List.length (zfL q l)
 simpa using this
theorem zmM (l:List Switch):za3 [] l=l:=rfl
attribute [go_sem] zmM
def zeq (s:State) (n:Int) (q:List AskR):State:=⟨s.tracks,za3 q s.switches,zcm Lock.id n (fun l=>⟨l.id,1,l.gone,l.left⟩) s.locks⟩
def zm4 (n:Int) (_:Nat) (l:Lock):Lock:=if l.id=n then ⟨l.id,1,l.gone,l.left⟩ else l
end Go.Lev
namespace Go.Lev
open Go.Eng
theorem zjL:∀ (l:List AskR) (m:List Bool),m.length=100→(∀ a∈l,0≤a.pnt∧a.pnt≤99)→(zjM m l=true↔(∀ a∈l,nth m a.pnt.toNat=false)∧(l.map AskR.pnt).Nodup)
 |[],m,_,_=>by simp[zjM]
 |a::r,m,hm,hr=>by
  have h0:=hr a (by simp)
  have ih:=zjL r (m.set a.pnt.toNat true) (by simpa using hm) fun b hb=>hr b (by simp[hb])
  rw[zjM,Bool.and_eq_true,ih]
  simp only[List.map_cons,List.nodup_cons,List.mem_cons,forall_eq_or_imp,Bool.not_eq_true',List.mem_map,not_exists,not_and]
  have key:∀ b∈r,nth (m.set a.pnt.toNat true) b.pnt.toNat=false↔(nth m b.pnt.toNat=false∧b.pnt≠a.pnt):=fun b hb=>by
   have hb':=hr b (by simp[hb])
   rw[zbD _ _ _ _ (by omega)]
   by_cases e:b.pnt=a.pnt
   ·rw[e,if_pos rfl];simp
   ·rw[if_neg (by omega)];simp[e]
  constructor
  ·rintro ⟨h1,h2,h3⟩
   exact ⟨⟨h1,fun b hb=>((key b hb).1 (h2 b hb)).1⟩,fun b hb=>((key b hb).1 (h2 b hb)).2,h3⟩
  ·rintro ⟨⟨h1,h2⟩,h3,h4⟩
   exact ⟨h1,fun b hb=>(key b hb).2 ⟨h2 b hb,h3 b hb⟩,h4⟩
theorem once_iff {l:List AskR} (h:∀ a∈l,0≤a.pnt∧a.pnt≤99):once l=true↔(l.map AskR.pnt).Nodup:=by
 unfold once
 rw[zjL l _ (by simp) h]
 constructor
 ·exact fun h=>h.2
 ·intro h2
  exact ⟨fun a ha=>by have:=h a ha;exact zg4 _ _ _ (by omega),h2⟩
theorem zie {p:Pln} (ho:zbm p=true) {r:Rte} (hr:r∈p.routes):((zak p r).1.asks.map AskR.pnt).Nodup:=by
 obtain ⟨hok,_,h3⟩:=zbo ho
 have:=h3 r hr
 simp only[zcQ,Bool.and_eq_true]at this
 exact (once_iff fun a ha=>by have:=zbK hok hr ha;omega).1 this.1
def zeo (l:List Switch) (n:Int):Int:=zfm (zgj [] l) n
theorem zmN (l:List Switch) {n m:Int} (v:Int) (h:m≠n):zeo (zcm Switch.id n (fun t=>⟨t.id,t.lie,v⟩) l) m=zeo l m:=ziL n v m h l [] [] rfl
theorem zoV {l:List Switch} (hn:(l.map Switch.id).Nodup) {n:Int} (v:Int) (h:n∈l.map Switch.id):zeo (zcm Switch.id n (fun t=>⟨t.id,t.lie,v⟩) l) n=v:=by
 obtain ⟨x,hx,e⟩:=List.mem_map.1 h
 have h1:(⟨x.id,x.lie,v⟩:Switch)∈zcm Switch.id n (fun t=>⟨t.id,t.lie,v⟩) l:=by
  unfold zcm
  exact List.mem_map.2 ⟨x,hx,by rw[if_pos e]⟩
 have:=zkU (zcm Switch.id n (fun t=>⟨t.id,t.lie,v⟩) l) [] (by rw[zik Switch.id n (fun t=>⟨t.id,t.lie,v⟩) (fun _=>rfl)];exact hn) _ h1
 dsimp only at this
 rw[e]at this
 exact this
theorem zfK:∀ (q:List AskR) (l:List Switch) {n:Int},(∀ a∈q,a.pnt≠n)→zeo (za3 q l) n=zeo l n
 |[],_,_,_=>rfl
 |a::q,l,n,h=>by
  show zeo (za3 q (zcm Switch.id a.pnt (fun t=>⟨t.id,t.lie,a.lie⟩) l)) n=_
  rw[zfK q _ fun b hb=>h b (by simp[hb]),zmN l a.lie (fun e=>h a (by simp) e.symm)]
theorem zhv:∀ (q:List AskR) (l:List Switch),(l.map Switch.id).Nodup→(q.map AskR.pnt).Nodup→∀ a∈q,a.pnt∈l.map Switch.id→zeo (za3 q l) a.pnt=a.lie
 |[],_,_,_,a,ha,_=>by cases ha
 |b::q,l,hl,hq,a,ha,hi=>by
  simp only[List.map_cons,List.nodup_cons]at hq
  show zeo (za3 q (zcm Switch.id b.pnt (fun t=>⟨t.id,t.lie,b.lie⟩) l)) a.pnt=_
  rcases List.mem_cons.1 ha with rfl|ha
  ·rw[zfK q _ fun c hc e=>hq.1 (by rw[←e];exact List.mem_map_of_mem hc),zoV hl _ hi]
  ·refine zhv q _ (by rw[zik Switch.id b.pnt (fun t=>⟨t.id,t.lie,b.lie⟩) (fun _=>rfl)];exact hl) hq.2 a ha ?_
   rw[zik Switch.id b.pnt (fun t=>⟨t.id,t.lie,b.lie⟩) (fun _=>rfl)];exact hi
end Go.Lev
namespace Go.Lev
open Go.Eng
theorem zm6 {p:Pln} {s:State} (h:zar p s=true):(zof p s).length=s.locks.length:=by
 have:=zaB h
 simp only[zof,List.length_zip,zaT,List.length_map]
 omega
theorem zfp {p:Pln} {s:State} (h:zar p s=true) {i:Nat} (hi:i<(zof p s).length):(zof p s)[i]=((zak p (nth p.routes i)).1,nth s.locks i):=by
 have h1:=zm6 h
 have h2:=zaB h
 simp[zof,zaT,zaV (show i<p.routes.length by omega),zaV (show i<s.locks.length by omega)]
theorem zkh {p:Pln} {s:State} (h:zar p s=true):zll (zof p s)↔∀ i j,i<s.locks.length→j<s.locks.length→i≠j→∀ m∈zm5 p s i,m∉zm5 p s j:=by
 have hl:=zm6 h
 unfold zll
 rw[List.pairwise_iff_getElem]
 constructor
 ·intro hp i j hi hj hne m hm hm'
  rcases Nat.lt_trichotomy i j with hlt|e|hlt
  ·have:=hp i j (by omega) (by omega) hlt
   rw[zfp h,zfp h]at this
   exact this m hm hm'
  ·exact hne e
  ·have:=hp j i (by omega) (by omega) hlt
   rw[zfp h,zfp h]at this
   exact this m hm' hm
 ·intro hp i j hi hj hlt
  rw[zfp h,zfp h]
  exact hp i j (by omega) (by omega) (by omega)
theorem zf3 {p:Pln} {s:State} (h:zar p s=true):zl7 s (zof p s)↔∀ i,i<s.locks.length→∀ a∈zo4 p s i,zcu s a.pnt=a.lie:=by
 have h2:=zaB h
 constructor
 ·intro hp i hi a ha
  exact hp _ (zof_at h (by omega)) a ha
 ·intro hp z hz a ha
  obtain ⟨i,r,_,hi,e1,e2,_,e3,_⟩:=zfo h hz
  refine hp i (by omega) a ?_
  unfold zo4
  rw[e1,e2,←e3]
  exact ha
theorem zjh {p:Pln} {s:State}:zan p s=0↔zbm p=true∧zar p s=true∧(∀ i j,i<s.locks.length→j<s.locks.length→i≠j→∀ m∈zm5 p s i,m∉zm5 p s j)∧∀ i,i<s.locks.length→∀ a∈zo4 p s i,zcu s a.pnt=a.lie:=by
 rw[zdW]
 constructor
 ·rintro ⟨h1,h2,h3,h4⟩;exact ⟨h1,h2,(zkh h2).1 h3,(zf3 h2).1 h4⟩
 ·rintro ⟨h1,h2,h3,h4⟩;exact ⟨h1,h2,(zkh h2).2 h3,(zf3 h2).2 h4⟩
theorem zoU (s:State) (n:Int):zcu s n=zeo s.switches n:=rfl
theorem zia (q:List AskR):∀ (l:List Switch) (k:Nat),k<l.length→(nth (za3 q l) k).id=(nth l k).id∧(nth (za3 q l) k).lie=(nth l k).lie∧((nth (za3 q l) k).call=(nth l k).call∨∃ a∈q,a.pnt=(nth l k).id∧(nth (za3 q l) k).call=a.lie):=by
 induction q with
 |nil=>intro l k _;exact ⟨rfl,rfl,.inl rfl⟩
 |cons b q ih =>
  intro l k hk
  have h1:=ih (zcm Switch.id b.pnt (fun t=>⟨t.id,t.lie,b.lie⟩) l) k (by rw[zbr];exact hk)
  have h2:nth (zcm Switch.id b.pnt (fun t=>(⟨t.id,t.lie,b.lie⟩:Switch)) l) k=if (nth l k).id=b.pnt then ⟨(nth l k).id,(nth l k).lie,b.lie⟩ else nth l k:=by
   unfold zcm
   exact nthm (fun x=>if Switch.id x=b.pnt then (⟨x.id,x.lie,b.lie⟩:Switch) else x) hk
  rw[show za3 (b::q) l=za3 q (zcm Switch.id b.pnt (fun t=>⟨t.id,t.lie,b.lie⟩) l) from rfl]
  rw[h2]at h1
  by_cases e:(nth l k).id=b.pnt
  ·rw[if_pos e]at h1
   dsimp only at h1
   refine ⟨h1.1,h1.2.1,.inr ?_⟩
   rcases h1.2.2 with h3|⟨a,ha,h3,h4⟩
   ·exact ⟨b,by simp,e.symm,h3⟩
   ·exact ⟨a,by simp[ha],h3,h4⟩
  ·rw[if_neg e]at h1
   refine ⟨h1.1,h1.2.1, ?_⟩
   rcases h1.2.2 with h3|⟨a,ha,h3,h4⟩
   ·exact .inl h3
   ·exact .inr ⟨a,by simp[ha],h3,h4⟩
section
variable {p:Pln} {s:State} {i:Nat} (h:zan p s=0) (hi:i<s.locks.length) (hph:(nth s.locks i).phase=0)
include h hi
theorem zeO {n:Int} (hid:(nth s.locks i).id=n) (q:List AskR) {j:Nat} (hj:j<s.locks.length):nth (zeq s n q).locks j=if j=i then ⟨n,1,(nth s.locks i).gone,(nth s.locks i).left⟩ else nth s.locks j:=by
 show nth (zcm Lock.id n (fun l=>⟨l.id,1,l.gone,l.left⟩) s.locks) j=_
 have h2:nth (zcm Lock.id n (fun l=>(⟨l.id,1,l.gone,l.left⟩:Lock)) s.locks) j=if (nth s.locks j).id=n then ⟨(nth s.locks j).id,1,(nth s.locks j).gone,(nth s.locks j).left⟩ else nth s.locks j:=by
  unfold zcm
  exact nthm (fun x=>if Lock.id x=n then (⟨x.id,1,x.gone,x.left⟩:Lock) else x) hj
 rw[h2]
 by_cases e:j=i
 ·subst e;rw[if_pos hid,if_pos rfl,hid]
 ·rw[if_neg e,if_neg (fun e2=>e (zg7 h hj hi (e2.trans hid.symm)))]
include hph
theorem zeU:(nth s.locks i).gone=0∧(nth s.locks i).left=0:=by
 have:=zod (zaj h).2.1 hi
 simp only[ze3,zew,hph,Bool.and_eq_true]at this
 simpa using this.2
theorem zmk {n:Int} (hid:(nth s.locks i).id=n):zar p (zeq s n (zak p (nth p.routes i)).1.asks)=true:=by
 have hpa:=(zaj h).2.1
 have hok:=zaA h
 have hl:=zaB hpa
 have hp2:=hpa
 unfold zar at hpa ⊢
 simp only[Bool.and_eq_true,zcB]at hpa ⊢
 refine ⟨hpa.1,⟨by show (za3 _ _).length=_;rw[zcg];exact hpa.2.1.1,fun k hk=>?_⟩,by show (zcm _ _ _ _).length=_;rw[zbr];exact hpa.2.2.1,fun k hk=>?_⟩
 ·have hk':k<s.switches.length:=by have:k<(za3 (zak p (nth p.routes i)).1.asks s.switches).length:=hk;rw[zcg]at this;exact this
  have h1:=hpa.2.1.2 k hk'
  have h2:=zia (zak p (nth p.routes i)).1.asks s.switches k hk'
  show zgp (nth (za3 _ s.switches) k) _=true
  simp only[zgp,ze2,Bool.and_eq_true,decide_eq_true_eq]at h1 ⊢
  refine ⟨h2.1.trans h1.1,by rw[h2.2.1];exact h1.2.1, ?_⟩
  rcases h2.2.2 with e|⟨a,ha,_,e⟩
  ·rw[e];exact h1.2.2
  ·have:=(zbK hok (zal (show i<p.routes.length by omega)) ha).2.2
   rw[e];omega
 ·have hk':k<s.locks.length:=by have:k<(zcm Lock.id n (fun l=>(⟨l.id,1,l.gone,l.left⟩:Lock)) s.locks).length:=hk;rw[zbr]at this;exact this
  rw[zeO h hi hid _ hk']
  have h1:=hpa.2.2.2 k hk'
  split
  ·rename_i e
   subst e
   have hr:=zeU h hi hph
   simp only[ze3,zew,Bool.and_eq_true,decide_eq_true_eq]at h1 ⊢
   refine ⟨hid▸h1.1, ?_⟩
   simp[hr.1,hr.2]
  ·exact h1
theorem znu {n:Int} (hid:(nth s.locks i).id=n) (hf:∀ m∈(zak p (nth p.routes i)).1.path++(zak p (nth p.routes i)).1.over,nth (zaw p s).1 m.toNat=0)
  (hk:∀ a∈(zak p (nth p.routes i)).1.asks,zcu s a.pnt=a.lie∨nth (zaw p s).2.1 a.pnt.toNat=0):zan p (zeq s n (zak p (nth p.routes i)).1.asks)=0:=by
 have h':=zjh.1 h
 obtain ⟨h1,h2,h3,h4⟩:=h'
 have hok:=zaA h
 have hl:=zaB h2
 have hr:=zeU h hi hph
 have hsl:(zeq s n (zak p (nth p.routes i)).1.asks).locks.length=s.locks.length:=zbr _ _ _ _
 have hwr:nth p.routes i∈p.routes:=zal (by omega)
 have hd:∀ j,j<s.locks.length→zm5 p (zeq s n (zak p (nth p.routes i)).1.asks) j=if j=i then (zak p (nth p.routes i)).1.path++(zak p (nth p.routes i)).1.over else zm5 p s j:=fun j hj=>by
  unfold zm5
  rw[zeO h hi hid _ hj]
  by_cases e:j=i
  ·subst e
   rw[if_pos rfl,if_pos rfl]
   unfold zbL
   rw[if_neg (by dsimp only;omega)]
   dsimp only
   rw[hr.1];rfl
  ·rw[if_neg e,if_neg e]
 have ha:∀ j,j<s.locks.length→zo4 p (zeq s n (zak p (nth p.routes i)).1.asks) j=if j=i then (zak p (nth p.routes i)).1.asks else zo4 p s j:=fun j hj=>by
  unfold zo4
  rw[zeO h hi hid _ hj]
  by_cases e:j=i
  ·subst e
   rw[if_pos rfl,if_pos rfl]
   unfold zch
   rw[if_neg (by dsimp only;omega)]
   refine List.filter_eq_self.2 fun a _=>?_
   simp only[zdS,hr.1,Bool.or_eq_true,decide_eq_true_eq]
   omega
  ·rw[if_neg e,if_neg e]
 have hnd:(s.switches.map Switch.id).Nodup:=by rw[zdf h2];exact zbF hok
 refine zjh.2 ⟨h1,zmk h hi hph hid,fun a b ha' hb' hne m hm hm'=>?_,fun j hj a haj=>?_⟩
 ·rw[hsl]at ha' hb'
  rw[hd a ha']at hm
  rw[hd b hb']at hm'
  have free:∀ j,j<s.locks.length→∀ m∈(zak p (nth p.routes i)).1.path++(zak p (nth p.routes i)).1.over,m∉zm5 p s j:=fun j hj m hm hm'=>by
   have e1:=hf m hm
   have e2:=zk0 h (zgW h hj) hm'
   have:=zoc h hj
   rw[e1]at e2
   dsimp only at e2
   omega
  by_cases e:a=i
  ·rw[if_pos e]at hm
   rw[if_neg (fun e2=>hne (e.trans e2.symm))]at hm'
   exact free b hb' m hm hm'
  ·rw[if_neg e]at hm
   by_cases e2:b=i
   ·rw[if_pos e2]at hm'
    exact free a ha' m hm' hm
   ·rw[if_neg e2]at hm'
    exact h3 a b ha' hb' hne m hm hm'
 ·rw[hsl]at hj
  rw[ha j hj]at haj
  rw[zoU]
  show zeo (za3 _ s.switches) a.pnt=_
  by_cases e:j=i
  ·rw[if_pos e]at haj
   refine zhv _ _ hnd (zie h1 hwr) a haj ?_
   obtain ⟨x,hx,ex⟩:=(zbK hok hwr haj).1
   rw[zdf h2,←ex]
   exact List.mem_map_of_mem hx
  ·rw[if_neg e]at haj
   have h5:=h4 j hj a haj
   rcases Classical.em (∃ b∈(zak p (nth p.routes i)).1.asks,b.pnt=a.pnt) with ⟨b,hb,eb⟩|hno
   ·have h6:=zhv _ s.switches hnd (zie h1 hwr) b hb (by
     obtain ⟨x,hx,ex⟩:=(zbK hok hwr hb).1
     rw[zdf h2,←ex]
     exact List.mem_map_of_mem hx)
    rw[←eb,h6]
    rcases hk b hb with h7|h7
    ·rw[←h7,eb];exact h5
    ·rw[eb,ask_is h hj haj]at h7
     have:=zn9 h hj haj
     omega
   ·rw[zfK _ _ fun b hb e=>hno ⟨b,hb,e⟩]
    exact h5
end
end Go.Lev
namespace Go.Lev
open Go.Eng
theorem zjQ {p:Pln} {s:State} (ho:OkP p) (h:zar p s=true) (n:Int):frT s n=decide (zfn s n=0):=by
 rw[Bool.eq_iff_iff,decide_eq_true_eq]
 constructor
 ·intro h1
  obtain ⟨x,hx,e⟩:=List.any_eq_true.1 h1
  simp only[Bool.and_eq_true,decide_eq_true_eq]at e
  obtain ⟨k,hk,rfl⟩:=zez hx
  rw[e.1,zg9 ho h hk];exact e.2.symm
 ·intro h1
  unfold zfn at h1
  cases e:s.tracks.find? fun t=>decide (t.id=n) with
  |none=>rw[e]at h1;exact absurd h1 (by decide)
  |some t =>
   rw[e]at h1
   have h2:=List.find?_some e
   exact List.any_eq_true.2 ⟨t,List.mem_of_find?_eq_some e,by
    simp only[Bool.and_eq_true,decide_eq_true_eq]
    exact ⟨(show t.id=n by simpa using h2).symm,h1.symm⟩⟩
theorem zn5 {p:Pln} {s:State} (h:zan p s=0) {i:Nat} (hi:i<s.locks.length) {n:Int} (hid:(nth s.locks i).id=n):zf6 s n=(i:Int):=by
 unfold zf6
 rcases zbb Lock.id n s.locks with ⟨_,h4⟩|⟨k,hk,h4,h5⟩
 ·exact absurd hid (h4 _ (zal hi))
 ·rw[h4,zg7 h hk hi (h5.trans hid.symm)]
theorem zn7 {p:Pln} {s:State} (h:zan p s=0) {i:Nat} (hi:i<s.locks.length) {n:Int} (hid:(nth s.locks i).id=n):lkC p s n=if (nth s.locks i).phase=0 then setE p s i else 180:=by
 unfold lkC
 rw[if_pos h,zn5 h hi hid,if_neg (by omega),Int.toNat_natCast]
theorem lkC_no {p:Pln} {s:State} (h:zan p s=0) {n:Int} (hid:∀ x∈s.locks,x.id≠n):lkC p s n=6:=by
 unfold lkC
 rw[if_pos h,if_pos]
 unfold zf6
 rcases zbb Lock.id n s.locks with ⟨h3,_⟩|⟨k,hk,h4,h5⟩
 ·rw[h3];decide
 ·exact absurd h5 (hid _ (zal hk))
def leF (p:Pln) (s:State) (n e:Int) (w:WayR) (H A:Int→Int):Bool :=
 zbI (fun i _ zcw=>cond (!decide ((nth s.locks i).id=n)) (zcw ())
   (cond (!decide ((nth s.locks i).phase=0)) (decide (e=180))
    (zbI (fun k _ next2=>cond (!decide (H (nth (w.path++w.over) k)=0)) (decide (e=181)) (cond (!decide (zfn s (nth (w.path++w.over) k)=0)) (decide (e=182)) (next2 ())))
     (fun _=>zbI (fun k _ next3 =>
       zbI (fun m _ next4=>cond (decide ((nth s.switches m).id=(nth w.asks k).pnt)&&!decide ((nth s.switches m).call=(nth w.asks k).lie)&&(!decide (A (nth s.switches m).id=0)||!decide (zfn s (nth p.points m).sec=0))) (decide (e=183)) (next4 ()))
        (fun _=>next3 ()) s.switches.length 0 ())
      (fun _=>decide (e=0)) w.asks.length 0 ()) (w.path++w.over).length 0 ())))
  (fun _=>decide (e=6)) s.locks.length 0 ()
end Go.Lev
namespace Go.Lev
open Go.Eng
set_option maxRecDepth 10000
set_option maxHeartbeats 4000000
variable {P:Program} {inv:Nat→Option Nat} {w0:World} {M:Nat→Prop}
section
variable {L:List Lock} {k:Nat} (h:k<L.length)
include h
end
section
variable {L:List Lock} {k:Nat} (h:k<L.length) (x:Lock)
include h
end
def tickL (l:Lock):Lock:=if l.left=0 then l else if l.left-1=0 then ⟨l.id,0,0,0⟩ else ⟨l.id,l.phase,l.gone,l.left-1⟩
def tickS (s:State):State:=⟨s.tracks,s.switches,s.locks.map tickL⟩
def tickR (p:Pln) (s:State):State:=if zan p s=0 then tickS s else State.z
end Go.Lev
namespace Go.Lev
open Go.Eng
set_option maxRecDepth 10000
set_option maxHeartbeats 4000000
variable {P:Program} {inv:Nat→Option Nat} {w0:World} {M:Nat→Prop}
def emptyB (s:State) (w:WayR) (l:Lock):Bool:=!((w.path.drop l.gone.toNat).any fun m=>!frT s m)
def cnC0 (s:State) (w:WayR) (l:Lock):Int:=if l.phase=0 then 220 else if l.phase=1 then 0 else if l.phase=2∧emptyB s w l=true then 0 else 221
def cnL (s:State) (w:WayR) (r:Rte) (l:Lock) (n:Int):Lock:=if l.phase=1∧frT s w.near=false then ⟨n,4,0,r.timer⟩ else ⟨n,0,0,0⟩
def cnC (p:Pln) (s:State) (n:Int):Int:=if zan p s=0 then (if zf6 s n<0 then 6 else cnC0 s (zak p (nth p.routes (zf6 s n).toNat)).1 (nth s.locks (zf6 s n).toNat)) else zan p s
def cnS (p:Pln) (s:State) (n:Int):State:=⟨s.tracks,s.switches,s.locks.set (zf6 s n).toNat (cnL s (zak p (nth p.routes (zf6 s n).toNat)).1 (nth p.routes (zf6 s n).toNat) (nth s.locks (zf6 s n).toNat) n)⟩
def cnR (p:Pln) (s:State) (n:Int):State:=if cnC p s n=0 then cnS p s n else State.z
end Go.Lev
namespace Go.Lev
open Go.Eng
set_option maxRecDepth 10000
set_option maxHeartbeats 4000000
variable {P:Program} {inv:Nat→Option Nat} {w0:World} {M:Nat→Prop}
def stepL (r:Rte) (is:Int→Int) (l:Lock):Lock :=
 if l.phase=1∨l.phase=4 then (if (r.path.any fun n=>decide (is n=1))=true then ⟨l.id,2,0,0⟩ else l)
 else if l.phase=2 then
  (if l.gone<(r.path.length:Int)-1∧is (nth r.path l.gone.toNat)=0∧is (nth r.path (l.gone.toNat+1))=1 then ⟨l.id,l.phase,l.gone+1,l.left⟩
   else if l.gone=(r.path.length:Int)-1∧is (nth r.path (r.path.length-1))=1 then ⟨l.id,3,(r.path.length:Int)-1,r.timer⟩
   else if l.gone=(r.path.length:Int)-1∧is (nth r.path (r.path.length-1))=0 then ⟨l.id,0,0,0⟩
   else l)
 else if l.phase=3 then (if is (nth r.path (r.path.length-1))=0 then ⟨l.id,0,0,0⟩ else l)
 else l
end Go.Lev
namespace Go.Eng
section
variable {P:Program} {inv:Nat→Option Nat} {w0:World} {M:Nat→Prop} {n N:Nat} {φ φ0:AF} {σ σ0:AS}
end
end Go.Eng
namespace Go.Lev
open Go.Eng
set_option maxRecDepth 10000
set_option maxHeartbeats 4000000
variable {P:Program} {inv:Nat→Option Nat} {w0:World} {M:Nat→Prop}
def rankL (r:Rte) (l:Lock):Nat:=if l.phase=1∨l.phase=4 then r.path.length+3 else if l.phase=2 then 2+((r.path.length:Int)-1-l.gone).toNat else if l.phase=3 then 1 else 0
def znt (r:Rte) (is:Int→Int):Nat→Lock→Lock
 |0,l=>l
 |m+1,l=>if stepL r is l=l then l else znt r is m (stepL r is l)
def settleL (r:Rte) (is:Int→Int) (l:Lock):Lock:=znt r is (rankL r l) l
end Go.Lev
namespace Go.Lev
open Go.Eng
set_option maxRecDepth 10000
set_option maxHeartbeats 4000000
variable {P:Program} {inv:Nat→Option Nat} {w0:World} {M:Nat→Prop}
def setlF (p:Pln) (s:State) (i:Nat) (l:Lock):Lock:=settleL (nth p.routes i) (zfn s) l
def setlS (p:Pln) (s:State):State:=⟨s.tracks,s.switches,s.locks.mapIdx (setlF p s)⟩
def setlR (p:Pln) (s:State):State:=if zan p s=0 then setlS p s else State.z
end Go.Lev
namespace Go.Lev
open Go.Eng
set_option maxRecDepth 10000
set_option maxHeartbeats 4000000
variable {P:Program} {inv:Nat→Option Nat} {w0:World} {M:Nat→Prop}
def lkS (p:Pln) (s:State) (n:Int):State:=if lkC p s n=0 then zeq s n (lkW p s n).asks else State.z
end Go.Lev
namespace Go.Lev
open Go.Eng
set_option maxRecDepth 10000
set_option maxHeartbeats 4000000
variable {P:Program} {inv:Nat→Option Nat} {w0:World} {M:Nat→Prop}
def zkM:Pln:=⟨1,0,[⟨1,0,[⟨0,0⟩,⟨2,0⟩]⟩,⟨2,5,[⟨1,1⟩,⟨3,0⟩,⟨4,0⟩]⟩,⟨3,0,[⟨2,1⟩,⟨0,0⟩]⟩,⟨4,0,[⟨2,2⟩,⟨0,0⟩]⟩],[⟨5,2⟩],[⟨1,1,1⟩],[⟨1,1,0,[2,3],[],[],3⟩,⟨2,1,0,[2,4],[],[],4⟩]⟩
def stN:State:=⟨[⟨1,2⟩,⟨2,2⟩,⟨3,2⟩,⟨4,2⟩],[⟨5,0,0⟩],[⟨1,0,0,0⟩,⟨2,0,0,0⟩]⟩
def stQ:State:=⟨[⟨1,0⟩,⟨2,0⟩,⟨3,0⟩,⟨4,0⟩],[⟨5,0,0⟩],[⟨1,0,0,0⟩,⟨2,0,0,0⟩]⟩
def stQ1:State:=⟨[⟨1,0⟩,⟨2,0⟩,⟨3,0⟩,⟨4,0⟩],[⟨5,0,1⟩],[⟨1,1,0,0⟩,⟨2,0,0,0⟩]⟩
def zoC (_:Nat) (t:Track):Track:=⟨t.id,0⟩
end Go.Lev
namespace Go.Lev
open Go.Eng
theorem ziN {H:List Int} {fr:Int→Bool}:∀ {l:List Int},zcs H fr l=0↔∀ x∈l,nth H x.toNat=0∧fr x=true
 |[]=>by simp[zcs]
 |x::r=>by
  rw[zcs]
  constructor
  ·intro h
   split at h
   ·rename_i h1
    split at h
    ·rename_i h2
     intro y hy
     rcases List.mem_cons.1 hy with rfl|hy
     ·exact ⟨h1,h2⟩
     ·exact ziN.1 h y hy
    ·cases h
   ·cases h
  ·intro h
   obtain ⟨h1,h2⟩:=h x (by simp)
   rw[if_pos h1,if_pos h2]
   exact ziN.2 fun y hy=>h y (by simp[hy])
def zc2 (p:Pln) (i:Nat):List Int:=(zak p (nth p.routes i)).1.path++(zak p (nth p.routes i)).1.over
def zbs (p:Pln) (i:Nat):List AskR:=(zak p (nth p.routes i)).1.asks
structure MaySet (p:Pln) (s:State) (n:Int) (i:Nat):Prop where
 st:zan p s=0
 lt:i<s.locks.length
 id:(nth s.locks i).id=n
 ph:(nth s.locks i).phase=0
 sec:∀ x∈zc2 p i,nth (zaw p s).1 x.toNat=0∧zfn s x=0
 ask:∀ a∈zbs p i,zcu s a.pnt=a.lie∨(nth (zaw p s).2.1 a.pnt.toNat=0∧zfn s (zbU p a.pnt)=0)
theorem zkg {p:Pln} {s:State} (ho:OkP p) (h:zar p s=true) {A:List Int} {a:AskR}:zgc p s A a=true↔zcu s a.pnt=a.lie∨(nth A a.pnt.toNat=0∧zfn s (zbU p a.pnt)=0):=by
 unfold zgc
 rw[zjQ ho h]
 simp
theorem zn6 {p:Pln} {s:State} {n:Int}:lkC p s n=0↔∃ i,MaySet p s n i:=by
 constructor
 ·intro h
  have hst:zan p s=0:=by
   unfold lkC at h
   split at h
   ·assumption
   ·exact h
  rcases zbb Lock.id n s.locks with ⟨_,hno⟩|⟨i,hi,_,hid⟩
  ·rw[lkC_no hst hno]at h;cases h
  ·rw[zn7 hst hi hid]at h
   split at h
   ·rename_i hph
    unfold setE at h
    have ho:=zaA hst
    have hpa:=(zaj hst).2.1
    split at h
    ·rename_i h1
     split at h
     ·rename_i h2
      refine ⟨i,hst,hi,hid,hph,fun x hx=>?_,fun a ha=>(zkg ho hpa).1 (List.all_eq_true.1 h2 a ha)⟩
      have:=ziN.1 h1 x hx
      rw[zjQ ho hpa,decide_eq_true_eq]at this
      exact this
     ·cases h
    ·rename_i h1;exact absurd h h1
   ·cases h
 ·rintro ⟨i,hst,hi,hid,hph,h1,h2⟩
  have ho:=zaA hst
  have hpa:=(zaj hst).2.1
  rw[zn7 hst hi hid,if_pos hph]
  unfold setE
  have h3:zcs (zaw p s).1 (frT s) ((zak p (nth p.routes i)).1.path++(zak p (nth p.routes i)).1.over)=0:=ziN.2 fun x hx=>by
   rw[zjQ ho hpa,decide_eq_true_eq];exact h1 x hx
  have h4:(zak p (nth p.routes i)).1.asks.all (zgc p s (zaw p s).2.1)=true:=List.all_eq_true.2 fun a ha=>(zkg ho hpa).2 (h2 a ha)
  rw[if_pos h3,if_pos h4]
section
variable {p:Pln} {s:State} {n:Int} {i:Nat} (h:MaySet p s n i)
include h
theorem MaySet.lkW:lkW p s n=(zak p (nth p.routes i)).1:=by
 unfold Go.Lev.lkW
 rw[if_pos h.st,zn5 h.st h.lt h.id,if_neg (by omega),Int.toNat_natCast,if_pos h.ph]
theorem MaySet.lkS:lkS p s n=zeq s n (zbs p i):=by
 unfold Go.Lev.lkS
 rw[if_pos (zn6.2 ⟨i,h⟩),h.lkW]
 rfl
theorem MaySet.code:zan p (zeq s n (zbs p i))=0:=znu h.st h.lt h.ph h.id (fun m hm=>(h.sec m hm).1) fun a ha=>by
 rcases h.ask a ha with h1|h1
 ·exact .inl h1
 ·exact .inr h1.1
theorem MaySet.lock {j:Nat} (hj:j<s.locks.length):nth (zeq s n (zbs p i)).locks j=if j=i then ⟨n,1,0,0⟩ else nth s.locks j:=by
 rw[zeO h.st h.lt h.id _ hj,(zeU h.st h.lt h.ph).1,(zeU h.st h.lt h.ph).2]
theorem zlx (q:List AskR):(zeq s n q).locks.length=s.locks.length:=zbr _ _ _ _
theorem MaySet.hd {j:Nat} (hj:j<s.locks.length):zm5 p (zeq s n (zbs p i)) j=if j=i then zc2 p i else zm5 p s j:=by
 unfold zm5
 rw[h.lock hj]
 by_cases e:j=i
 ·subst e
  rw[if_pos rfl,if_pos rfl]
  unfold zbL
  rw[if_neg (by dsimp only;omega)]
  rfl
 ·rw[if_neg e,if_neg e]
theorem MaySet.as {j:Nat} (hj:j<s.locks.length):zo4 p (zeq s n (zbs p i)) j=if j=i then zbs p i else zo4 p s j:=by
 unfold zo4
 rw[h.lock hj]
 by_cases e:j=i
 ·subst e
  rw[if_pos rfl,if_pos rfl]
  unfold zch
  rw[if_neg (by dsimp only;omega)]
  refine List.filter_eq_self.2 fun a _=>?_
  simp only[zdS,Bool.or_eq_true,decide_eq_true_eq]
  omega
 ·rw[if_neg e,if_neg e]
theorem MaySet.rt:nth p.routes i∈p.routes:=by
 have:=zaB (zaj h.st).2.1
 have:=h.lt
 exact zal (by omega)
theorem MaySet.secR {x:Int} (hx:x∈zc2 p i):zjN p x=true∧0≤x:=by
 have ho:=zaA h.st
 have hwp:=zcC ((zbo (zaj h.st).1).2.1 _ h.rt)
 unfold zc2 at hx
 rw[hwp.1,hwp.2.1]at hx
 obtain ⟨q,hq,e⟩:=(zdZ ho h.rt).1 x hx
 have:=zdF ho hq
 exact ⟨List.any_eq_true.2 ⟨q,hq,by simpa using e⟩,by omega⟩
theorem MaySet.holds {x:Int} (hx:x∈zc2 p i):nth (zaw p (zeq s n (zbs p i))).1 x.toNat=n:=by
 have hi':i<(zeq s n (zbs p i)).locks.length:=by rw[zlx h];exact h.lt
 have:=(hold_iff h.code hi' (h.secR hx).2).2 (by rw[h.hd h.lt,if_pos rfl];exact hx)
 rw[this,h.lock h.lt,if_pos rfl]
theorem MaySet.asks {a:AskR} (ha:a∈zbs p i):nth (zaw p (zeq s n (zbs p i))).2.1 a.pnt.toNat=a.lie:=by
 have hi':i<(zeq s n (zbs p i)).locks.length:=by rw[zlx h];exact h.lt
 exact ask_is h.code hi' (by rw[h.as h.lt,if_pos rfl];exact ha)
end
end Go.Lev
