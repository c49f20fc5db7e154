/-
  A part of the engine that walks the functions' codes, and of the functions' contracts. Conditions: those that each theorem names.
-/
import Derived.Test.YtokllheinelgjaaL3
import Derived.IntWalk
set_option linter.unusedSimpArgs false
set_option linter.unusedVariables false
set_option linter.unusedSectionVars false
namespace Go.Lev
open Go.Eng
theorem at_self {l:List Section} (hs:ze8 l) {i:Nat} (hi:i<l.length):zj0 (nth l i).id 0 l=i:=by
 rcases ze4 (nth l i).id l 0 with ⟨_,h⟩|⟨p,h1,h2,h3⟩
 ·exact absurd rfl (h i hi)
 ·rcases Nat.lt_trichotomy p i with h|h|h
  ·have:=hs p i h hi;omega
  ·omega
  ·have:=hs i p h h1;omega
def Pw (x s:Section):Prop:=x.id<s.id∧(s.pt≠0→x.pt≠s.pt)
def One (s:Section):Prop:=1≤s.id∧s.id≤99∧zb3 s=true
def zou (l:List Section) (s:Section) (e:Nat):Prop :=
 ((nth s.ends e).to=0∧(nth s.ends e).ed=0)∨(¬((nth s.ends e).to=s.id∧(nth s.ends e).ed=(e:Int))∧0≤(nth s.ends e).ed∧∃ s'∈l,s'.id=(nth s.ends e).to∧(nth s.ends e).ed<s'.ends.length∧nth s'.ends (nth s.ends e).ed.toNat=⟨s.id,e⟩)
structure MayP (l:List Section):Prop where
 len:l.length≤16
 one:∀ s∈l,One s
 pw:l.Pairwise Pw
 join:∀ s∈l,∀ e,e<s.ends.length→zou l s e
theorem zm1 (l:List Section):zjf [] l=true↔(∀ s∈l,One s)∧l.Pairwise Pw:=by
 have h2:=zgx l l 0 rfl
 rw[List.take_zero]at h2
 rw[h2]
 constructor
 ·intro h
  refine ⟨fun s hs=>?_, ?_⟩
  ·obtain ⟨i,hi,rfl⟩:=List.mem_iff_getElem.1 hs
   have:=h i (Nat.zero_le _) hi
   rw[←za3 hi]
   exact ⟨this.1,this.2.1,this.2.2.1⟩
  ·rw[List.pairwise_iff_getElem]
   intro i j hi hj hij
   rw[←za3 hi,←za3 hj]
   exact (h j (Nat.zero_le _) hj).2.2.2 i hij
 ·rintro ⟨h1,h3⟩ j _ hj
  have h4:=h1 _ (zat hj)
  refine ⟨h4.1,h4.2.1,h4.2.2,fun i hi=>?_⟩
  rw[List.pairwise_iff_getElem]at h3
  have:=h3 i j (by omega) hj hi
  rw[←za3 (show i<l.length by omega),←za3 hj]at this
  exact this
theorem zlB {l:List Section} (hs:ze8 l) {s:Section} (h:s∈l):nth l (zj0 s.id 0 l).toNat=s∧0≤zj0 s.id 0 l:=by
 obtain ⟨i,hi,rfl⟩:=List.mem_iff_getElem.1 h
 rw[←za3 hi,at_self hs hi]
 simp
theorem zjg {l:List Section} (hs:ze8 l) (s:Section) (e:Nat):zgy l s e=true↔zou l s e:=by
 unfold zgy zou
 by_cases h0:(nth s.ends e).to=0∧(nth s.ends e).ed=0
 ·simp[h0]
 ·rw[if_neg h0]
  simp only[h0,false_or]
  constructor
  ·intro h
   split at h
   ·cases h
   ·rename_i hn
    simp only[not_or]at hn
    obtain ⟨h1,h2,h3,h4⟩:=hn
    simp only[Bool.and_eq_true,decide_eq_true_eq]at h
    rcases ze4 (nth s.ends e).to l 0 with ⟨g1,_⟩|⟨p,g1,g2,g3⟩
    ·omega
    ·have ep:(zj0 (nth s.ends e).to 0 l).toNat=p:=by rw[g2];omega
     rw[ep]at h h3
     refine ⟨h4,by omega,nth l p,zat g1,g3,by omega, ?_⟩
     rw[znt]
     exact h
  ·rintro ⟨h4,h2,s',hs',h5,h6,h7⟩
   obtain ⟨g1,g2⟩:=zlB hs hs'
   rw[h5]at g1 g2
   rw[if_neg (by rw[g1];omega),g1,h7]
   simp
theorem zje (l:List Section):ziO l=true↔MayP l:=by
 constructor
 ·intro h
  have hs:=zlC h
  have h':=h
  unfold ziO zm0 at h'
  simp only[Bool.and_eq_true,Bool.not_eq_true',decide_eq_false_iff_not,List.all_eq_true,zm1]at h'
  obtain ⟨⟨h1,h2,h3⟩,h4⟩:=h'
  refine ⟨by omega,h2,h3,fun s hsm e he=>?_⟩
  exact (zjg hs s e).1 ((zeq _ _ _).1 (h4 s hsm) e (Nat.zero_le _) (by omega))
 ·rintro ⟨h1,h2,h3,h4⟩
  have hm1:=(zm1 l).2 ⟨h2,h3⟩
  have hs:=zga ((zf3 l).trans hm1)
  unfold ziO zm0
  simp only[Bool.and_eq_true,Bool.not_eq_true',decide_eq_false_iff_not,List.all_eq_true]
  exact ⟨⟨by omega,hm1⟩,fun s hsm=>(zeq _ _ _).2 fun e _ he=>(zjg hs s e).2 (h4 s hsm e (by omega))⟩
theorem zi9:∀ (l:List Int) (p:Option Int),zda p l=true↔(∀ x∈l,1≤x∧x≤99)∧l.Pairwise (· < ·)∧∀ y,p=some y→∀ x∈l,y<x
 |[],p=>by simp[zda]
 |x::r,p=>by
  simp only[zda,Bool.and_eq_true,Bool.not_eq_true',decide_eq_false_iff_not,zi9 r (some x),List.pairwise_cons,List.mem_cons,forall_eq_or_imp,Option.some.injEq,forall_eq']
  constructor
  ·rintro ⟨⟨⟨h1,h2⟩,h3⟩,h4,h5,h6⟩
   refine ⟨⟨by omega,h4⟩,⟨h6,h5⟩,fun y hy=>?_⟩
   subst hy
   simp only[decide_eq_false_iff_not]at h3
   exact ⟨by omega,fun z hz=>by have:=h6 z hz;omega⟩
  ·rintro ⟨⟨h1,h4⟩,⟨h6,h5⟩,h7⟩
   refine ⟨⟨⟨by omega,by omega⟩, ?_⟩,h4,h5,h6⟩
   cases p with
   |none=>rfl
   |some y=>simp only[decide_eq_false_iff_not];have:=(h7 y rfl).1;omega
theorem zeJ (l:List Int) (most:Int):rise l most=true↔(∀ x∈l,1≤x∧x≤99)∧l.Pairwise (· < ·)∧(l.length:Int)≤most:=by
 simp only[rise,Bool.and_eq_true,zi9,decide_eq_true_eq]
 constructor
 ·rintro ⟨⟨h1,h2,_⟩,h3⟩;exact ⟨h1,h2,h3⟩
 ·rintro ⟨h1,h2,h3⟩;exact ⟨⟨h1,h2,fun y hy=>by cases hy⟩,h3⟩
theorem zis {l:List Int} (h:l.Pairwise (· < ·)):l.Nodup:=h.imp fun {a b} hab=>by omega
theorem zn0 {α:Type} (f:α→Int):∀ {l:List α},(l.map f).Nodup→∀ {x:α},x∈l→l.find? (fun y=>decide (f y=f x))=some x
 |[],_,x,h=>by cases h
 |y::r,hn,x,h=>by
  simp only[List.map_cons,List.nodup_cons]at hn
  simp only[List.find?_cons]
  rcases List.mem_cons.1 h with rfl|h
  ·simp
  ·have:f y≠f x:=fun e=>hn.1 (e▸List.mem_map_of_mem h)
   simp only[this,decide_false]
   exact zn0 f hn.2 h
theorem zdF {α:Type} {f:α→Int} {l:List α} {n:Int} {x:α} (h:l.find? (fun y=>decide (f y=n))=some x):x∈l∧f x=n:=by
 refine ⟨List.mem_of_find?_eq_some h, ?_⟩
 have:=List.find?_some h
 simpa using this
theorem znZ {α:Type} {f:α→Int} {l:List α} {n:Int} (h:l.find? (fun y=>decide (f y=n))=none):∀ x∈l,f x≠n:=by
 simpa using h
theorem zio {α:Type} [Inhabited α] (n:Nat) (x:α) (i:Nat) (h:i<n):nth (List.replicate n x) i=x:=by
 rw[za3 (by simpa using h)];simp
theorem zdf:∀ (l:List Section) (a:List Int) (i:Nat),(∀ s∈l,0≤s.id∧s.id.toNat<a.length)→(∀ s∈l,s.id.toNat≠i)→nth (zg4 a l) i=nth a i
 |[],a,i,_,_=>rfl
 |s::r,a,i,h,hi=>by
  rw[zg4,zdf r _ i (fun t ht=>by have:=h t (by simp[ht]);simpa using this) (fun t ht=>hi t (by simp[ht])),zbC _ _ _ _ (h s (by simp)).2,if_neg (fun e=>hi s (by simp) e.symm)]
theorem zln:∀ (l:List Section) (a:List Int),(∀ s∈l,0≤s.id∧s.id.toNat<a.length)→(l.map Section.id).Nodup→∀ s∈l,nth (zg4 a l) s.id.toNat=s.ends.length
 |[],_,_,_,s,h=>by cases h
 |t::r,a,h,hn,s,hs=>by
  simp only[List.map_cons,List.nodup_cons]at hn
  have h':∀ u∈r,0≤u.id∧u.id.toNat<(a.set t.id.toNat t.ends.length).length:=fun u hu=>by have:=h u (by simp[hu]);simpa using this
  rw[zg4]
  rcases List.mem_cons.1 hs with rfl|hs
  ·rw[zdf r _ _ h' fun u hu e=>hn.1 ?_,zbC _ _ _ _ (h s (by simp)).2,if_pos rfl]
   have h1:=(h s (by simp)).1
   have h2:=(h u (by simp[hu])).1
   rw[show s.id=u.id by omega]
   exact List.mem_map_of_mem hu
  ·exact zln r _ h' hn.2 s hs
def zci (p:Pln):Bool:=(!decide (p.version<1)&&(!decide (2147483647<p.version)&&(!decide (p.parent<0)&&(!decide (p.version≤p.parent)&&ziO p.sections))))&&(points p&&(signals p (ends p.sections)&&(rise (p.routes.map Rte.id) 16&&p.routes.all fun r=>zfg p r (ends p.sections))))
theorem zcc {l:List Section} (h:ziO l=true):SecOK l:=fun s hs=>by
 have h1:=(zje l).1 h
 obtain ⟨h2,h3,h4⟩:=h1.one s hs
 unfold zb3 at h4
 refine ⟨h2,h3, ?_⟩
 split at h4<;>simp at h4<;>omega
theorem secIds {l:List Section} (h:ziO l=true):(l.map Section.id).Pairwise (· < ·):=by
 rw[List.pairwise_map]
 exact ((zje l).1 h).pw.imp fun {a b} hab=>hab.1
theorem zkC {l:List Section} (h:ziO l=true) {s:Section} (hs:s∈l):nth (ends l) s.id.toNat=s.ends.length:=by
 have h1:=zcc h
 exact zln l _ (fun t ht=>by have:=h1 t ht;simp;omega) (zis (secIds h)) s hs
theorem zmx {l:List Section} (h:ziO l=true) (n:Int):zcG (ends l) n=true↔∃ s∈l,s.id=n:=by
 have h1:=zcc h
 simp only[zcG,Bool.and_eq_true,decide_eq_true_eq]
 constructor
 ·rintro ⟨⟨h2,h3⟩,h4⟩
  rcases Classical.em (∃ s∈l,s.id=n) with h5|h5
  ·exact h5
  ·exfalso
   rw[ends,zdf l _ _ (fun t ht=>by have:=h1 t ht;simp;omega) (fun s hs e=>h5 ⟨s,hs,by have:=h1 s hs;omega⟩),zio _ _ _ (by omega)]at h4
   omega
 ·rintro ⟨s,hs,rfl⟩
  have h2:=h1 s hs
  have h3:=((zje l).1 h).one s hs
  rw[zkC h hs]
  refine ⟨⟨by omega,by omega⟩, ?_⟩
  obtain ⟨_,_,h4⟩:=h3
  unfold zb3 at h4
  split at h4<;>simp at h4<;>omega
theorem ends_le {l:List Section} (h:ziO l=true) (i:Nat):nth (ends l) i≤3:=by
 rcases Classical.em (∃ s∈l,s.id.toNat=i) with ⟨s,hs,rfl⟩|h5
 ·rw[zkC h hs];have:=zcc h s hs;omega
 ·have h1:=zcc h
  rw[ends,zdf l _ _ (fun t ht=>by have:=h1 t ht;simp;omega) (fun s hs e=>h5 ⟨s,hs,e⟩)]
  rcases Nat.lt_or_ge i 100 with hi|hi
  ·rw[zio _ _ _ hi];omega
  ·simp[nth,hi]
theorem zgc (sec:List Int):∀ (l:List Sgn) (a:List Bool),ziZ sec a l=true→∀ x∈l,zcG sec x.sec=true∧0≤x.ed∧x.ed<nth sec x.sec.toNat
 |[],_,_,x,h=>by cases h
 |y::r,a,h,x,hx=>by
  simp only[ziZ,zdk,Bool.and_eq_true,Bool.not_eq_true',Bool.or_eq_false_iff,Bool.not_eq_false',decide_eq_false_iff_not]at h
  rcases List.mem_cons.1 hx with rfl|hx
  ·exact ⟨h.1.1,by omega,by omega⟩
  ·exact zgc sec r _ h.2 x hx
theorem zla (sec:List Int):∀ (l:List Int) (m:List Bool),m.length=100→(zmp sec m l=true↔(∀ x∈l,zcG sec x=true∧nth m x.toNat=false)∧l.Nodup)
 |[],m,_=>by simp[zmp]
 |x::r,m,hm=>by
  simp only[zmp,Bool.and_eq_true,Bool.not_eq_true',Bool.or_eq_false_iff,Bool.not_eq_false',zla sec r (m.set x.toNat true) (by simpa using hm),List.mem_cons,forall_eq_or_imp,List.nodup_cons]
  constructor
  ·rintro ⟨⟨h1,h2⟩,h3,h4⟩
   have h0:0≤x∧x≤99:=by simp only[zcG,Bool.and_eq_true,decide_eq_true_eq]at h1;omega
   have hne:∀ y∈r,y≠x:=fun y hy e=>by
    have:=(h3 y hy).2
    rw[e,zbC _ _ _ _ (by omega),if_pos rfl]at this
    cases this
   refine ⟨⟨⟨h1,h2⟩,fun y hy=>⟨(h3 y hy).1, ?_⟩⟩,fun hx=>hne x hx rfl,h4⟩
   have h5:=h3 y hy
   have h6:0≤y∧y≤99:=by simp only[zcG,Bool.and_eq_true,decide_eq_true_eq]at h5;omega
   rw[zbC _ _ _ _ (by omega),if_neg (by have:=hne y hy;omega)]at h5
   exact h5.2
  ·rintro ⟨⟨⟨h1,h2⟩,h3⟩,h4,h5⟩
   have h0:0≤x∧x≤99:=by simp only[zcG,Bool.and_eq_true,decide_eq_true_eq]at h1;omega
   refine ⟨⟨h1,h2⟩,fun y hy=>⟨(h3 y hy).1, ?_⟩,h5⟩
   have h6:0≤y∧y≤99:=by have:=(h3 y hy).1;simp only[zcG,Bool.and_eq_true,decide_eq_true_eq]at this;omega
   rw[zbC _ _ _ _ (by omega),if_neg (fun e=>h4 (by rw[show x=y by omega];exact hy))]
   exact (h3 y hy).2
theorem zlg (pts:List Pnt):∀ (l:List Flk) (pr:Option Int),flkG pts pr l=true→∀ f∈l,(∃ x∈pts,x.id=f.pnt)∧(f.lie=1∨f.lie=2)
 |[],_,_,f,h=>by cases h
 |y::r,pr,h,f,hf=>by
  simp only[flkG,znX,Bool.and_eq_true,Bool.not_eq_true',Bool.or_eq_false_iff,Bool.not_eq_false',Bool.and_eq_false_imp,decide_eq_false_iff_not,decide_eq_true_eq]at h
  rcases List.mem_cons.1 hf with rfl|hf
  ·obtain ⟨⟨h1,h2,h3⟩,_⟩:=h
   obtain ⟨x,hx⟩:=Option.isSome_iff_exists.1 h1
   refine ⟨⟨x,(zdF hx).1,(zdF hx).2⟩, ?_⟩
   rcases Classical.em (f.lie=1) with h4|h4
   ·exact .inl h4
   ·exact .inr (by have:=h3;simp[h4]at this;exact this)
  ·exact zlg pts r _ h.2 f hf
end Go.Lev
namespace Go.Lev
open Go.Eng
set_option maxRecDepth 10000
set_option maxHeartbeats 4000000
variable {P:Program} {inv:Nat→Option Nat}
def nextS (x:Section×Int) (e:Int):Join×Int:=if x.2=0 then (if e<0∨(x.1.ends.length:Int)≤e then (⟨0,0⟩,2) else (nth x.1.ends e.toNat,0)) else (⟨0,0⟩,x.2)
def zcH (l:List Section) (id e:Int):Join×Int:=nextS (rFind l id) e
def threeL:List Section:=[⟨1,0,[⟨2,0⟩,⟨0,0⟩]⟩,⟨2,5,[⟨1,0⟩,⟨3,0⟩,⟨3,1⟩]⟩,⟨3,0,[⟨2,1⟩,⟨2,2⟩]⟩]
end Go.Lev
namespace Go.Lev
open Go.Eng
set_option maxRecDepth 10000
set_option maxHeartbeats 4000000
variable {P:Program} {inv:Nat→Option Nat}
structure Sm (p:Pln):Prop where
 sec:p.sections.length≤1000000
 ends:∀ s∈p.sections,s.ends.length≤9223372036854775807
 pts:p.points.length≤1000000
 sgn:p.signals.length≤1000000
 rte:p.routes.length≤1000000
 rtes:∀ r∈p.routes,r.path.length≤9223372036854775807∧r.over.length≤9223372036854775807∧r.flanks.length≤9223372036854775807
theorem zoc (hH:HasAll P inv) (l:List Section) (hl:l.length≤1000000000) (he:∀ s∈l,s.ends.length≤9223372036854775807):PC P inv 26 [.sl 3 (l.map Section.c)] (·=.n (zgz l)):=check_eq l▸check_pc hH l hl he
def zbG (p:Pln):Int:=if zci p=true then 0 else 8
theorem sgn_sec {p:Pln} (hm:ziO p.sections=true) (h:signals p (ends p.sections)=true):∀ x∈p.signals,0≤x.sec∧x.sec≤99:=fun x hx=>by
 simp only[signals,Bool.and_eq_true]at h
 have:=(zgc _ _ _ h.2 x hx).1
 simp only[zcG,Bool.and_eq_true,decide_eq_true_eq]at this
 omega
theorem zfI (hH:HasAll P inv) (hI:HasIds P inv) (p:Pln) (hp:Sm p):PC P inv 95 [.agg p.c] (·=.n (zbG p)):=by
 have hlr:=hp.rte
 have c0:=zoc hH p.sections (Nat.le_trans hp.sec (by omega)) hp.ends
 cases hm:ziO p.sections with
 |false =>
  rw[show zgz p.sections=8 by simp[zgz,hm]]at c0
  rw[show zbG p=8 by simp[zbG,zci,hm]]
  refine zae (F:=cd95) (hH.has _ _ rfl) (Nat.le_of_ble_eq_true rfl) fun w0 M Q hM hQ hR=>?_;have hE:=hH.callable;dsimp only[cd95,qm,ql,qf,qi,qb,qc,qp,qv,qN,qT,qF,qt]at hQ ⊢
  repeat' (first|refine zab [0,1,2,3,5,31,49,51,52,53,54,61] fun K hK=>?_|refine AWp.block ?_|(refine hK.go ?_;clear hK K)|refine Cont.go (by assumption) ?_|(refine cnd2 rfl (fun h=>?_) (fun h=>?_)<;>(try first|exact h.elim|obtain rfl:(_:Bool)=true:=h|obtain rfl:(_:Bool)=false:=h)<;>first|(exfalso;omega)|skip)|((first|refine AWp.reg hE hM ?_|refine AWp.regd hE hM ?_|refine AWp.ret ?_|refine AWp.skip ?_|refine AWp.exit ?_|(refine pk2 (fun h=>?_) (fun h=>?_)<;>(try first|exact h.elim|obtain rfl:(_:Bool)=true:=h|obtain rfl:(_:Bool)=false:=h))|refine zac (fun h=>?_) ?_|refine zaa hM (c0) ?_|(refine hQ _ _ _ rfl ?_;clear hQ hR hE hM)|(refine hR _ _ (hQ _ _ _ rfl ?_);clear hQ hR hE hM)|(refine zaf ?_ ?_;focus first|omega|(refine zad ?_;(refine no_implicit_lambda% (st ?_);try with_reducible exact True.intro);done)))<;>try (refine no_implicit_lambda% (st ?_);try with_reducible exact True.intro)))
  all_goals (first|rfl|omega)
 |true =>
  rw[show zgz p.sections=0 by simp[zgz,hm]]at c0
  have c1:=ends_pc hH p.sections (Nat.le_trans hp.sec (by omega)) (zcc hm)
  have c2:=zm4 hH hI p (Nat.le_trans hp.sec (by omega)) (Nat.le_trans hp.pts (by omega)) (zcc hm)
  have c3:=zlE hH hI p (Nat.le_trans hp.sgn (by omega)) (ends p.sections) (zlm _) (ends_le hm)
  have c4:=zlK hH hI p.routes 16 (Nat.le_trans hp.rte (by omega))
  have hlen:=zlm p.sections
  have ht:((ends p.sections).map AV.n).take 100=(ends p.sections).map AV.n:=List.take_of_length_le (by simp[hlen])
  have hov:ovl (List.replicate 100 (AV.i .i64 0)) 0 ((ends p.sections).map AV.n)=(ends p.sections).map AV.n:=by
   rw[zk7 _ _ _ (by simp[hlen]),List.take_zero,List.nil_append,List.drop_eq_nil_of_le (by simp[hlen]),List.append_nil]
  cases hv:(points p&&(signals p (ends p.sections)&&rise (p.routes.map Rte.id) 16)) with
  |false =>
   rw[show zbG p=8 by
    unfold zbG
    rw[if_neg]
    intro h
    simp only[zci,Bool.and_eq_true]at h
    rw[h.2.1,h.2.2.1,h.2.2.2.1]at hv
    cases hv]
   refine zae (F:=cd95) (hH.has _ _ rfl) (Nat.le_of_ble_eq_true rfl) fun w0 M Q hM hQ hR=>?_;have hE:=hH.callable;dsimp only[cd95,qm,ql,qf,qi,qb,qc,qp,qv,qN,qT,qF,qt]at hQ ⊢
   repeat' (first|refine zab [0,1,2,3,5,31,49,51,52,53,54,61] fun K hK=>?_|refine AWp.block ?_|(refine hK.go ?_;clear hK K)|refine Cont.go (by assumption) ?_|(refine cnd2 rfl (fun h=>?_) (fun h=>?_)<;>(try first|exact h.elim|obtain rfl:(_:Bool)=true:=h|obtain rfl:(_:Bool)=false:=h)<;>first|(exfalso;omega)|skip)|((first|refine AWp.reg hE hM ?_|refine AWp.regd hE hM ?_|refine AWp.ret ?_|refine AWp.skip ?_|refine AWp.exit ?_|(refine pk2 (fun h=>?_) (fun h=>?_)<;>(try first|exact h.elim|obtain rfl:(_:Bool)=true:=h|obtain rfl:(_:Bool)=false:=h))|refine zac (fun h=>?_) ?_|refine zaa hM (c0) ?_|refine zaa hM (c1) ?_|refine zaa hM (c2) ?_|refine zaa hM (c3) ?_|refine zaa hM (c4) ?_|(refine hQ _ _ _ rfl ?_;clear hQ hR hE hM)|(refine hR _ _ (hQ _ _ _ rfl ?_);clear hQ hR hE hM)|(refine zaf ?_ ?_;focus first|omega|(refine zad ?_;(refine no_implicit_lambda% (st ?_);try with_reducible exact True.intro);done)))<;>try simp -dsimp -implicitDefEqProofs (disch:=omega) only[go_sem,reduceIte,↓reduceIte,Nat.reduceEqDiff,Nat.reduceLT,Nat.reduceLeDiff,Nat.reduceAdd,Nat.reduceSub,Nat.reduceMul,Int.reduceToNat,Int.reduceLT,Int.reduceLE,Int.reduceEq,Int.reduceNeg,Int.reduceNe,reduceCtorEq,hlen,ht,hov]))
   all_goals (first|rfl|omega|(simp_all;done))
  |true =>
   simp only[Bool.and_eq_true]at hv
   rw[hv.1]at c2
   rw[hv.2.1]at c3
   rw[hv.2.2]at c4
   have hsg:=sgn_sec hm hv.2.1
   have h0:zbG p=if (decide (p.version<1)||(decide (2147483647<p.version)||(decide (p.parent<0)||decide (p.version≤p.parent))))=true then 8 else if (p.routes.all fun r=>zfg p r (ends p.sections))=true then 0 else 8:=by
    simp only[zbG,zci,hm,hv.1,hv.2.1,hv.2.2]
    cases decide (p.version<1)<;>cases decide (2147483647<p.version)<;>cases decide (p.parent<0)<;>cases decide (p.version≤p.parent)<;>simp
   refine zae (F:=cd95) (hH.has _ _ rfl) (Nat.le_of_ble_eq_true rfl) fun w0 M Q hM hQ hR=>?_;have hE:=hH.callable;dsimp only[cd95,qm,ql,qf,qi,qb,qc,qp,qv,qN,qT,qF,qt]at hQ ⊢
   repeat' (first|refine zab [0,1,2,3,5,31,49,51,52,53,54,61] fun K hK=>?_|refine AWp.block ?_|(refine hK.go ?_;clear hK K)|refine Cont.go (by assumption) ?_|(refine cnd2 rfl (fun h=>?_) (fun h=>?_)<;>(try first|exact h.elim|obtain rfl:(_:Bool)=true:=h|obtain rfl:(_:Bool)=false:=h)<;>first|(exfalso;omega)|skip)|((first|refine AWp.reg hE hM ?_|refine AWp.regd hE hM ?_|refine AWp.ret ?_|refine AWp.skip ?_|refine AWp.exit ?_|(refine pk2 (fun h=>?_) (fun h=>?_)<;>(try first|exact h.elim|obtain rfl:(_:Bool)=true:=h|obtain rfl:(_:Bool)=false:=h))|refine zac (fun h=>?_) ?_|refine zaa hM (c0) ?_|refine zaa hM (c1) ?_|refine zaa hM (c2) ?_|refine zaa hM (c3) ?_|refine zaa hM (c4) ?_|(refine hQ _ _ _ rfl ?_;clear hQ hR hE hM)|(refine hR _ _ (hQ _ _ _ rfl ?_);clear hQ hR hE hM)|(refine zaf ?_ ?_;focus first|omega|(refine zad ?_;(refine no_implicit_lambda% (st ?_);try with_reducible exact True.intro);done)))<;>try simp -dsimp -implicitDefEqProofs (disch:=omega) only[go_sem,reduceIte,↓reduceIte,Nat.reduceEqDiff,Nat.reduceLT,Nat.reduceLeDiff,Nat.reduceAdd,Nat.reduceSub,Nat.reduceMul,Int.reduceToNat,Int.reduceLT,Int.reduceLE,Int.reduceEq,Int.reduceNeg,Int.reduceNe,reduceCtorEq,hlen,ht,hov]))
   all_goals try (rw[h0,if_pos (by simp[*])];done)
   refine zaj (ι:=Nat) [1,2,3,51,52,53] (fun zz=>[(53,.n zz)]) (fun zz=>[]) (fun zz=>zz≤p.routes.length∧(((p.routes.drop zz).all fun r=>zfg p r (ends p.sections))=(p.routes.all fun r=>zfg p r (ends p.sections)))) (fun zz=>p.routes.length-zz) (0) ⟨Nat.zero_le _,(by first|rfl|assumption|omega|(simp;done)|(simp;omega)|grind)⟩ (by (try dsimp only);(refine no_implicit_lambda% (st ?_);try with_reducible exact True.intro)<;>first|omega|(simp;done)) (by (try dsimp only);(refine no_implicit_lambda% (st ?_);try with_reducible exact True.intro)<;>first|omega|(simp;done)) ?_;rintro k ⟨hk,hg⟩;(try dsimp only at hk hg ⊢);rcases Nat.lt_or_ge k p.routes.length with hlt|hge
   ·rw[zao hlt]at hg
    rw[List.all_cons]at hg
    repeat' (first|refine zab [0,1,2,3,5,31,49,51,52,53,54,61] fun K hK=>?_|refine AWp.block ?_|(refine hK.go ?_;clear hK K)|refine Cont.go (by assumption) ?_|(refine cnd2 rfl (fun h=>?_) (fun h=>?_)<;>(try first|exact h.elim|obtain rfl:(_:Bool)=true:=h|obtain rfl:(_:Bool)=false:=h)<;>first|(exfalso;omega)|skip)|((first|refine AWp.reg hE hM ?_|refine AWp.regd hE hM ?_|refine AWp.ret ?_|refine AWp.skip ?_|refine AWp.exit ?_|(refine pk2 (fun h=>?_) (fun h=>?_)<;>(try first|exact h.elim|obtain rfl:(_:Bool)=true:=h|obtain rfl:(_:Bool)=false:=h))|refine zac (fun h=>?_) ?_|refine zaa hM (route_pc hH hI p (nth p.routes k) (Nat.le_trans hp.sgn (by omega)) (Nat.le_trans hp.pts (by omega)) (Nat.le_trans (hp.rtes _ (zat hlt)).2.2 (by omega)) (Nat.le_trans (hp.rtes _ (zat hlt)).1 (by omega)) (Nat.le_trans (hp.rtes _ (zat hlt)).2.1 (by omega)) _ hlen hsg) ?_|(refine hQ _ _ _ rfl ?_;clear hQ hR hE hM)|(refine hR _ _ (hQ _ _ _ rfl ?_);clear hQ hR hE hM)|(refine zaf ?_ ?_;focus first|omega|(refine zad ?_;(refine no_implicit_lambda% (st ?_);try with_reducible exact True.intro);done)))<;>try simp -dsimp -implicitDefEqProofs (disch:=omega) only[go_sem,reduceIte,↓reduceIte,Nat.reduceEqDiff,Nat.reduceLT,Nat.reduceLeDiff,Nat.reduceAdd,Nat.reduceSub,Nat.reduceMul,Int.reduceToNat,Int.reduceLT,Int.reduceLE,Int.reduceEq,Int.reduceNeg,Int.reduceNe,reduceCtorEq,hlen,ht,hov]))
    ·rw[h0,←hg];simp[*]
    ·refine ⟨(k+1),by (try dsimp only);omega,⟨by (try dsimp only);omega,by (try dsimp only);rw[←hg];simp[*]⟩, ?_⟩;(try dsimp only);(first|omega|(simp;done)|(simp;omega)|((refine no_implicit_lambda% (st ?_);try with_reducible exact True.intro);done)|(simp[List.map_set, *];done)|(simp[List.map_set, *];rfl)|((refine no_implicit_lambda% (st ?_);try with_reducible exact True.intro);simp[List.map_set, *];done)|((try (refine no_implicit_lambda% (st ?_);try with_reducible exact True.intro));(repeat' refine And.intro ?_ ?_)<;>first|omega|rfl|(simp;done)|(simp;omega)|(simp;rfl)|(simp[List.map_set, *];done)|(simp[List.map_set, *];rfl)))
   ·rw[List.drop_eq_nil_of_le hge]at hg
    repeat' (first|refine zab [0,1,2,3,5,31,49,51,52,53,54,61] fun K hK=>?_|refine AWp.block ?_|(refine hK.go ?_;clear hK K)|refine Cont.go (by assumption) ?_|(refine cnd2 rfl (fun h=>?_) (fun h=>?_)<;>(try first|exact h.elim|obtain rfl:(_:Bool)=true:=h|obtain rfl:(_:Bool)=false:=h)<;>first|(exfalso;omega)|skip)|((first|refine AWp.reg hE hM ?_|refine AWp.regd hE hM ?_|refine AWp.ret ?_|refine AWp.skip ?_|refine AWp.exit ?_|(refine pk2 (fun h=>?_) (fun h=>?_)<;>(try first|exact h.elim|obtain rfl:(_:Bool)=true:=h|obtain rfl:(_:Bool)=false:=h))|refine zac (fun h=>?_) ?_|(refine hQ _ _ _ rfl ?_;clear hQ hR hE hM)|(refine hR _ _ (hQ _ _ _ rfl ?_);clear hQ hR hE hM)|(refine zaf ?_ ?_;focus first|omega|(refine zad ?_;(refine no_implicit_lambda% (st ?_);try with_reducible exact True.intro);done)))<;>try (refine no_implicit_lambda% (st ?_);try with_reducible exact True.intro)))
    rw[h0,←hg,if_neg (by simp[*])];rfl
theorem zdj (hH:HasAll P inv) (l:List Int) (h:l.length≤1000000):PC P inv 108 [.sl 1 (l.map zhq)] (·=.sl 1 (l.map zhq)):=by
 refine zae (F:=cd108) (hH.has _ _ rfl) (Nat.le_of_ble_eq_true rfl) fun w0 M Q hM hQ hR=>?_;have hE:=hH.callable;dsimp only[cd108,qm,ql,qf,qi,qb,qc,qp,qv,qN,qT,qF,qt]at hQ ⊢
 repeat' (first|refine zab [0,2,4] fun K hK=>?_|refine AWp.block ?_|(refine hK.go ?_;clear hK K)|refine Cont.go (by assumption) ?_|(refine cnd2 rfl (fun h=>?_) (fun h=>?_)<;>(try first|exact h.elim|obtain rfl:(_:Bool)=true:=h|obtain rfl:(_:Bool)=false:=h)<;>first|(exfalso;omega)|skip)|((first|refine AWp.reg hE hM ?_|refine AWp.regd hE hM ?_|refine AWp.ret ?_|refine AWp.skip ?_|refine AWp.exit ?_|(refine pk2 (fun h=>?_) (fun h=>?_)<;>(try first|exact h.elim|obtain rfl:(_:Bool)=true:=h|obtain rfl:(_:Bool)=false:=h))|refine zac (fun h=>?_) ?_|(refine hQ _ _ _ rfl ?_;clear hQ hR hE hM)|(refine hR _ _ (hQ _ _ _ rfl ?_);clear hQ hR hE hM)|(refine zaf ?_ ?_;focus first|omega|(refine zad ?_;(refine no_implicit_lambda% (st ?_);try with_reducible exact True.intro);done)))<;>try (refine no_implicit_lambda% (st ?_);try with_reducible exact True.intro)))
 ·have h0:l.length=0:=by assumption
  obtain rfl:=List.length_eq_zero_iff.1 h0
  rfl
theorem zkD (hH:HasAll P inv) (l:List Flk) (h:l.length≤1000000):PC P inv 128 [.sl 2 (l.map Flk.c)] (·=.sl 2 (l.map Flk.c)):=by
 refine zae (F:=cd128) (hH.has _ _ rfl) (Nat.le_of_ble_eq_true rfl) fun w0 M Q hM hQ hR=>?_;have hE:=hH.callable;dsimp only[cd128,qm,ql,qf,qi,qb,qc,qp,qv,qN,qT,qF,qt]at hQ ⊢
 repeat' (first|refine zab [0,2,4] fun K hK=>?_|refine AWp.block ?_|(refine hK.go ?_;clear hK K)|refine Cont.go (by assumption) ?_|(refine cnd2 rfl (fun h=>?_) (fun h=>?_)<;>(try first|exact h.elim|obtain rfl:(_:Bool)=true:=h|obtain rfl:(_:Bool)=false:=h)<;>first|(exfalso;omega)|skip)|((first|refine AWp.reg hE hM ?_|refine AWp.regd hE hM ?_|refine AWp.ret ?_|refine AWp.skip ?_|refine AWp.exit ?_|(refine pk2 (fun h=>?_) (fun h=>?_)<;>(try first|exact h.elim|obtain rfl:(_:Bool)=true:=h|obtain rfl:(_:Bool)=false:=h))|refine zac (fun h=>?_) ?_|(refine hQ _ _ _ rfl ?_;clear hQ hR hE hM)|(refine hR _ _ (hQ _ _ _ rfl ?_);clear hQ hR hE hM)|(refine zaf ?_ ?_;focus first|omega|(refine zad ?_;(refine no_implicit_lambda% (st ?_);try with_reducible exact True.intro);done)))<;>try (refine no_implicit_lambda% (st ?_);try with_reducible exact True.intro)))
 ·have h0:l.length=0:=by assumption
  obtain rfl:=List.length_eq_zero_iff.1 h0
  rfl
theorem zlw (hH:HasAll P inv) (r:Rte) (h:r.path.length≤1000000∧r.over.length≤1000000∧r.flanks.length≤1000000):PC P inv 99 [.agg r.c] (·=.agg r.c):=by
 refine zae (F:=cd99) (hH.has _ _ rfl) (Nat.le_of_ble_eq_true rfl) fun w0 M Q hM hQ hR=>?_;have hE:=hH.callable;dsimp only[cd99,qm,ql,qf,qi,qb,qc,qp,qv,qN,qT,qF,qt]at hQ ⊢
 repeat' (first|refine zab [0,1,2] fun K hK=>?_|refine AWp.block ?_|(refine hK.go ?_;clear hK K)|refine Cont.go (by assumption) ?_|(refine cnd2 rfl (fun h=>?_) (fun h=>?_)<;>(try first|exact h.elim|obtain rfl:(_:Bool)=true:=h|obtain rfl:(_:Bool)=false:=h)<;>first|(exfalso;omega)|skip)|((first|refine AWp.reg hE hM ?_|refine AWp.regd hE hM ?_|refine AWp.ret ?_|refine AWp.skip ?_|refine AWp.exit ?_|(refine pk2 (fun h=>?_) (fun h=>?_)<;>(try first|exact h.elim|obtain rfl:(_:Bool)=true:=h|obtain rfl:(_:Bool)=false:=h))|refine zac (fun h=>?_) ?_|refine zaa hM (zdj hH _ h.1) ?_|refine zaa hM (zdj hH _ h.2.1) ?_|refine zaa hM (zkD hH _ h.2.2) ?_|(refine hQ _ _ _ rfl ?_;clear hQ hR hE hM)|(refine hR _ _ (hQ _ _ _ rfl ?_);clear hQ hR hE hM)|(refine zaf ?_ ?_;focus first|omega|(refine zad ?_;(refine no_implicit_lambda% (st ?_);try with_reducible exact True.intro);done)))<;>try (refine no_implicit_lambda% (st ?_);try with_reducible exact True.intro)))
def zeI (p:Pln) (n:Int):Rte×Int:=if zci p=true then (match p.routes.find? fun x=>decide (x.id=n) with|some r=>(r,0)|none=>(Rte.z,6)) else (Rte.z,8)
theorem zkE (hH:HasAll P inv) (hI:HasIds P inv) (p:Pln) (hp:Sm p) (n:Int):PC P inv 98 [.agg p.c,.sl 7 (p.routes.map Rte.c),.n n] (·=.tup [.agg (zeI p n).1.c,.n (zeI p n).2]):=by
 have c0:=zfI hH hI p hp
 have c1:=find_rte hH hI p.routes (Nat.le_trans hp.rte (by omega)) n
 cases ho:zci p with
 |false =>
  rw[show zbG p=8 by simp[zbG,ho]]at c0
  rw[show zeI p n=(Rte.z,8) by simp[zeI,ho]]
  refine zae (F:=cd98) (hH.has _ _ rfl) (Nat.le_of_ble_eq_true rfl) fun w0 M Q hM hQ hR=>?_;have hE:=hH.callable;dsimp only[cd98,qm,ql,qf,qi,qb,qc,qp,qv,qN,qT,qF,qt]at hQ ⊢
  repeat' (first|refine zab [0,1,2,3,6,7,8,9,10,11,15,25] fun K hK=>?_|refine AWp.block ?_|(refine hK.go ?_;clear hK K)|refine Cont.go (by assumption) ?_|(refine cnd2 rfl (fun h=>?_) (fun h=>?_)<;>(try first|exact h.elim|obtain rfl:(_:Bool)=true:=h|obtain rfl:(_:Bool)=false:=h)<;>first|(exfalso;omega)|skip)|((first|refine AWp.reg hE hM ?_|refine AWp.regd hE hM ?_|refine AWp.ret ?_|refine AWp.skip ?_|refine AWp.exit ?_|(refine pk2 (fun h=>?_) (fun h=>?_)<;>(try first|exact h.elim|obtain rfl:(_:Bool)=true:=h|obtain rfl:(_:Bool)=false:=h))|refine zac (fun h=>?_) ?_|refine zaa hM (c0) ?_|(refine hQ _ _ _ rfl ?_;clear hQ hR hE hM)|(refine hR _ _ (hQ _ _ _ rfl ?_);clear hQ hR hE hM)|(refine zaf ?_ ?_;focus first|omega|(refine zad ?_;(refine no_implicit_lambda% (st ?_);try with_reducible exact True.intro);done)))<;>try (refine no_implicit_lambda% (st ?_);try with_reducible exact True.intro)))
  all_goals (first|rfl|omega)
 |true =>
  rw[show zbG p=0 by simp[zbG,ho]]at c0
  unfold zeI
  rw[if_pos ho]
  revert c1
  generalize (p.routes.find? fun x=>decide (x.id=n))=x
  intro c1
  cases x with
  |none =>
   refine zae (F:=cd98) (hH.has _ _ rfl) (Nat.le_of_ble_eq_true rfl) fun w0 M Q hM hQ hR=>?_;have hE:=hH.callable;dsimp only[cd98,qm,ql,qf,qi,qb,qc,qp,qv,qN,qT,qF,qt]at hQ ⊢
   repeat' (first|refine zab [0,1,2,3,6,7,8,9,10,11,15,25] fun K hK=>?_|refine AWp.block ?_|(refine hK.go ?_;clear hK K)|refine Cont.go (by assumption) ?_|(refine cnd2 rfl (fun h=>?_) (fun h=>?_)<;>(try first|exact h.elim|obtain rfl:(_:Bool)=true:=h|obtain rfl:(_:Bool)=false:=h)<;>first|(exfalso;omega)|skip)|((first|refine AWp.reg hE hM ?_|refine AWp.regd hE hM ?_|refine AWp.ret ?_|refine AWp.skip ?_|refine AWp.exit ?_|(refine pk2 (fun h=>?_) (fun h=>?_)<;>(try first|exact h.elim|obtain rfl:(_:Bool)=true:=h|obtain rfl:(_:Bool)=false:=h))|refine zac (fun h=>?_) ?_|refine zaa hM (c0) ?_|refine zaa hM (c1) ?_|(refine hQ _ _ _ rfl ?_;clear hQ hR hE hM)|(refine hR _ _ (hQ _ _ _ rfl ?_);clear hQ hR hE hM)|(refine zaf ?_ ?_;focus first|omega|(refine zad ?_;(refine no_implicit_lambda% (st ?_);try with_reducible exact True.intro);done)))<;>try simp -dsimp -implicitDefEqProofs (disch:=omega) only[go_sem,reduceIte,↓reduceIte,Nat.reduceEqDiff,Nat.reduceLT,Nat.reduceLeDiff,Nat.reduceAdd,Nat.reduceSub,Nat.reduceMul,Int.reduceToNat,Int.reduceLT,Int.reduceLE,Int.reduceEq,Int.reduceNeg,Int.reduceNe,reduceCtorEq,Option.isSome_none,Option.isSome_some,Option.getD_none,Option.getD_some]))
   all_goals (first|rfl|omega)
  |some r =>
   refine zae (F:=cd98) (hH.has _ _ rfl) (Nat.le_of_ble_eq_true rfl) fun w0 M Q hM hQ hR=>?_;have hE:=hH.callable;dsimp only[cd98,qm,ql,qf,qi,qb,qc,qp,qv,qN,qT,qF,qt]at hQ ⊢
   repeat' (first|refine zab [0,1,2,3,6,7,8,9,10,11,15,25] fun K hK=>?_|refine AWp.block ?_|(refine hK.go ?_;clear hK K)|refine Cont.go (by assumption) ?_|(refine cnd2 rfl (fun h=>?_) (fun h=>?_)<;>(try first|exact h.elim|obtain rfl:(_:Bool)=true:=h|obtain rfl:(_:Bool)=false:=h)<;>first|(exfalso;omega)|skip)|((first|refine AWp.reg hE hM ?_|refine AWp.regd hE hM ?_|refine AWp.ret ?_|refine AWp.skip ?_|refine AWp.exit ?_|(refine pk2 (fun h=>?_) (fun h=>?_)<;>(try first|exact h.elim|obtain rfl:(_:Bool)=true:=h|obtain rfl:(_:Bool)=false:=h))|refine zac (fun h=>?_) ?_|refine zaa hM (c0) ?_|refine zaa hM (c1) ?_|(refine hQ _ _ _ rfl ?_;clear hQ hR hE hM)|(refine hR _ _ (hQ _ _ _ rfl ?_);clear hQ hR hE hM)|(refine zaf ?_ ?_;focus first|omega|(refine zad ?_;(refine no_implicit_lambda% (st ?_);try with_reducible exact True.intro);done)))<;>try simp -dsimp -implicitDefEqProofs (disch:=omega) only[go_sem,reduceIte,↓reduceIte,Nat.reduceEqDiff,Nat.reduceLT,Nat.reduceLeDiff,Nat.reduceAdd,Nat.reduceSub,Nat.reduceMul,Int.reduceToNat,Int.reduceLT,Int.reduceLE,Int.reduceEq,Int.reduceNeg,Int.reduceNe,reduceCtorEq,Option.isSome_none,Option.isSome_some,Option.getD_none,Option.getD_some]))
   all_goals (first|rfl|omega)
theorem rteOf_sm (p:Pln) (n:Int):(zeI p n).1.path.length≤1000000∧(zeI p n).1.over.length≤1000000∧(zeI p n).1.flanks.length≤1000000:=by
 unfold zeI
 split
 ·rename_i ho
  split
  ·rename_i r h
   simp only[zci,Bool.and_eq_true,List.all_eq_true]at ho
   have h1:=ho.2.2.2.2 r (zdF h).1
   simp only[zfg,zff,Bool.and_eq_true,Bool.not_eq_true',decide_eq_false_iff_not]at h1
   dsimp only
   omega
  ·simp[Rte.z]
 ·simp[Rte.z]
theorem zjl (hH:HasAll P inv) (hI:HasIds P inv) (p:Pln) (hp:Sm p) (n:Int):PC P inv 89 [.agg p.c,.n n] (·=.tup [.agg (zeI p n).1.c,.n (zeI p n).2]):=by
 refine zae (F:=cd89) (hH.has _ _ rfl) (Nat.le_of_ble_eq_true rfl) fun w0 M Q hM hQ hR=>?_;have hE:=hH.callable;dsimp only[cd89,qm,ql,qf,qi,qb,qc,qp,qv,qN,qT,qF,qt]at hQ ⊢
 repeat' (first|refine zab [0,1,2,4,5,6,7] fun K hK=>?_|refine AWp.block ?_|(refine hK.go ?_;clear hK K)|refine Cont.go (by assumption) ?_|(refine cnd2 rfl (fun h=>?_) (fun h=>?_)<;>(try first|exact h.elim|obtain rfl:(_:Bool)=true:=h|obtain rfl:(_:Bool)=false:=h)<;>first|(exfalso;omega)|skip)|((first|refine AWp.reg hE hM ?_|refine AWp.regd hE hM ?_|refine AWp.ret ?_|refine AWp.skip ?_|refine AWp.exit ?_|(refine pk2 (fun h=>?_) (fun h=>?_)<;>(try first|exact h.elim|obtain rfl:(_:Bool)=true:=h|obtain rfl:(_:Bool)=false:=h))|refine zac (fun h=>?_) ?_|refine zaa hM (zkE hH hI p hp n) ?_|refine zaa hM (zlw hH _ (rteOf_sm p n)) ?_|(refine hQ _ _ _ rfl ?_;clear hQ hR hE hM)|(refine hR _ _ (hQ _ _ _ rfl ?_);clear hQ hR hE hM)|(refine zaf ?_ ?_;focus first|omega|(refine zad ?_;(refine no_implicit_lambda% (st ?_);try with_reducible exact True.intro);done)))<;>try (refine no_implicit_lambda% (st ?_);try with_reducible exact True.intro)))
end Go.Lev
namespace Go.Eng
section
variable {φ:List (Nat×AV)} {σ:List (Nat×AO)} {K:AV→Prop} {tk:Tok K}
def cpT (x:AV) (K:AV→Prop) (_:Tok K):Prop:=match x with|.s0 _=>K (.i .i64 0)|_=>False
theorem av_cap (x:Opd):avT φ σ (.cap x) K tk=cpT (ev φ x) K .mk:=rfl
theorem cp_0 (sz:Nat):cpT (.s0 sz) K tk=K (.i .i64 0):=rfl
theorem av_look (m k:Opd):avT φ σ (.look m k) K tk=zcj (zjS σ (ev φ m) (ev φ k)) K:=rfl
def lkR (o:Option AO) (a:Int):Option AV:=match o with|some (.imap kvs)=>some (.i .i64 (zhn kvs a))|_=>none
theorem lk_m (l:Nat) (a:Int):zjS σ (.mp l) (.i .i64 a)=lkR (zaD σ l) a:=by unfold zjS lkR;rfl
theorem lkR_m (kvs:List (Int×Int)) (a:Int):lkR (some (.imap kvs)) a=some (.i .i64 (zhn kvs a)):=rfl
theorem s0_01 (sz sz':Nat) (k:IntKind) (h:Int):scT σ (.s0 sz') none (some (.i k h)) none sz K tk=ob (h=0) (K (.s0 sz)):=rfl
theorem s0_00 (sz sz':Nat):scT σ (.s0 sz') none none none sz K tk=K (.s0 sz):=rfl
theorem zd0:∀ (xs ys:List AV),zah (xs++ys)=mx (zah xs) (zah ys)
 |[],ys=>by
  simp only[List.nil_append,zah]
  unfold mx
  split<;>omega
 |x::xs,ys=>by
  simp only[List.cons_append,zah,zd0 xs ys]
  unfold mx
  split<;>split<;>(try split)<;>(try split)<;>omega
attribute [go_sem] zd0 av_cap cp_0 av_look lk_m lkR_m s0_01 s0_00
end
end Go.Eng
namespace Go.Lev
open Go.Eng
set_option maxRecDepth 10000
set_option maxHeartbeats 4000000
variable {P:Program} {inv:Nat→Option Nat}
def zbd (s:Section) (f t:Int):Int×Int:=if zb3 s=true then (if rLie s f t<0 then (0,2) else (rLie s f t,0)) else (0,8)
def zf7 (s:Section) (f t:Int):Int×Int:=if zcg s=true then (if f<0∨2<f∨t<0∨2<t∨zcF s.pt f t=0 then (0,2) else ((zcF s.pt f t).tmod 3,0)) else (0,8)
def outR (s:Section) (f lie:Int):Int×Int:=if zcg s=true then (if f<0∨2<f∨lie<0∨2<lie then (0,2) else if (¬s.pt=0∧lie=0)∨outL s f lie<0 then (0,2) else (outL s f lie,0)) else (0,8)
def routP (s:Section) (f lie:Int):Nat→Nat→Int×Int
 |_,0=>(0,2)
 |k,m+1=>if rLie s f k=lie then (k,0) else routP s f lie (k+1) m
def rout (s:Section) (f lie:Int):Int×Int:=if zb3 s=true then (if lie<0 then (0,2) else routP s f lie 0 s.ends.length) else (0,8)
def two (x:Int×Int):AV:=.tup [.n x.1,.n x.2]
theorem zj2 (hH:HasAll P inv) (s:Section) (f t:Int):PC P inv 16 [.agg s.c,.n f,.n t] (·=.tup [.n (zf7 s f t).1,.n (zf7 s f t).2]) :=
 (zlx hH s f t).mono fun r e=>by (rw[e];unfold zh6 zf7;(repeat' split)<;>rfl)
theorem zmI (s:Section):zcg s=zb3 s:=by
 unfold zcg zb3 zbQ
 by_cases h:s.pt=0
 ·simp[h]
 ·simp[h]
theorem zly (s:Section) (f t:Int):zf7 s f t=zbd s f t:=by
 unfold zf7 zbd
 rw[zmI]
 split
 ·by_cases hf:0≤f∧f≤2
  ·by_cases ht:0≤t∧t≤2
   ·rcases zc5 hf with rfl|rfl|rfl<;>rcases zc5 ht with rfl|rfl|rfl<;>by_cases hp:s.pt=0<;>simp[zcF,rLie,hp]
   ·rw[if_pos (by omega),if_pos (by unfold rLie;(repeat' split)<;>omega)]
  ·rw[if_pos (by omega),if_pos (by unfold rLie;(repeat' split)<;>omega)]
 ·rfl
theorem zbZ (hH:HasAll P inv) (s:Section) (f t:Int):PC P inv 16 [.agg s.c,.n f,.n t] (·=.tup [.n (zbd s f t).1,.n (zbd s f t).2]):=zly s f t▸zj2 hH s f t
end Go.Lev
namespace Go.Lev
open Go.Eng
set_option maxRecDepth 10000
set_option maxHeartbeats 4000000
variable {P:Program} {inv:Nat→Option Nat}
def sigG (n:Int):Sgn→List Sgn→Sgn
 |o,[]=>o
 |o,x::r=>if x.id=n then sigG n x r else sigG n o r
def sig (p:Pln) (n:Int):Sgn:=sigG n Sgn.z p.signals
theorem ziX (hH:HasAll P inv) (p:Pln) (hp:Sm p) (n:Int):PC P inv 100 [.agg p.c,.n n] (·=.agg (sig p n).c):=by
 have hl:=hp.sgn
 refine zae (F:=cd100) (hH.has _ _ rfl) (Nat.le_of_ble_eq_true rfl) fun w0 M Q hM hQ hR=>?_;have hE:=hH.callable;dsimp only[cd100,qm,ql,qf,qi,qb,qc,qp,qv,qN,qT,qF,qt]at hQ ⊢
 repeat' (first|refine zab [0,1,2,4,6,8,9,10,11,17] fun K hK=>?_|refine AWp.block ?_|(refine hK.go ?_;clear hK K)|refine Cont.go (by assumption) ?_|(refine cnd2 rfl (fun h=>?_) (fun h=>?_)<;>(try first|exact h.elim|obtain rfl:(_:Bool)=true:=h|obtain rfl:(_:Bool)=false:=h)<;>first|(exfalso;omega)|skip)|((first|refine AWp.reg hE hM ?_|refine AWp.regd hE hM ?_|refine AWp.ret ?_|refine AWp.skip ?_|refine AWp.exit ?_|(refine pk2 (fun h=>?_) (fun h=>?_)<;>(try first|exact h.elim|obtain rfl:(_:Bool)=true:=h|obtain rfl:(_:Bool)=false:=h))|refine zac (fun h=>?_) ?_|(refine hQ _ _ _ rfl ?_;clear hQ hR hE hM)|(refine hR _ _ (hQ _ _ _ rfl ?_);clear hQ hR hE hM)|(refine zaf ?_ ?_;focus first|omega|(refine zad ?_;(refine no_implicit_lambda% (st ?_);try with_reducible exact True.intro);done)))<;>try (refine no_implicit_lambda% (st ?_);try with_reducible exact True.intro)))
 refine zaj (ι:=Nat×Sgn) [1,4,8,9,10] (fun zz=>[(10,.n zz.1)]) (fun zz=>[(1,.cells zz.2.c true)]) (fun zz=>zz.1≤p.signals.length∧(sigG n zz.2 (p.signals.drop zz.1)=sig p n)) (fun zz=>p.signals.length-zz.1) (0,(⟨0,0,0⟩:Sgn)) ⟨Nat.zero_le _,(by first|rfl|assumption|omega|(simp;done)|(simp;omega)|grind)⟩ (by (try dsimp only);(refine no_implicit_lambda% (st ?_);try with_reducible exact True.intro)<;>first|omega|(simp;done)) (by (try dsimp only);(refine no_implicit_lambda% (st ?_);try with_reducible exact True.intro)<;>first|omega|(simp;done)) ?_;rintro ⟨k,o⟩ ⟨hk,hg⟩;(try dsimp only at hk hg ⊢);rcases Nat.lt_or_ge k p.signals.length with hlt|hge
 ·rw[zao hlt]at hg
  rw[sigG]at hg
  repeat' (first|refine zab [0,1,2,4,6,8,9,10,11,17] fun K hK=>?_|refine AWp.block ?_|(refine hK.go ?_;clear hK K)|refine Cont.go (by assumption) ?_|(refine cnd2 rfl (fun h=>?_) (fun h=>?_)<;>(try first|exact h.elim|obtain rfl:(_:Bool)=true:=h|obtain rfl:(_:Bool)=false:=h)<;>first|(exfalso;omega)|skip)|((first|refine AWp.reg hE hM ?_|refine AWp.regd hE hM ?_|refine AWp.ret ?_|refine AWp.skip ?_|refine AWp.exit ?_|(refine pk2 (fun h=>?_) (fun h=>?_)<;>(try first|exact h.elim|obtain rfl:(_:Bool)=true:=h|obtain rfl:(_:Bool)=false:=h))|refine zac (fun h=>?_) ?_|(refine hQ _ _ _ rfl ?_;clear hQ hR hE hM)|(refine hR _ _ (hQ _ _ _ rfl ?_);clear hQ hR hE hM)|(refine zaf ?_ ?_;focus first|omega|(refine zad ?_;(refine no_implicit_lambda% (st ?_);try with_reducible exact True.intro);done)))<;>try (refine no_implicit_lambda% (st ?_);try with_reducible exact True.intro)))
  ·rw[if_pos (by assumption)]at hg
   refine ⟨(k+1,nth p.signals k),by (try dsimp only);omega,⟨by (try dsimp only);omega,hg⟩, ?_⟩;(try dsimp only);(first|omega|(simp;done)|(simp;omega)|((refine no_implicit_lambda% (st ?_);try with_reducible exact True.intro);done)|(simp[List.map_set, *];done)|(simp[List.map_set, *];rfl)|((refine no_implicit_lambda% (st ?_);try with_reducible exact True.intro);simp[List.map_set, *];done)|((try (refine no_implicit_lambda% (st ?_);try with_reducible exact True.intro));(repeat' refine And.intro ?_ ?_)<;>first|omega|rfl|(simp;done)|(simp;omega)|(simp;rfl)|(simp[List.map_set, *];done)|(simp[List.map_set, *];rfl)))
  ·rw[if_neg (by assumption)]at hg
   refine ⟨(k+1,o),by (try dsimp only);omega,⟨by (try dsimp only);omega,hg⟩, ?_⟩;(try dsimp only);(first|omega|(simp;done)|(simp;omega)|((refine no_implicit_lambda% (st ?_);try with_reducible exact True.intro);done)|(simp[List.map_set, *];done)|(simp[List.map_set, *];rfl)|((refine no_implicit_lambda% (st ?_);try with_reducible exact True.intro);simp[List.map_set, *];done)|((try (refine no_implicit_lambda% (st ?_);try with_reducible exact True.intro));(repeat' refine And.intro ?_ ?_)<;>first|omega|rfl|(simp;done)|(simp;omega)|(simp;rfl)|(simp[List.map_set, *];done)|(simp[List.map_set, *];rfl)))
 ·rw[List.drop_eq_nil_of_le hge,sigG]at hg
  subst hg
  repeat' (first|refine zab [0,1,2,4,6,8,9,10,11,17] fun K hK=>?_|refine AWp.block ?_|(refine hK.go ?_;clear hK K)|refine Cont.go (by assumption) ?_|(refine cnd2 rfl (fun h=>?_) (fun h=>?_)<;>(try first|exact h.elim|obtain rfl:(_:Bool)=true:=h|obtain rfl:(_:Bool)=false:=h)<;>first|(exfalso;omega)|skip)|((first|refine AWp.reg hE hM ?_|refine AWp.regd hE hM ?_|refine AWp.ret ?_|refine AWp.skip ?_|refine AWp.exit ?_|(refine pk2 (fun h=>?_) (fun h=>?_)<;>(try first|exact h.elim|obtain rfl:(_:Bool)=true:=h|obtain rfl:(_:Bool)=false:=h))|refine zac (fun h=>?_) ?_|(refine hQ _ _ _ rfl ?_;clear hQ hR hE hM)|(refine hR _ _ (hQ _ _ _ rfl ?_);clear hQ hR hE hM)|(refine zaf ?_ ?_;focus first|omega|(refine zad ?_;(refine no_implicit_lambda% (st ?_);try with_reducible exact True.intro);done)))<;>try (refine no_implicit_lambda% (st ?_);try with_reducible exact True.intro)))
theorem grow_po0 (hH:HasAll P inv) (n:Int) (h:0<n) (h9:n≤1000000000):PO P inv 129 [.s0 1,.n n] (.sm 0 n.toNat 0 0 1) [(0,.cells (List.replicate n.toNat (.n 0)) true)]:=by
 refine zbF (F:=cd129) (hH.has _ _ rfl) (Nat.le_of_ble_eq_true rfl) fun w0 M Q hM hQ hR=>?_;have hE:=hH.callable;dsimp only[cd129,qm,ql,qf,qi,qb,qc,qp,qv,qN,qT,qF,qt]at hQ ⊢
 repeat' (first|refine zab [0,1,4,6,16,22] fun K hK=>?_|refine AWp.block ?_|(refine hK.go ?_;clear hK K)|refine Cont.go (by assumption) ?_|(refine cnd2 rfl (fun h=>?_) (fun h=>?_)<;>(try first|exact h.elim|obtain rfl:(_:Bool)=true:=h|obtain rfl:(_:Bool)=false:=h)<;>first|(exfalso;omega)|skip)|((first|refine AWp.reg hE hM ?_|refine AWp.regd hE hM ?_|refine AWp.ret ?_|refine AWp.skip ?_|refine AWp.exit ?_|(refine pk2 (fun h=>?_) (fun h=>?_)<;>(try first|exact h.elim|obtain rfl:(_:Bool)=true:=h|obtain rfl:(_:Bool)=false:=h))|refine zac (fun h=>?_) ?_|(refine zaf ?_ ?_;focus first|omega|(refine zad ?_;(refine no_implicit_lambda% (st ?_);try with_reducible exact True.intro);done)))<;>try simp -dsimp -implicitDefEqProofs (disch:=omega) only[go_sem,reduceIte,↓reduceIte,Nat.reduceEqDiff,Nat.reduceLT,Nat.reduceLeDiff,Nat.reduceAdd,Nat.reduceSub,Nat.reduceMul,Int.reduceToNat,Int.reduceLT,Int.reduceLE,Int.reduceEq,Int.reduceNeg,Int.reduceNe,reduceCtorEq,Int.sub_zero,Int.sub_self,List.flatten_replicate_singleton,List.length_replicate])|(refine hQ _ _ _ rfl ?_;clear hQ hR hE hM)|(refine hR _ _ (hQ _ _ _ rfl ?_);clear hQ hR hE hM))
 left
 constructor
 ·(refine no_implicit_lambda% (st ?_);try with_reducible exact True.intro)
 ·(refine no_implicit_lambda% (st ?_);try with_reducible exact True.intro)
  simp
  omega
theorem grow_po' (hH:HasAll P inv):PO P inv 129 [.s0 1,.n 0] (.sm 0 0 0 0 1) [(0,.cells [] false)]:=by
 refine zbF (F:=cd129) (hH.has _ _ rfl) (Nat.le_of_ble_eq_true rfl) fun w0 M Q hM hQ hR=>?_;have hE:=hH.callable;dsimp only[cd129,qm,ql,qf,qi,qb,qc,qp,qv,qN,qT,qF,qt]at hQ ⊢
 repeat' (first|refine zab [0,1,4,6,16,22] fun K hK=>?_|refine AWp.block ?_|(refine hK.go ?_;clear hK K)|refine Cont.go (by assumption) ?_|(refine cnd2 rfl (fun h=>?_) (fun h=>?_)<;>(try first|exact h.elim|obtain rfl:(_:Bool)=true:=h|obtain rfl:(_:Bool)=false:=h)<;>first|(exfalso;omega)|skip)|((first|refine AWp.reg hE hM ?_|refine AWp.regd hE hM ?_|refine AWp.ret ?_|refine AWp.skip ?_|refine AWp.exit ?_|(refine pk2 (fun h=>?_) (fun h=>?_)<;>(try first|exact h.elim|obtain rfl:(_:Bool)=true:=h|obtain rfl:(_:Bool)=false:=h))|refine zac (fun h=>?_) ?_|(refine zaf ?_ ?_;focus first|omega|(refine zad ?_;(refine no_implicit_lambda% (st ?_);try with_reducible exact True.intro);done)))<;>try simp -dsimp -implicitDefEqProofs (disch:=omega) only[go_sem,reduceIte,↓reduceIte,Nat.reduceEqDiff,Nat.reduceLT,Nat.reduceLeDiff,Nat.reduceAdd,Nat.reduceSub,Nat.reduceMul,Int.reduceToNat,Int.reduceLT,Int.reduceLE,Int.reduceEq,Int.reduceNeg,Int.reduceNe,reduceCtorEq,Int.sub_zero,Int.sub_self,List.flatten_replicate_singleton,List.length_replicate])|(refine hQ _ _ _ rfl ?_;clear hQ hR hE hM)|(refine hR _ _ (hQ _ _ _ rfl ?_);clear hQ hR hE hM))
 right
 exact ⟨1,rfl,rfl,rfl⟩
theorem grow_po (hH:HasAll P inv) (n:Int) (h:0<n) (h9:n≤1000000000):PO P inv 129 [.s0 1,.n n] (.sm 1 0 0 0 1) [(1,.cells [] true)]:=by
 have:=(grow_po0 hH n h h9).trunc (by rw[show List.replicate n.toNat (AV.n 0)=(List.replicate n.toNat (0:Int)).map AV.n by simp];exact zdT .i64 _) (by simp) (by omega)
 simpa using this
theorem zeS (l:List Int):(l.map zhq).flatten=l.map AV.n:=znC l
def ziu:List (List Int)→Int
 |[]=>0
 |l::r=>l.length+ziu r
theorem zit:∀ L:List (List Int),0≤ziu L
 |[]=>Int.le_refl _
 |l::r=>by have:=zit r;simp only[ziu];omega
theorem zjK (hH:HasAll P inv) (L:List (List Int)) (h0:L.length≤1000000) (hL:ziu L≤1000000000):PC P inv 101 [.sl 1 (L.map lst)] (·=.sl 1 (L.flatten.map zhq)):=by
 refine zae (F:=cd101) (hH.has _ _ rfl) (Nat.le_of_ble_eq_true rfl) fun w0 M Q hM hQ hR=>?_;have hE:=hH.callable;dsimp only[cd101,qm,ql,qf,qi,qb,qc,qp,qv,qN,qT,qF,qt]at hQ ⊢
 repeat' (first|refine zab [0,2,3,5,6,8,9,10,11,12,20,25,26,27,28] fun K hK=>?_|refine AWp.block ?_|(refine hK.go ?_;clear hK K)|refine Cont.go (by assumption) ?_|(refine cnd2 rfl (fun h=>?_) (fun h=>?_)<;>(try first|exact h.elim|obtain rfl:(_:Bool)=true:=h|obtain rfl:(_:Bool)=false:=h)<;>first|(exfalso;omega)|skip)|((first|refine AWp.reg hE hM ?_|refine AWp.regd hE hM ?_|refine AWp.ret ?_|refine AWp.skip ?_|refine AWp.exit ?_|(refine pk2 (fun h=>?_) (fun h=>?_)<;>(try first|exact h.elim|obtain rfl:(_:Bool)=true:=h|obtain rfl:(_:Bool)=false:=h))|refine zac (fun h=>?_) ?_|(refine hQ _ _ _ rfl ?_;clear hQ hR hE hM)|(refine hR _ _ (hQ _ _ _ rfl ?_);clear hQ hR hE hM)|(refine zaf ?_ ?_;focus first|omega|(refine zad ?_;(refine no_implicit_lambda% (st ?_);try with_reducible exact True.intro);done)))<;>try (refine no_implicit_lambda% (st ?_);try with_reducible exact True.intro)))
 refine zaj (ι:=Nat×Int) [0,2,3,9,10,11] (fun zz=>[(3,.n zz.2),(11,.n zz.1)]) (fun zz=>[]) (fun zz=>zz.1≤L.length∧(0≤zz.2)∧(zz.2+ziu (L.drop zz.1)=ziu L)) (fun zz=>L.length-zz.1) (0,0) ⟨Nat.zero_le _,(by first|rfl|assumption|omega|(simp;done)|(simp;omega)|grind),(by first|rfl|assumption|omega|(simp;done)|(simp;omega)|grind)⟩ (by (try dsimp only);(refine no_implicit_lambda% (st ?_);try with_reducible exact True.intro)<;>first|omega|(simp;done)) (by (try dsimp only);(refine no_implicit_lambda% (st ?_);try with_reducible exact True.intro)<;>first|omega|(simp;done)) ?_;rintro ⟨k,t⟩ ⟨hk,ht,hg⟩;(try dsimp only at hk ht hg ⊢);rcases Nat.lt_or_ge k L.length with hlt|hge
 ·rw[zao hlt]at hg
  rw[ziu]at hg
  have h1:=zit (L.drop (k+1))
  repeat' (first|refine zab [0,2,3,5,6,8,9,10,11,12,20,25,26,27,28] fun K hK=>?_|refine AWp.block ?_|(refine hK.go ?_;clear hK K)|refine Cont.go (by assumption) ?_|(refine cnd2 rfl (fun h=>?_) (fun h=>?_)<;>(try first|exact h.elim|obtain rfl:(_:Bool)=true:=h|obtain rfl:(_:Bool)=false:=h)<;>first|(exfalso;omega)|skip)|((first|refine AWp.reg hE hM ?_|refine AWp.regd hE hM ?_|refine AWp.ret ?_|refine AWp.skip ?_|refine AWp.exit ?_|(refine pk2 (fun h=>?_) (fun h=>?_)<;>(try first|exact h.elim|obtain rfl:(_:Bool)=true:=h|obtain rfl:(_:Bool)=false:=h))|refine zac (fun h=>?_) ?_|(refine hQ _ _ _ rfl ?_;clear hQ hR hE hM)|(refine hR _ _ (hQ _ _ _ rfl ?_);clear hQ hR hE hM)|(refine zaf ?_ ?_;focus first|omega|(refine zad ?_;(refine no_implicit_lambda% (st ?_);try with_reducible exact True.intro);done)))<;>try simp -dsimp -implicitDefEqProofs (disch:=omega) only[go_sem,reduceIte,↓reduceIte,Nat.reduceEqDiff,Nat.reduceLT,Nat.reduceLeDiff,Nat.reduceAdd,Nat.reduceSub,Nat.reduceMul,Int.reduceToNat,Int.reduceLT,Int.reduceLE,Int.reduceEq,Int.reduceNeg,Int.reduceNe,reduceCtorEq,lst]))
  refine ⟨(k+1,t+(nth L k).length),by (try dsimp only);omega,⟨by (try dsimp only);omega,by (try dsimp only);omega,by (try dsimp only);omega⟩, ?_⟩;(try dsimp only);(first|omega|(simp;done)|(simp;omega)|((refine no_implicit_lambda% (st ?_);try with_reducible exact True.intro);done)|(simp[List.map_set, *];done)|(simp[List.map_set, *];rfl)|((refine no_implicit_lambda% (st ?_);try with_reducible exact True.intro);simp[List.map_set, *];done)|((try (refine no_implicit_lambda% (st ?_);try with_reducible exact True.intro));(repeat' refine And.intro ?_ ?_)<;>first|omega|rfl|(simp;done)|(simp;omega)|(simp;rfl)|(simp[List.map_set, *];done)|(simp[List.map_set, *];rfl)))
 ·rw[List.drop_eq_nil_of_le hge,ziu,Int.add_zero]at hg
  subst hg
  rcases Int.lt_or_le 0 (ziu L) with hp|hz
  ·repeat' (first|refine zab [0,2,3,5,6,8,9,10,11,12,20,25,26,27,28] fun K hK=>?_|refine AWp.block ?_|(refine hK.go ?_;clear hK K)|refine Cont.go (by assumption) ?_|(refine cnd2 rfl (fun h=>?_) (fun h=>?_)<;>(try first|exact h.elim|obtain rfl:(_:Bool)=true:=h|obtain rfl:(_:Bool)=false:=h)<;>first|(exfalso;omega)|skip)|((first|refine AWp.reg hE hM ?_|refine AWp.regd hE hM ?_|refine AWp.ret ?_|refine AWp.skip ?_|refine AWp.exit ?_|(refine pk2 (fun h=>?_) (fun h=>?_)<;>(try first|exact h.elim|obtain rfl:(_:Bool)=true:=h|obtain rfl:(_:Bool)=false:=h))|refine zac (fun h=>?_) ?_|refine PO.callK hM ( grow_po hH (ziu L) hp hL) ?_|(refine hQ _ _ _ rfl ?_;clear hQ hR hE hM)|(refine hR _ _ (hQ _ _ _ rfl ?_);clear hQ hR hE hM)|(refine zaf ?_ ?_;focus first|omega|(refine zad ?_;(refine no_implicit_lambda% (st ?_);try with_reducible exact True.intro);done)))<;>try (refine no_implicit_lambda% (st ?_);try with_reducible exact True.intro)))
   refine zaj (ι:=Nat×(List Int)×Bool) [2,6,25,26,27] (fun zz=>[(6,.sm 1 zz.2.1.length 0 zz.2.1.length 1),(27,.n zz.1)]) (fun zz=>[(1,.cells (zz.2.1.map AV.n) zz.2.2)]) (fun zz=>zz.1≤L.length∧(zz.2.1++(L.drop zz.1).flatten=L.flatten)∧((zz.2.1.length:Int)+ziu (L.drop zz.1)=ziu L)) (fun zz=>L.length-zz.1) (0,[],true) ⟨Nat.zero_le _,(by first|rfl|assumption|omega|(simp;done)|(simp;omega)|grind),(by first|rfl|assumption|omega|(simp;done)|(simp;omega)|grind)⟩ (by (try dsimp only);(refine no_implicit_lambda% (st ?_);try with_reducible exact True.intro)<;>first|omega|(simp;done)) (by (try dsimp only);(refine no_implicit_lambda% (st ?_);try with_reducible exact True.intro)<;>first|omega|(simp;done)) ?_;rintro ⟨k,acc,b⟩ ⟨hk,hg,hx⟩;(try dsimp only at hk hg hx ⊢);rcases Nat.lt_or_ge k L.length with hlt|hge
   ·rw[zao hlt,ziu]at hx
    rw[zao hlt,List.flatten_cons,←List.append_assoc]at hg
    have h1:=zit (L.drop (k+1))
    repeat' (first|refine zab [0,2,3,5,6,8,9,10,11,12,20,25,26,27,28] fun K hK=>?_|refine AWp.block ?_|(refine hK.go ?_;clear hK K)|refine Cont.go (by assumption) ?_|(refine cnd2 rfl (fun h=>?_) (fun h=>?_)<;>(try first|exact h.elim|obtain rfl:(_:Bool)=true:=h|obtain rfl:(_:Bool)=false:=h)<;>first|(exfalso;omega)|skip)|((first|refine AWp.reg hE hM ?_|refine AWp.regd hE hM ?_|refine AWp.ret ?_|refine AWp.skip ?_|refine AWp.exit ?_|(refine pk2 (fun h=>?_) (fun h=>?_)<;>(try first|exact h.elim|obtain rfl:(_:Bool)=true:=h|obtain rfl:(_:Bool)=false:=h))|refine zac (fun h=>?_) ?_|(refine hQ _ _ _ rfl ?_;clear hQ hR hE hM)|(refine hR _ _ (hQ _ _ _ rfl ?_);clear hQ hR hE hM)|(refine zaf ?_ ?_;focus first|omega|(refine zad ?_;(refine no_implicit_lambda% (st ?_);try with_reducible exact True.intro);done)))<;>try simp -dsimp -implicitDefEqProofs (disch:=omega) only[go_sem,reduceIte,↓reduceIte,Nat.reduceEqDiff,Nat.reduceLT,Nat.reduceLeDiff,Nat.reduceAdd,Nat.reduceSub,Nat.reduceMul,Int.reduceToNat,Int.reduceLT,Int.reduceLE,Int.reduceEq,Int.reduceNeg,Int.reduceNe,reduceCtorEq,lst,zeS,List.length_map,List.length_append]))
    refine ⟨(k+1,acc++nth L k,(b||decide (0<(nth L k).length))),by (try dsimp only);omega,⟨by (try dsimp only);omega,hg,by (try dsimp only);simp;omega⟩, ?_⟩;(try dsimp only);(first|omega|(simp;done)|(simp;omega)|((refine no_implicit_lambda% (st ?_);try with_reducible exact True.intro);done)|(simp[List.map_set, *];done)|(simp[List.map_set, *];rfl)|((refine no_implicit_lambda% (st ?_);try with_reducible exact True.intro);simp[List.map_set, *];done)|((try (refine no_implicit_lambda% (st ?_);try with_reducible exact True.intro));(repeat' refine And.intro ?_ ?_)<;>first|omega|rfl|(simp;done)|(simp;omega)|(simp;rfl)|(simp[List.map_set, *];done)|(simp[List.map_set, *];rfl)))
   ·rw[List.drop_eq_nil_of_le hge,List.flatten_nil,List.append_nil]at hg
    subst hg
    repeat' (first|refine zab [0,2,3,5,6,8,9,10,11,12,20,25,26,27,28] fun K hK=>?_|refine AWp.block ?_|(refine hK.go ?_;clear hK K)|refine Cont.go (by assumption) ?_|(refine cnd2 rfl (fun h=>?_) (fun h=>?_)<;>(try first|exact h.elim|obtain rfl:(_:Bool)=true:=h|obtain rfl:(_:Bool)=false:=h)<;>first|(exfalso;omega)|skip)|((first|refine AWp.reg hE hM ?_|refine AWp.regd hE hM ?_|refine AWp.ret ?_|refine AWp.skip ?_|refine AWp.exit ?_|(refine pk2 (fun h=>?_) (fun h=>?_)<;>(try first|exact h.elim|obtain rfl:(_:Bool)=true:=h|obtain rfl:(_:Bool)=false:=h))|refine zac (fun h=>?_) ?_|(refine hQ _ _ _ rfl ?_;clear hQ hR hE hM)|(refine hR _ _ (hQ _ _ _ rfl ?_);clear hQ hR hE hM)|(refine zaf ?_ ?_;focus first|omega|(refine zad ?_;(refine no_implicit_lambda% (st ?_);try with_reducible exact True.intro);done)))<;>try simp -dsimp -implicitDefEqProofs (disch:=omega) only[go_sem,reduceIte,↓reduceIte,Nat.reduceEqDiff,Nat.reduceLT,Nat.reduceLeDiff,Nat.reduceAdd,Nat.reduceSub,Nat.reduceMul,Int.reduceToNat,Int.reduceLT,Int.reduceLE,Int.reduceEq,Int.reduceNeg,Int.reduceNe,reduceCtorEq,List.length_map]))
    rw[show L.flatten.map (AV.i .i64)=(L.flatten.map zhq).flatten from (zeS _).symm,zb8]
  ·have hz0:ziu L=0:=by omega
   rw[hz0]
   repeat' (first|refine zab [0,2,3,5,6,8,9,10,11,12,20,25,26,27,28] fun K hK=>?_|refine AWp.block ?_|(refine hK.go ?_;clear hK K)|refine Cont.go (by assumption) ?_|(refine cnd2 rfl (fun h=>?_) (fun h=>?_)<;>(try first|exact h.elim|obtain rfl:(_:Bool)=true:=h|obtain rfl:(_:Bool)=false:=h)<;>first|(exfalso;omega)|skip)|((first|refine AWp.reg hE hM ?_|refine AWp.regd hE hM ?_|refine AWp.ret ?_|refine AWp.skip ?_|refine AWp.exit ?_|(refine pk2 (fun h=>?_) (fun h=>?_)<;>(try first|exact h.elim|obtain rfl:(_:Bool)=true:=h|obtain rfl:(_:Bool)=false:=h))|refine zac (fun h=>?_) ?_|refine PO.callK hM ( grow_po' hH) ?_|(refine hQ _ _ _ rfl ?_;clear hQ hR hE hM)|(refine hR _ _ (hQ _ _ _ rfl ?_);clear hQ hR hE hM)|(refine zaf ?_ ?_;focus first|omega|(refine zad ?_;(refine no_implicit_lambda% (st ?_);try with_reducible exact True.intro);done)))<;>try (refine no_implicit_lambda% (st ?_);try with_reducible exact True.intro)))
   refine AWp.swap [(0,1)] ⟨⟨by omega,by omega⟩,trivial⟩ ?_
   (refine no_implicit_lambda% (st ?_);try with_reducible exact True.intro)
   refine zaj (ι:=Nat×(List Int)×Bool) [2,6,25,26,27] (fun zz=>[(6,.sm 1 zz.2.1.length 0 zz.2.1.length 1),(27,.n zz.1)]) (fun zz=>[(1,.cells (zz.2.1.map AV.n) zz.2.2)]) (fun zz=>zz.1≤L.length∧(zz.2.1++(L.drop zz.1).flatten=L.flatten)∧((zz.2.1.length:Int)+ziu (L.drop zz.1)=ziu L)) (fun zz=>L.length-zz.1) (0,[],false) ⟨Nat.zero_le _,(by first|rfl|assumption|omega|(simp;done)|(simp;omega)|grind),(by first|rfl|assumption|omega|(simp;done)|(simp;omega)|grind)⟩ (by (try dsimp only);(refine no_implicit_lambda% (st ?_);try with_reducible exact True.intro)<;>first|omega|(simp;done)) (by (try dsimp only);(refine no_implicit_lambda% (st ?_);try with_reducible exact True.intro)<;>first|omega|(simp;done)) ?_;rintro ⟨k,acc,b⟩ ⟨hk,hg,hx⟩;(try dsimp only at hk hg hx ⊢);rcases Nat.lt_or_ge k L.length with hlt|hge
   ·rw[zao hlt,ziu]at hx
    rw[zao hlt,List.flatten_cons,←List.append_assoc]at hg
    have h1:=zit (L.drop (k+1))
    repeat' (first|refine zab [0,2,3,5,6,8,9,10,11,12,20,25,26,27,28] fun K hK=>?_|refine AWp.block ?_|(refine hK.go ?_;clear hK K)|refine Cont.go (by assumption) ?_|(refine cnd2 rfl (fun h=>?_) (fun h=>?_)<;>(try first|exact h.elim|obtain rfl:(_:Bool)=true:=h|obtain rfl:(_:Bool)=false:=h)<;>first|(exfalso;omega)|skip)|((first|refine AWp.reg hE hM ?_|refine AWp.regd hE hM ?_|refine AWp.ret ?_|refine AWp.skip ?_|refine AWp.exit ?_|(refine pk2 (fun h=>?_) (fun h=>?_)<;>(try first|exact h.elim|obtain rfl:(_:Bool)=true:=h|obtain rfl:(_:Bool)=false:=h))|refine zac (fun h=>?_) ?_|(refine hQ _ _ _ rfl ?_;clear hQ hR hE hM)|(refine hR _ _ (hQ _ _ _ rfl ?_);clear hQ hR hE hM)|(refine zaf ?_ ?_;focus first|omega|(refine zad ?_;(refine no_implicit_lambda% (st ?_);try with_reducible exact True.intro);done)))<;>try simp -dsimp -implicitDefEqProofs (disch:=omega) only[go_sem,reduceIte,↓reduceIte,Nat.reduceEqDiff,Nat.reduceLT,Nat.reduceLeDiff,Nat.reduceAdd,Nat.reduceSub,Nat.reduceMul,Int.reduceToNat,Int.reduceLT,Int.reduceLE,Int.reduceEq,Int.reduceNeg,Int.reduceNe,reduceCtorEq,lst,zeS,List.length_map,List.length_append]))
    refine ⟨(k+1,acc++nth L k,(b||decide (0<(nth L k).length))),by (try dsimp only);omega,⟨by (try dsimp only);omega,hg,by (try dsimp only);simp;omega⟩, ?_⟩;(try dsimp only);(first|omega|(simp;done)|(simp;omega)|((refine no_implicit_lambda% (st ?_);try with_reducible exact True.intro);done)|(simp[List.map_set, *];done)|(simp[List.map_set, *];rfl)|((refine no_implicit_lambda% (st ?_);try with_reducible exact True.intro);simp[List.map_set, *];done)|((try (refine no_implicit_lambda% (st ?_);try with_reducible exact True.intro));(repeat' refine And.intro ?_ ?_)<;>first|omega|rfl|(simp;done)|(simp;omega)|(simp;rfl)|(simp[List.map_set, *];done)|(simp[List.map_set, *];rfl)))
   ·rw[List.drop_eq_nil_of_le hge,List.flatten_nil,List.append_nil]at hg
    subst hg
    repeat' (first|refine zab [0,2,3,5,6,8,9,10,11,12,20,25,26,27,28] fun K hK=>?_|refine AWp.block ?_|(refine hK.go ?_;clear hK K)|refine Cont.go (by assumption) ?_|(refine cnd2 rfl (fun h=>?_) (fun h=>?_)<;>(try first|exact h.elim|obtain rfl:(_:Bool)=true:=h|obtain rfl:(_:Bool)=false:=h)<;>first|(exfalso;omega)|skip)|((first|refine AWp.reg hE hM ?_|refine AWp.regd hE hM ?_|refine AWp.ret ?_|refine AWp.skip ?_|refine AWp.exit ?_|(refine pk2 (fun h=>?_) (fun h=>?_)<;>(try first|exact h.elim|obtain rfl:(_:Bool)=true:=h|obtain rfl:(_:Bool)=false:=h))|refine zac (fun h=>?_) ?_|(refine hQ _ _ _ rfl ?_;clear hQ hR hE hM)|(refine hR _ _ (hQ _ _ _ rfl ?_);clear hQ hR hE hM)|(refine zaf ?_ ?_;focus first|omega|(refine zad ?_;(refine no_implicit_lambda% (st ?_);try with_reducible exact True.intro);done)))<;>try simp -dsimp -implicitDefEqProofs (disch:=omega) only[go_sem,reduceIte,↓reduceIte,Nat.reduceEqDiff,Nat.reduceLT,Nat.reduceLeDiff,Nat.reduceAdd,Nat.reduceSub,Nat.reduceMul,Int.reduceToNat,Int.reduceLT,Int.reduceLE,Int.reduceEq,Int.reduceNeg,Int.reduceNe,reduceCtorEq,List.length_map]))
    rw[show L.flatten.map (AV.i .i64)=(L.flatten.map zhq).flatten from (zeS _).symm,zb8]
end Go.Lev
namespace Go.Lev
open Go.Eng
set_option maxRecDepth 10000
set_option maxHeartbeats 4000000
variable {P:Program} {inv:Nat→Option Nat} {w0:World} {M:Nat→Prop}
structure Wk where
 inn:Join
 asks:List AskR
 outs:List Join
 lost:Bool
def Wk.c (p:Pln) (w:Wk):List AV:=[.n p.version,.n p.parent,.sl 3 (p.sections.map Section.c),.sl 2 (p.points.map Pnt.c),.sl 3 (p.signals.map Sgn.c),.sl 7 (p.routes.map Rte.c),.n w.inn.to,.n w.inn.ed,.sm 20 (w.asks.length*3) 0 w.asks.length 3,.sm 21 (w.outs.length*2) 0 w.outs.length 2,.b w.lost]
attribute [go_sem] Wk.c
def zi3 (p:Pln) (w:Wk) (id:Int):Option Section:=if w.inn.to=id then p.sections.find? fun s=>decide (s.id=id) else none
def zme (pt lie pos:Int) (l:List AskR):List AskR:=if 0<pt∧0<lie then l++[⟨pt,lie,pos⟩] else l
def zbs (s:Section) (frm:Int) (right:Int→Join→Bool):Nat→List Join→Option (Nat×Join×Int)
 |_,[]=>none
 |e,j::r=>if (zbd s frm e).2=0∧right e j=true then some (e,j,(zbd s frm e).1) else zbs s frm right (e+1) r
def zaJ (p:Pln) (w:Wk) (id pos:Int) (right:Int→Join→Bool):Wk :=
 if w.lost=true then w else match zi3 p w id with
 |none=>{ w with lost:=true }
 |some s=>match zbs s w.inn.ed right 0 s.ends with
  |none=>{ w with lost:=true }
  |some (e,j,lie)=>⟨j,zme s.pt lie pos w.asks,w.outs++[⟨id,e⟩],false⟩
def zeu (p:Pln) (w:Wk) (id pos:Int):Wk :=
 match zi3 p w id with
 |none=>{ w with lost:=true }
 |some s=>if w.lost=false∧0<w.inn.ed then { w with asks:=zme s.pt w.inn.ed pos w.asks } else w
theorem zf0 (hH:HasAll P inv) (n:Int) (x:Section):PC P inv 140 ([.agg x.c]++[.ip 1 [[.n n]] 0 0]) (·=.b (decide (x.id=n))):=by
 refine zae (F:=cd140) (hH.has _ _ rfl) (Nat.le_of_ble_eq_true rfl) fun w0 M Q hM hQ hR=>?_;have hE:=hH.callable;dsimp only[cd140,qm,ql,qf,qi,qb,qc,qp,qv,qN,qT,qF,qt]at hQ ⊢
 repeat' (first|refine zab [0,1,2,3] fun K hK=>?_|refine AWp.block ?_|(refine hK.go ?_;clear hK K)|refine Cont.go (by assumption) ?_|(refine cnd2 rfl (fun h=>?_) (fun h=>?_)<;>(try first|exact h.elim|obtain rfl:(_:Bool)=true:=h|obtain rfl:(_:Bool)=false:=h)<;>first|(exfalso;omega)|skip)|((first|refine AWp.reg hE hM ?_|refine AWp.regd hE hM ?_|refine AWp.ret ?_|refine AWp.skip ?_|refine AWp.exit ?_|(refine pk2 (fun h=>?_) (fun h=>?_)<;>(try first|exact h.elim|obtain rfl:(_:Bool)=true:=h|obtain rfl:(_:Bool)=false:=h))|refine zac (fun h=>?_) ?_|(refine hQ _ _ _ rfl ?_;clear hQ hR hE hM)|(refine hR _ _ (hQ _ _ _ rfl ?_);clear hQ hR hE hM)|(refine zaf ?_ ?_;focus first|omega|(refine zad ?_;(refine no_implicit_lambda% (st ?_);try with_reducible exact True.intro);done)))<;>try (refine no_implicit_lambda% (st ?_);try with_reducible exact True.intro)))
theorem zmW (hH:HasAll P inv) (e:Int) (j:Join):PC P inv 103 [.n e,.agg j.c] (·=.b (decide (j=⟨0,0⟩))):=by
 refine zae (F:=cd103) (hH.has _ _ rfl) (Nat.le_of_ble_eq_true rfl) fun w0 M Q hM hQ hR=>?_;have hE:=hH.callable;dsimp only[cd103,qm,ql,qf,qi,qb,qc,qp,qv,qN,qT,qF,qt]at hQ ⊢
 repeat' (first|refine zab [1,3,4] fun K hK=>?_|refine AWp.block ?_|(refine hK.go ?_;clear hK K)|refine Cont.go (by assumption) ?_|(refine cnd2 rfl (fun h=>?_) (fun h=>?_)<;>(try first|exact h.elim|obtain rfl:(_:Bool)=true:=h|obtain rfl:(_:Bool)=false:=h)<;>first|(exfalso;omega)|skip)|((first|refine AWp.reg hE hM ?_|refine AWp.regd hE hM ?_|refine AWp.ret ?_|refine AWp.skip ?_|refine AWp.exit ?_|(refine pk2 (fun h=>?_) (fun h=>?_)<;>(try first|exact h.elim|obtain rfl:(_:Bool)=true:=h|obtain rfl:(_:Bool)=false:=h))|refine zac (fun h=>?_) ?_|(refine hQ _ _ _ rfl ?_;clear hQ hR hE hM)|(refine hR _ _ (hQ _ _ _ rfl ?_);clear hQ hR hE hM)|(refine zaf ?_ ?_;focus first|omega|(refine zad ?_;(refine no_implicit_lambda% (st ?_);try with_reducible exact True.intro);done)))<;>try (refine no_implicit_lambda% (st ?_);try with_reducible exact True.intro)))
 simp[znt]
theorem zmV (hH:HasAll P inv) (e:Int) (j:Join) (s:Int) (x:Sgn):PC P inv 104 ([.n e,.agg j.c]++[.ip 1 [[.n s]] 0 0,.ip 3 [x.c] 0 0]) (·=.b (decide (s=x.sec)&&decide (e=x.ed))):=by
 refine zae (F:=cd104) (hH.has _ _ rfl) (Nat.le_of_ble_eq_true rfl) fun w0 M Q hM hQ hR=>?_;have hE:=hH.callable;dsimp only[cd104,qm,ql,qf,qi,qb,qc,qp,qv,qN,qT,qF,qt]at hQ ⊢
 repeat' (first|refine zab [0,1,2,3,6] fun K hK=>?_|refine AWp.block ?_|(refine hK.go ?_;clear hK K)|refine Cont.go (by assumption) ?_|(refine cnd2 rfl (fun h=>?_) (fun h=>?_)<;>(try first|exact h.elim|obtain rfl:(_:Bool)=true:=h|obtain rfl:(_:Bool)=false:=h)<;>first|(exfalso;omega)|skip)|((first|refine AWp.reg hE hM ?_|refine AWp.regd hE hM ?_|refine AWp.ret ?_|refine AWp.skip ?_|refine AWp.exit ?_|(refine pk2 (fun h=>?_) (fun h=>?_)<;>(try first|exact h.elim|obtain rfl:(_:Bool)=true:=h|obtain rfl:(_:Bool)=false:=h))|refine zac (fun h=>?_) ?_|(refine hQ _ _ _ rfl ?_;clear hQ hR hE hM)|(refine hR _ _ (hQ _ _ _ rfl ?_);clear hQ hR hE hM)|(refine zaf ?_ ?_;focus first|omega|(refine zad ?_;(refine no_implicit_lambda% (st ?_);try with_reducible exact True.intro);done)))<;>try (refine no_implicit_lambda% (st ?_);try with_reducible exact True.intro)))
 all_goals simp[*]
theorem zmU (hH:HasAll P inv) (e:Int) (j:Join) (all:List Int) (i:Nat) (hi:i+1<all.length) (ha:all.length≤1000000000):PC P inv 106 ([.n e,.agg j.c]++[.ip 1 [[.sl 1 (all.map zhq)]] 0 0,.ip 1 [[.n i]] 0 0]) (·=.b (decide (j.to=nth all (i+1)))):=by
 refine zae (F:=cd106) (hH.has _ _ rfl) (Nat.le_of_ble_eq_true rfl) fun w0 M Q hM hQ hR=>?_;have hE:=hH.callable;dsimp only[cd106,qm,ql,qf,qi,qb,qc,qp,qv,qN,qT,qF,qt]at hQ ⊢
 repeat' (first|refine zab [1,2,3,5,6] fun K hK=>?_|refine AWp.block ?_|(refine hK.go ?_;clear hK K)|refine Cont.go (by assumption) ?_|(refine cnd2 rfl (fun h=>?_) (fun h=>?_)<;>(try first|exact h.elim|obtain rfl:(_:Bool)=true:=h|obtain rfl:(_:Bool)=false:=h)<;>first|(exfalso;omega)|skip)|((first|refine AWp.reg hE hM ?_|refine AWp.regd hE hM ?_|refine AWp.ret ?_|refine AWp.skip ?_|refine AWp.exit ?_|(refine pk2 (fun h=>?_) (fun h=>?_)<;>(try first|exact h.elim|obtain rfl:(_:Bool)=true:=h|obtain rfl:(_:Bool)=false:=h))|refine zac (fun h=>?_) ?_|(refine hQ _ _ _ rfl ?_;clear hQ hR hE hM)|(refine hR _ _ (hQ _ _ _ rfl ?_);clear hQ hR hE hM)|(refine zaf ?_ ?_;focus first|omega|(refine zad ?_;(refine no_implicit_lambda% (st ?_);try with_reducible exact True.intro);done)))<;>try (refine no_implicit_lambda% (st ?_);try with_reducible exact True.intro)))
 rw[show ((i:Int)+1).toNat=i+1 by omega]
def stW (p:Pln) (r:Rte) (x y:Sgn) (w:Wk) (all:List Int) (i s:Int) (ba bo:Bool):List (Nat×AO):=[(1,.cells r.c true),(2,.cells [.s0 1,.s0 1,.s0 3,.n 0] true),(3,.cells x.c true),(4,.cells y.c true),(5,.cells (w.c p) true),(6,.cells [.sl 1 (all.map zhq)] true),(20,.cells (w.asks.map AskR.c).flatten ba),(21,.cells (w.outs.map Join.c).flatten bo),(22,.cells [.n i] true),(23,.cells [.n s] true)]
theorem stay_ac (hH:HasAll P inv) (hM:∀ b,M b→b<w0.heap.size) (p:Pln) (hp:Sm p) (r:Rte) (x y:Sgn) (w:Wk) (all:List Int) (i s:Int) (ba bo:Bool) (hw:w.asks.length≤1000000) :
  AC P inv w0 M 30 105 [.ptr 5 11 0,.n s,.n i] (stW p r x y w all i s ba bo) fun r0 σ'=>r0=.tup []∧σ'=stW p r x y (zeu p w s i) all i s (ba||decide (w.asks.length<(zeu p w s i).asks.length)) bo:=by
 have hs:=zbR (fun t:Section=>decide (t.id=s)) p.sections 0
 have c0:=zgS hH p.sections (fun t _=>zf0 hH s t) (Nat.le_trans hp.sec (by omega))
 have hl:=hp.sec
 obtain ⟨inn,asks,outs,lost⟩:=w
 dsimp only at hw
 generalize hW:zeu p ⟨inn,asks,outs,lost⟩ s i=W
 unfold zeu zi3 zme at hW
 dsimp only at hW
 rcases hs with ⟨h1,h2⟩|⟨k,hk,h1,h2⟩
 ·rw[h1]at c0
  rw[h2,ite_self]at hW
  subst hW
  refine zaV (F:=cd105) (hH.has _ _ rfl) rfl (Nat.le_of_ble_eq_true rfl) fun Q hQ hR=>?_;have hE:=hH.callable;dsimp only[cd105,qm,ql,qf,qi,qb,qc,qp,qv,qN,qT,qF,qt]at hQ ⊢
  skip
  unfold stW
  (refine no_implicit_lambda% (st ?_);try with_reducible exact True.intro)
  repeat' (first|refine zab [0,1,2,3,4,5,6,13,22,23] fun K hK=>?_|refine AWp.block ?_|(refine hK.go ?_;clear hK K)|refine Cont.go (by assumption) ?_|(refine cnd2 rfl (fun h=>?_) (fun h=>?_)<;>(try first|exact h.elim|obtain rfl:(_:Bool)=true:=h|obtain rfl:(_:Bool)=false:=h)<;>first|(exfalso;omega)|skip)|((first|refine AWp.reg hE hM ?_|refine AWp.regd hE hM ?_|refine AWp.ret ?_|refine AWp.skip ?_|refine AWp.exit ?_|(refine pk2 (fun h=>?_) (fun h=>?_)<;>(try first|exact h.elim|obtain rfl:(_:Bool)=true:=h|obtain rfl:(_:Bool)=false:=h))|refine zac (fun h=>?_) ?_|(refine AC.callK 30 (by omega) (by first|omega|((refine no_implicit_lambda% (st ?_);try with_reducible exact True.intro);done)|((refine no_implicit_lambda% (st ?_);try with_reducible exact True.intro);omega)) (zaw (F:=cd130) (hH.has _ _ rfl) (Nat.le_of_ble_eq_true rfl) fun Q hQ hR=>?_);dsimp only[cd130,qm,ql,qf,qi,qb,qc,qp,qv,qN,qT,qF,qt]at hQ ⊢)|(refine AC.callK 40 (by omega) (by first|omega|((refine no_implicit_lambda% (st ?_);try with_reducible exact True.intro);done)|((refine no_implicit_lambda% (st ?_);try with_reducible exact True.intro);omega)) (zaw (F:=cd107) (hH.has _ _ rfl) (Nat.le_of_ble_eq_true rfl) fun Q hQ hR=>?_);dsimp only[cd107,qm,ql,qf,qi,qb,qc,qp,qv,qN,qT,qF,qt]at hQ ⊢)|(refine zam hM 4 ( c0) ?_ rfl ?_;(focus ((refine no_implicit_lambda% (st ?_);try with_reducible exact True.intro)<;>fail)))|(refine hQ _ _ _ rfl ?_;clear hQ hR)|(refine hR _ _ (hQ _ _ _ rfl ?_);clear hQ hR)|(refine zaf ?_ ?_;focus first|omega|(refine zad ?_;(refine no_implicit_lambda% (st ?_);try with_reducible exact True.intro);done)))<;>try (refine no_implicit_lambda% (st ?_);try with_reducible exact True.intro)))
  all_goals (refine ⟨[],trivial, ?_⟩;simp only[swS,stW,Wk.c];(refine no_implicit_lambda% (st ?_);try with_reducible exact True.intro);(try simp))
 ·rw[h1,Int.zero_add]at c0
  rw[h2]at hW
  refine zaV (F:=cd105) (hH.has _ _ rfl) rfl (Nat.le_of_ble_eq_true rfl) fun Q hQ hR=>?_;have hE:=hH.callable;dsimp only[cd105,qm,ql,qf,qi,qb,qc,qp,qv,qN,qT,qF,qt]at hQ ⊢
  skip
  unfold stW
  (refine no_implicit_lambda% (st ?_);try with_reducible exact True.intro)
  repeat' (first|refine zab [0,1,2,3,4,5,6,13,22,23] fun K hK=>?_|refine AWp.block ?_|(refine hK.go ?_;clear hK K)|refine Cont.go (by assumption) ?_|(refine cnd2 rfl (fun h=>?_) (fun h=>?_)<;>(try first|exact h.elim|obtain rfl:(_:Bool)=true:=h|obtain rfl:(_:Bool)=false:=h)<;>first|(exfalso;omega)|skip)|((first|refine AWp.reg hE hM ?_|refine AWp.regd hE hM ?_|refine AWp.ret ?_|refine AWp.skip ?_|refine AWp.exit ?_|(refine pk2 (fun h=>?_) (fun h=>?_)<;>(try first|exact h.elim|obtain rfl:(_:Bool)=true:=h|obtain rfl:(_:Bool)=false:=h))|refine zac (fun h=>?_) ?_|(refine AC.callK 30 (by omega) (by first|omega|((refine no_implicit_lambda% (st ?_);try with_reducible exact True.intro);done)|((refine no_implicit_lambda% (st ?_);try with_reducible exact True.intro);omega)) (zaw (F:=cd130) (hH.has _ _ rfl) (Nat.le_of_ble_eq_true rfl) fun Q hQ hR=>?_);dsimp only[cd130,qm,ql,qf,qi,qb,qc,qp,qv,qN,qT,qF,qt]at hQ ⊢)|(refine AC.callK 40 (by omega) (by first|omega|((refine no_implicit_lambda% (st ?_);try with_reducible exact True.intro);done)|((refine no_implicit_lambda% (st ?_);try with_reducible exact True.intro);omega)) (zaw (F:=cd107) (hH.has _ _ rfl) (Nat.le_of_ble_eq_true rfl) fun Q hQ hR=>?_);dsimp only[cd107,qm,ql,qf,qi,qb,qc,qp,qv,qN,qT,qF,qt]at hQ ⊢)|(refine zam hM 4 ( c0) ?_ rfl ?_;(focus ((refine no_implicit_lambda% (st ?_);try with_reducible exact True.intro)<;>fail)))|(refine hQ _ _ _ rfl ?_;clear hQ hR)|(refine hR _ _ (hQ _ _ _ rfl ?_);clear hQ hR)|(refine zaf ?_ ?_;focus first|omega|(refine zad ?_;(refine no_implicit_lambda% (st ?_);try with_reducible exact True.intro);done)))<;>try (refine no_implicit_lambda% (st ?_);try with_reducible exact True.intro)))
  all_goals (simp only[*,true_and,and_true,and_self,if_true,if_false,false_and,and_false,reduceCtorEq,Bool.true_eq_false,Bool.false_eq_true]at hW)
  all_goals (try subst hW)
  all_goals (refine ⟨[],trivial, ?_⟩;simp only[swS,stW,Wk.c];(refine no_implicit_lambda% (st ?_);try with_reducible exact True.intro))
  all_goals simp[AskR.c]
end Go.Lev
