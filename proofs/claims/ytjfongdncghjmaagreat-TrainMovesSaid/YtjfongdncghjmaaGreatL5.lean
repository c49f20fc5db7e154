/-
  Contracts of functions. Conditions: those that each theorem names.
-/
import Derived.Test.YtjfongdncghjmaaGreatL3
import Derived.Test.YtjfongdncghjmaaGreatL4
set_option linter.unusedSimpArgs false
set_option linter.unusedVariables false
set_option linter.unusedSectionVars false
namespace Go.Lev
open Go.Eng
theorem at_self {l:List Section} (hs:zes l) {i:Nat} (hi:i<l.length):zdd (nth l i).id 0 l=i:=by
 rcases zcr (nth l i).id l 0 with ⟨_,h⟩|⟨p,h1,h2,h3⟩
 ·exact absurd rfl (h i hi)
 ·rcases Nat.lt_trichotomy p i with h|h|h
  ·have:=hs p i h hi;omega
  ·omega
  ·have:=hs i p h h1;omega
def Pw (x s:Section):Prop:=x.id<s.id/\(s.pt≠0->x.pt≠s.pt)
def One (s:Section):Prop:=1<=s.id/\s.id<=99/\zbh s=true
def zsu (l:List Section) (s:Section) (e:Nat):Prop :=
 ((nth s.ends e).to=0/\(nth s.ends e).ed=0)\/(¬((nth s.ends e).to=s.id/\(nth s.ends e).ed=(e:Int))/\0<=(nth s.ends e).ed/\∃ s'∈l,s'.id=(nth s.ends e).to/\(nth s.ends e).ed<s'.ends.length/\nth s'.ends (nth s.ends e).ed.toNat=⟨s.id,e⟩)
structure MayP (l:List Section):Prop where
 len:l.length<=16
 one:∀ s∈l,One s
 pw:l.Pairwise Pw
 join:∀ s∈l,∀ e,e<s.ends.length->zsu l s e
theorem zqE (l:List Section):zfq [] l=true↔(∀ s∈l,One s)/\l.Pairwise Pw:=by
 have h2:=zij l l 0 rfl;rw[List.take_zero]at h2;rw[h2];constructor
 ·intro h
  refine ⟨fun s hs=>?_, ?_⟩
  ·obtain ⟨i,hi,rfl⟩:=List.mem_iff_getElem.1 hs
   have:=h i (Nat.zero_le _) hi;rw[<-zay hi];exact ⟨this.1,this.2.1,this.2.2.1⟩
  ·rw[List.pairwise_iff_getElem]
   intro i j hi hj hij;rw[<-zay hi,<-zay hj];exact (h j (Nat.zero_le _) hj).2.2.2 i hij
 ·rintro ⟨h1,h3⟩ j _ hj
  have h4:=h1 _ (zac hj);refine ⟨h4.1,h4.2.1,h4.2.2,fun i hi=>?_⟩
  rw[List.pairwise_iff_getElem]at h3;have:=h3 i j (by omega) hj hi
  rw[<-zay (show i<l.length by omega),<-zay hj]at this
  exact this
theorem zdP {l:List Section} (hs:zes l) {s:Section} (h:s∈l):nth l (zdd s.id 0 l).toNat=s/\0<=zdd s.id 0 l:=by
 obtain ⟨i,hi,rfl⟩:=List.mem_iff_getElem.1 h;rw[<-zay hi,at_self hs hi];simp
theorem zlv {l:List Section} (hs:zes l) (s:Section) (e:Nat):zcm l s e=true↔zsu l s e:=by
 unfold zcm zsu;by_cases h0:(nth s.ends e).to=0/\(nth s.ends e).ed=0
 ·simp[h0]
 ·rw[if_neg h0]
  simp only[h0,false_or];constructor
  ·intro h
   split at h
   ·cases h
   ·rename_i hn
    simp only[not_or]at hn;obtain ⟨h1,h2,h3,h4⟩:=hn;simp only[Bool.and_eq_true,decide_eq_true_eq]at h;rcases zcr (nth s.ends e).to l 0 with ⟨g1,_⟩|⟨p,g1,g2,g3⟩
    ·omega
    ·have ep:(zdd (nth s.ends e).to 0 l).toNat=p:=by rw[g2];omega
     rw[ep]at h h3;refine ⟨h4,by omega,nth l p,zac g1,g3,by omega, ?_⟩
     rw[zrf];exact h
  ·rintro ⟨h4,h2,s',hs',h5,h6,h7⟩
   obtain ⟨g1,g2⟩:=zdP hs hs';rw[h5]at g1 g2;rw[if_neg (by rw[g1];omega),g1,h7]
   simp
theorem zeJ (l:List Section):zbR l=true↔MayP l:=by
 constructor
 ·intro h
  have hs:=zdb h;have h':=h;unfold zbR zmP at h';simp only[Bool.and_eq_true,Bool.not_eq_true',decide_eq_false_iff_not,List.all_eq_true,zqE]at h';obtain ⟨⟨h1,h2,h3⟩,h4⟩:=h';refine ⟨by omega,h2,h3,fun s hsm e he=>?_⟩
  exact (zlv hs s e).1 ((zfT _ _ _).1 (h4 s hsm) e (Nat.zero_le _) (by omega))
 ·rintro ⟨h1,h2,h3,h4⟩
  have hm1:=(zqE l).2 ⟨h2,h3⟩;have hs:=zhS ((zhD l).trans hm1);unfold zbR zmP;simp only[Bool.and_eq_true,Bool.not_eq_true',decide_eq_false_iff_not,List.all_eq_true];exact ⟨⟨by omega,hm1⟩,fun s hsm=>(zfT _ _ _).2 fun e _ he=>(zlv hs s e).2 (h4 s hsm e (by omega))⟩
theorem zlr:∀ (l:List Int) (p:Option Int),zef p l=true↔(∀ x∈l,1<=x/\x<=99)/\l.Pairwise (· < ·)/\∀ y,p=some y->∀ x∈l,y<x
 |[],p=>by simp[zef]
 |x::r,p=>by
  simp only[zef,Bool.and_eq_true,Bool.not_eq_true',decide_eq_false_iff_not,zlr r (some x),List.pairwise_cons,List.mem_cons,forall_eq_or_imp,Option.some.injEq,forall_eq'];constructor
  ·rintro ⟨⟨⟨h1,h2⟩,h3⟩,h4,h5,h6⟩
   refine ⟨⟨by omega,h4⟩,⟨h6,h5⟩,fun y hy=>?_⟩
   subst hy;simp only[decide_eq_false_iff_not]at h3;exact ⟨by omega,fun z hz=>by have:=h6 z hz;omega⟩
  ·rintro ⟨⟨h1,h4⟩,⟨h6,h5⟩,h7⟩
   refine ⟨⟨⟨by omega,by omega⟩, ?_⟩,h4,h5,h6⟩
   cases p with
   |none=>rfl
   |some y=>simp only[decide_eq_false_iff_not];have:=(h7 y rfl).1;omega
theorem zdA (l:List Int) (most:Int):rise l most=true↔(∀ x∈l,1<=x/\x<=99)/\l.Pairwise (· < ·)/\(l.length:Int)<=most:=by
 simp only[rise,Bool.and_eq_true,zlr,decide_eq_true_eq];constructor
 ·rintro ⟨⟨h1,h2,_⟩,h3⟩;exact ⟨h1,h2,h3⟩
 ·rintro ⟨h1,h2,h3⟩;exact ⟨⟨h1,h2,fun y hy=>by cases hy⟩,h3⟩
theorem zfc {l:List Int} (h:l.Pairwise (· < ·)):l.Nodup:=h.imp fun {a b} hab=>by omega
theorem ziJ {α:Type} (f:α->Int):∀ {l:List α},(l.map f).Nodup->∀ {x:α},x∈l->l.find? (fun y=>decide (f y=f x))=some x
 |[],_,x,h=>by cases h
 |y::r,hn,x,h=>by
  simp only[List.map_cons,List.nodup_cons]at hn;simp only[List.find?_cons];rcases List.mem_cons.1 h with rfl|h
  ·simp
  ·have:f y≠f x:=fun e=>hn.1 (e▸List.mem_map_of_mem h)
   simp only[this,decide_false];exact ziJ f hn.2 h
theorem zd6 {α:Type} {f:α->Int} {l:List α} {n:Int} {x:α} (h:l.find? (fun y=>decide (f y=n))=some x):x∈l/\f x=n:=by
 refine ⟨List.mem_of_find?_eq_some h, ?_⟩;have:=List.find?_some h
 simpa using this
theorem zrX {α:Type} {f:α->Int} {l:List α} {n:Int} (h:l.find? (fun y=>decide (f y=n))=none):∀ x∈l,f x≠n:=by
 simpa using h
theorem zdL {α:Type} [Inhabited α] (n:Nat) (x:α) (i:Nat) (h:i<n):nth (List.replicate n x) i=x:=by
 rw[zay (by simpa using h)];simp
theorem zeq:∀ (l:List Section) (a:List Int) (i:Nat),(∀ s∈l,0<=s.id/\s.id.toNat<a.length)->(∀ s∈l,s.id.toNat≠i)->nth (ziQ a l) i=nth a i
 |[],a,i,_,_=>rfl
 |s::r,a,i,h,hi=>by
  rw[ziQ,zeq r _ i (fun t ht=>by have:=h t (by simp[ht]);simpa using this) (fun t ht=>hi t (by simp[ht])),za9 _ _ _ _ (h s (by simp)).2,if_neg (fun e=>hi s (by simp) e.symm)]
theorem zow:∀ (l:List Section) (a:List Int),(∀ s∈l,0<=s.id/\s.id.toNat<a.length)->(l.map Section.id).Nodup->∀ s∈l,nth (ziQ a l) s.id.toNat=s.ends.length
 |[],_,_,_,s,h=>by cases h
 |t::r,a,h,hn,s,hs=>by
  simp only[List.map_cons,List.nodup_cons]at hn;have h':∀ u∈r,0<=u.id/\u.id.toNat<(a.set t.id.toNat t.ends.length).length:=fun u hu=>by have:=h u (by simp[hu]);simpa using this
  rw[ziQ];rcases List.mem_cons.1 hs with rfl|hs
  ·rw[zeq r _ _ h' fun u hu e=>hn.1 ?_,za9 _ _ _ _ (h s (by simp)).2,if_pos rfl]
   have h1:=(h s (by simp)).1
   have h2:=(h u (by simp[hu])).1
   rw[show s.id=u.id by omega]
   exact List.mem_map_of_mem hu
  ·exact zow r _ h' hn.2 s hs
def zbx (p:Pln):Bool:=(!decide (p.version<1)&&(!decide (2147483647<p.version)&&(!decide (p.parent<0)&&(!decide (p.version<=p.parent)&&zbR p.sections))))&&(points p&&(signals p (ends p.sections)&&(rise (p.routes.map Rte.id) 16&&p.routes.all fun r=>zc0 p r (ends p.sections))))
theorem zaP {l:List Section} (h:zbR l=true):SecOK l:=fun s hs=>by
 have h1:=(zeJ l).1 h;obtain ⟨h2,h3,h4⟩:=h1.one s hs;unfold zbh at h4;refine ⟨h2,h3, ?_⟩;split at h4<;>simp at h4<;>omega
theorem zlo {l:List Section} (h:zbR l=true):(l.map Section.id).Pairwise (· < ·):=by
 rw[List.pairwise_map];exact ((zeJ l).1 h).pw.imp fun {a b} hab=>hab.1
theorem ziP {l:List Section} (h:zbR l=true) {s:Section} (hs:s∈l):nth (ends l) s.id.toNat=s.ends.length:=by
 have h1:=zaP h;exact zow l _ (fun t ht=>by have:=h1 t ht;simp;omega) (zfc (zlo h)) s hs
theorem zez {l:List Section} (h:zbR l=true) (n:Int):zcl (ends l) n=true↔∃ s∈l,s.id=n:=by
 have h1:=zaP h;simp only[zcl,Bool.and_eq_true,decide_eq_true_eq];constructor
 ·rintro ⟨⟨h2,h3⟩,h4⟩
  rcases Classical.em (∃ s∈l,s.id=n) with h5|h5
  ·exact h5
  ·exfalso
   rw[ends,zeq l _ _ (fun t ht=>by have:=h1 t ht;simp;omega) (fun s hs e=>h5 ⟨s,hs,by have:=h1 s hs;omega⟩),zdL _ _ _ (by omega)]at h4
   omega
 ·rintro ⟨s,hs,rfl⟩
  have h2:=h1 s hs;have h3:=((zeJ l).1 h).one s hs;rw[ziP h hs];refine ⟨⟨by omega,by omega⟩, ?_⟩
  obtain ⟨_,_,h4⟩:=h3;unfold zbh at h4;split at h4<;>simp at h4<;>omega
theorem zr1 {l:List Section} (h:zbR l=true) (i:Nat):nth (ends l) i<=3:=by
 rcases Classical.em (∃ s∈l,s.id.toNat=i) with ⟨s,hs,rfl⟩|h5
 ·rw[ziP h hs];have:=zaP h s hs;omega
 ·have h1:=zaP h
  rw[ends,zeq l _ _ (fun t ht=>by have:=h1 t ht;simp;omega) (fun s hs e=>h5 ⟨s,hs,e⟩)]
  rcases Nat.lt_or_ge i 100 with hi|hi
  ·rw[zdL _ _ _ hi];omega
  ·simp[nth,hi]
theorem zhU (sec:List Int):∀ (l:List Sgn) (a:List Bool),zhV sec a l=true->∀ x∈l,zcl sec x.sec=true/\0<=x.ed/\x.ed<nth sec x.sec.toNat
 |[],_,_,x,h=>by cases h
 |y::r,a,h,x,hx=>by
  simp only[zhV,zdy,Bool.and_eq_true,Bool.not_eq_true',Bool.or_eq_false_iff,Bool.not_eq_false',decide_eq_false_iff_not]at h;rcases List.mem_cons.1 hx with rfl|hx
  ·exact ⟨h.1.1,by omega,by omega⟩
  ·exact zhU sec r _ h.2 x hx
theorem zkD (sec:List Int):∀ (l:List Int) (m:List Bool),m.length=100->(zpL sec m l=true↔(∀ x∈l,zcl sec x=true/\nth m x.toNat=false)/\l.Nodup)
 |[],m,_=>by simp[zpL]
 |x::r,m,hm=>by
  simp only[zpL,Bool.and_eq_true,Bool.not_eq_true',Bool.or_eq_false_iff,Bool.not_eq_false',zkD sec r (m.set x.toNat true) (by simpa using hm),List.mem_cons,forall_eq_or_imp,List.nodup_cons]
  constructor
  ·rintro ⟨⟨h1,h2⟩,h3,h4⟩
   have h0:0<=x/\x<=99:=by simp only[zcl,Bool.and_eq_true,decide_eq_true_eq]at h1;omega
   have hne:∀ y∈r,y≠x:=fun y hy e=>by
    have:=(h3 y hy).2;rw[e,za9 _ _ _ _ (by omega),if_pos rfl]at this
    cases this
   refine ⟨⟨⟨h1,h2⟩,fun y hy=>⟨(h3 y hy).1, ?_⟩⟩,fun hx=>hne x hx rfl,h4⟩
   have h5:=h3 y hy;have h6:0<=y/\y<=99:=by simp only[zcl,Bool.and_eq_true,decide_eq_true_eq]at h5;omega
   rw[za9 _ _ _ _ (by omega),if_neg (by have:=hne y hy;omega)]at h5
   exact h5.2
  ·rintro ⟨⟨⟨h1,h2⟩,h3⟩,h4,h5⟩
   have h0:0<=x/\x<=99:=by simp only[zcl,Bool.and_eq_true,decide_eq_true_eq]at h1;omega
   refine ⟨⟨h1,h2⟩,fun y hy=>⟨(h3 y hy).1, ?_⟩,h5⟩
   have h6:0<=y/\y<=99:=by have:=(h3 y hy).1;simp only[zcl,Bool.and_eq_true,decide_eq_true_eq]at this;omega
   rw[za9 _ _ _ _ (by omega),if_neg (fun e=>h4 (by rw[show x=y by omega];exact hy))]
   exact (h3 y hy).2
theorem zoo (pts:List Pnt):∀ (l:List Flk) (pr:Option Int),zpu pts pr l=true->∀ f∈l,(∃ x∈pts,x.id=f.pnt)/\(f.lie=1\/f.lie=2)
 |[],_,_,f,h=>by cases h
 |y::r,pr,h,f,hf=>by
  simp only[zpu,zlW,Bool.and_eq_true,Bool.not_eq_true',Bool.or_eq_false_iff,Bool.not_eq_false',Bool.and_eq_false_imp,decide_eq_false_iff_not,decide_eq_true_eq]at h;rcases List.mem_cons.1 hf with rfl|hf
  ·obtain ⟨⟨h1,h2,h3⟩,_⟩:=h
   obtain ⟨x,hx⟩:=Option.isSome_iff_exists.1 h1;refine ⟨⟨x,(zd6 hx).1,(zd6 hx).2⟩, ?_⟩;rcases Classical.em (f.lie=1) with h4|h4
   ·exact .inl h4
   ·exact .inr (by have:=h3;simp[h4]at this;exact this)
  ·exact zoo pts r _ h.2 f hf
set_option maxRecDepth 10000
set_option maxHeartbeats 4000000
variable {P:Program} {inv:Nat->Option Nat}
structure Sm (p:Pln):Prop where
 sec:p.sections.length<=1000000
 ends:∀ s∈p.sections,s.ends.length<=9223372036854775807
 pts:p.points.length<=1000000
 sgn:p.signals.length<=1000000
 rte:p.routes.length<=1000000
 rtes:∀ r∈p.routes,r.path.length<=9223372036854775807/\r.over.length<=9223372036854775807/\r.flanks.length<=9223372036854775807
theorem zsf (hH:HasAll P inv) (l:List Section) (hl:l.length<=1000000000) (he:∀ s∈l,s.ends.length<=9223372036854775807):PC P inv 26 [.sl 3 (l.map Section.c)] (·=.n (zd0 l)):=zoC l▸zk0 hH l hl he
def zci (p:Pln):Int:=if zbx p=true then 0 else 8
theorem sgn_sec {p:Pln} (hm:zbR p.sections=true) (h:signals p (ends p.sections)=true):∀ x∈p.signals,0<=x.sec/\x.sec<=99:=fun x hx=>by
 simp only[signals,Bool.and_eq_true]at h;have:=(zhU _ _ _ h.2 x hx).1;simp only[zcl,Bool.and_eq_true,decide_eq_true_eq]at this;omega
theorem zeN (hH:HasAll P inv) (hI:HasIds P inv) (p:Pln) (hp:Sm p):PC P inv 95 [.agg p.c] (·=.n (zci p)):=by
 have hlr:=hp.rte;have c0:=zsf hH p.sections (Nat.le_trans hp.sec (by omega)) hp.ends
 cases hm:zbR p.sections with
 |false =>
  rw[show zd0 p.sections=8 by simp[zd0,hm]]at c0
  rw[show zci p=8 by simp[zci,zbx,hm]]
  refine wf hH cd95 fun w0 M Q hM hE hQ hR=>?_;refine wq ?_
  (repeat' first|refine zaa yG fun K hK=>?_|exact wt|refine wA ?_|(refine wB ?_ ?_<;>intro h<;>first|exact wN h|subst (h:(_:Bool)=_)|skip)|(refine wQ ?_;clear hQ hR hE hM)|refine wC c0 ?_|fail)
  all_goals (first|rfl|omega)
 |true =>
  rw[show zd0 p.sections=0 by simp[zd0,hm]]at c0
  have c1:=ends_pc hH p.sections (Nat.le_trans hp.sec (by omega)) (zaP hm)
  have c2:=zqK hH hI p (Nat.le_trans hp.sec (by omega)) (Nat.le_trans hp.pts (by omega)) (zaP hm)
  have c3:=zoV hH hI p (Nat.le_trans hp.sgn (by omega)) (ends p.sections) (zov _) (zr1 hm)
  have c4:=zo1 hH hI p.routes 16 (Nat.le_trans hp.rte (by omega))
  have hlen:=zov p.sections;have ht:((ends p.sections).map AV.n).take 100=(ends p.sections).map AV.n:=List.take_of_length_le (by simp[hlen])
  have hov:ovl (List.replicate 100 (AV.i .i64 0)) 0 ((ends p.sections).map AV.n)=(ends p.sections).map AV.n:=by
   rw[zir _ _ _ (by simp[hlen]),List.take_zero,List.nil_append,List.drop_eq_nil_of_le (by simp[hlen]),List.append_nil]
  cases hv:(points p&&(signals p (ends p.sections)&&rise (p.routes.map Rte.id) 16)) with
  |false =>
   rw[show zci p=8 by
    unfold zci;rw[if_neg];intro h;simp only[zbx,Bool.and_eq_true]at h;rw[h.2.1,h.2.2.1,h.2.2.2.1]at hv;cases hv]
   refine wf hH cd95 fun w0 M Q hM hE hQ hR=>?_;refine wq ?_
   (have hX:=zA @hlen (zA @ht @hov);(repeat' first|refine zaa yG fun K hK=>?_|exact wt|refine wA ?_|(refine wB ?_ ?_<;>intro h<;>first|exact wN h|subst (h:(_:Bool)=_)|skip)|(refine wQ ?_;clear hQ hR hE hM)|refine wC c0 ?_|refine wC c1 ?_|refine wC c2 ?_|refine wC c3 ?_|refine wC c4 ?_|fail);all_goals clear hX)
   all_goals (first|rfl|omega|(simp_all;done))
  |true =>
   simp only[Bool.and_eq_true]at hv;rw[hv.1]at c2;rw[hv.2.1]at c3;rw[hv.2.2]at c4;have hsg:=sgn_sec hm hv.2.1;have h0:zci p=if (decide (p.version<1)||(decide (2147483647<p.version)||(decide (p.parent<0)||decide (p.version<=p.parent))))=true then 8 else if (p.routes.all fun r=>zc0 p r (ends p.sections))=true then 0 else 8:=by
    simp only[zci,zbx,hm,hv.1,hv.2.1,hv.2.2];cases decide (p.version<1)<;>cases decide (2147483647<p.version)<;>cases decide (p.parent<0)<;>cases decide (p.version<=p.parent)<;>simp
   refine wf hH cd95 fun w0 M Q hM hE hQ hR=>?_;refine wq ?_
   (have hX:=zA @hlen (zA @ht @hov);(repeat' first|refine zaa yG fun K hK=>?_|exact wt|refine wA ?_|(refine wB ?_ ?_<;>intro h<;>first|exact wN h|subst (h:(_:Bool)=_)|skip)|(refine wQ ?_;clear hQ hR hE hM)|refine wC c0 ?_|refine wC c1 ?_|refine wC c2 ?_|refine wC c3 ?_|refine wC c4 ?_|fail);all_goals clear hX)
   all_goals try (rw[h0,if_pos (by simp[*])];done)
   refine zaj (ι:=Nat) [1,2,3,51,52,53] (fun z=>[(53,.n z)]) (fun _=>[]) (fun z=>z) (p.routes.length) (fun z=>(((p.routes.drop z).all fun r=>zc0 p r (ends p.sections))=(p.routes.all fun r=>zc0 p r (ends p.sections)))) (0) ?_;rintro k ⟨hk,hg⟩;(try dsimp only at hk hg |-);rcases Nat.lt_or_ge k p.routes.length with hlt|hge
   ·rw[zae hlt]at hg
    rw[List.all_cons]at hg;(have hX:=zA @hlen (zA @ht @hov);(repeat' first|refine zaa yG fun K hK=>?_|exact wt|refine wA ?_|(refine wB ?_ ?_<;>intro h<;>first|exact wN h|subst (h:(_:Bool)=_)|skip)|(refine wQ ?_;clear hQ hR hE hM)|(refine zak hM (route_pc hH hI p (nth p.routes k) (Nat.le_trans hp.sgn (by omega)) (Nat.le_trans hp.pts (by omega)) (Nat.le_trans (hp.rtes _ (zac hlt)).2.2 (by omega)) (Nat.le_trans (hp.rtes _ (zac hlt)).1 (by omega)) (Nat.le_trans (hp.rtes _ (zac hlt)).2.1 (by omega)) _ hlen hsg) ?_;try refine wD ?_)|fail);all_goals clear hX)
    ·rw[h0,<-hg];simp[*]
    ·exact nY (k+1) ⟨by (try dsimp only);omega,by (try dsimp only);rw[<-hg];simp[*]⟩
   ·rw[List.drop_eq_nil_of_le hge]at hg
    (repeat' first|refine zaa yG fun K hK=>?_|exact wt|refine wA ?_|(refine wB ?_ ?_<;>intro h<;>first|exact wN h|subst (h:(_:Bool)=_)|skip)|(refine wQ ?_;clear hQ hR hE hM)|fail)
    rw[h0,<-hg,if_neg (by simp[*])];rfl
theorem zdo (hH:HasAll P inv) (l:List Int) (h:l.length<=1000000):PC P inv 108 [.sl 1 (l.map zaJ)] (·=.sl 1 (l.map zaJ)):=by
 refine wf hH cd108 fun w0 M Q hM hE hQ hR=>?_;refine wq ?_
 (repeat' first|refine zaa [0,2,4] fun K hK=>?_|exact wt|refine wA ?_|(refine wB ?_ ?_<;>intro h<;>first|exact wN h|subst (h:(_:Bool)=_)|skip)|(refine wQ ?_;clear hQ hR hE hM)|fail)
 ·have h0:l.length=0:=by assumption
  obtain rfl:=List.length_eq_zero_iff.1 h0;rfl
theorem znj (hH:HasAll P inv) (l:List Flk) (h:l.length<=1000000):PC P inv 128 [.sl 2 (l.map Flk.c)] (·=.sl 2 (l.map Flk.c)):=by
 refine wf hH cd128 fun w0 M Q hM hE hQ hR=>?_;refine wq ?_
 (repeat' first|refine zaa [0,2,4] fun K hK=>?_|exact wt|refine wA ?_|(refine wB ?_ ?_<;>intro h<;>first|exact wN h|subst (h:(_:Bool)=_)|skip)|(refine wQ ?_;clear hQ hR hE hM)|fail)
 ·have h0:l.length=0:=by assumption
  obtain rfl:=List.length_eq_zero_iff.1 h0;rfl
theorem zoN (hH:HasAll P inv) (r:Rte) (h:r.path.length<=1000000/\r.over.length<=1000000/\r.flanks.length<=1000000):PC P inv 99 [.agg r.c] (·=.agg r.c):=by
 refine wf hH cd99 fun w0 M Q hM hE hQ hR=>?_;refine wq ?_
 (repeat' first|refine zaa kj fun K hK=>?_|exact wt|refine wA ?_|(refine wB ?_ ?_<;>intro h<;>first|exact wN h|subst (h:(_:Bool)=_)|skip)|(refine wQ ?_;clear hQ hR hE hM)|(refine zak hM (zdo hH _ h.1) ?_;try refine wD ?_)|(refine zak hM (zdo hH _ h.2.1) ?_;try refine wD ?_)|(refine zak hM (znj hH _ h.2.2) ?_;try refine wD ?_)|fail)
def zdJ (p:Pln) (n:Int):Rte×Int:=if zbx p=true then (match p.routes.find? fun x=>decide (x.id=n) with|some r=>(r,0)|none=>(Rte.z,6)) else (Rte.z,8)
theorem znq (hH:HasAll P inv) (hI:HasIds P inv) (p:Pln) (hp:Sm p) (n:Int):PC P inv 98 [.agg p.c,.sl 7 (p.routes.map Rte.c),.n n] (·=.tup [.agg (zdJ p n).1.c,.n (zdJ p n).2]):=by
 have c0:=zeN hH hI p hp;have c1:=find_rte hH hI p.routes (Nat.le_trans hp.rte (by omega)) n
 cases ho:zbx p with
 |false =>
  rw[show zci p=8 by simp[zci,ho]]at c0
  rw[show zdJ p n=(Rte.z,8) by simp[zdJ,ho]]
  refine wf hH cd98 fun w0 M Q hM hE hQ hR=>?_;refine wq ?_
  (repeat' first|refine zaa yu fun K hK=>?_|exact wt|refine wA ?_|(refine wB ?_ ?_<;>intro h<;>first|exact wN h|subst (h:(_:Bool)=_)|skip)|(refine wQ ?_;clear hQ hR hE hM)|refine wC c0 ?_|fail)
  all_goals (first|rfl|omega)
 |true =>
  rw[show zci p=0 by simp[zci,ho]]at c0
  unfold zdJ;rw[if_pos ho];revert c1;generalize (p.routes.find? fun x=>decide (x.id=n))=x
  intro c1;cases x with
  |none =>
   refine wf hH cd98 fun w0 M Q hM hE hQ hR=>?_;refine wq ?_
   (have hX:=zA @Option.isSome_none.{0} (zA @Option.isSome_some.{0} (zA @Option.getD_none.{0} @Option.getD_some.{0}));(repeat' first|refine zaa yu fun K hK=>?_|exact wt|refine wA ?_|(refine wB ?_ ?_<;>intro h<;>first|exact wN h|subst (h:(_:Bool)=_)|skip)|(refine wQ ?_;clear hQ hR hE hM)|refine wC c0 ?_|refine wC c1 ?_|fail);all_goals clear hX)
   all_goals (first|rfl|omega)
  |some r =>
   refine wf hH cd98 fun w0 M Q hM hE hQ hR=>?_;refine wq ?_
   (have hX:=zA @Option.isSome_none.{0} (zA @Option.isSome_some.{0} (zA @Option.getD_none.{0} @Option.getD_some.{0}));(repeat' first|refine zaa yu fun K hK=>?_|exact wt|refine wA ?_|(refine wB ?_ ?_<;>intro h<;>first|exact wN h|subst (h:(_:Bool)=_)|skip)|(refine wQ ?_;clear hQ hR hE hM)|refine wC c0 ?_|refine wC c1 ?_|fail);all_goals clear hX)
   all_goals (first|rfl|omega)
theorem rteOf_sm (p:Pln) (n:Int):(zdJ p n).1.path.length<=1000000/\(zdJ p n).1.over.length<=1000000/\(zdJ p n).1.flanks.length<=1000000:=by
 unfold zdJ;split
 ·rename_i ho
  split
  ·rename_i r h
   simp only[zbx,Bool.and_eq_true,List.all_eq_true]at ho;have h1:=ho.2.2.2.2 r (zd6 h).1;simp only[zc0,zfH,Bool.and_eq_true,Bool.not_eq_true',decide_eq_false_iff_not]at h1;dsimp only;omega
  ·simp[Rte.z]
 ·simp[Rte.z]
theorem zhi (hH:HasAll P inv) (hI:HasIds P inv) (p:Pln) (hp:Sm p) (n:Int):PC P inv 89 [.agg p.c,.n n] (·=.tup [.agg (zdJ p n).1.c,.n (zdJ p n).2]):=by
 refine wf hH cd89 fun w0 M Q hM hE hQ hR=>?_;refine wq ?_
 (repeat' first|refine zaa [0,1,2,4,5,6,7] fun K hK=>?_|exact wt|refine wA ?_|(refine wB ?_ ?_<;>intro h<;>first|exact wN h|subst (h:(_:Bool)=_)|skip)|(refine wQ ?_;clear hQ hR hE hM)|refine wC (znq hH hI p hp n) ?_|(refine zak hM (zoN hH _ (rteOf_sm p n)) ?_;try refine wD ?_)|fail)
variable {w0:World} {M:Nat->Prop}
structure Wk where
 inn:Join
 asks:List AskR
 outs:List Join
 lost:Bool
def Wk.c (p:Pln) (w:Wk):List AV:=[.n p.version,.n p.parent,.sl 3 (p.sections.map Section.c),.sl 2 (p.points.map Pnt.c),.sl 3 (p.signals.map Sgn.c),.sl 7 (p.routes.map Rte.c),.n w.inn.to,.n w.inn.ed,.sm 20 (w.asks.length*3) 0 w.asks.length 3,.sm 21 (w.outs.length*2) 0 w.outs.length 2,.b w.lost]
attribute [go_sem] Wk.c
def zho (p:Pln) (w:Wk) (id:Int):Option Section:=if w.inn.to=id then p.sections.find? fun s=>decide (s.id=id) else none
def zjj (pt lie pos:Int) (l:List AskR):List AskR:=if 0<pt/\0<lie then l++[⟨pt,lie,pos⟩] else l
def zaY (s:Section) (frm:Int) (right:Int->Join->Bool):Nat->List Join->Option (Nat×Join×Int)
 |_,[]=>none
 |e,j::r=>if (za8 s frm e).2=0/\right e j=true then some (e,j,(za8 s frm e).1) else zaY s frm right (e+1) r
def zaL (p:Pln) (w:Wk) (id pos:Int) (right:Int->Join->Bool):Wk :=
 if w.lost=true then w else match zho p w id with
 |none=>{ w with lost:=true }
 |some s=>match zaY s w.inn.ed right 0 s.ends with
  |none=>{ w with lost:=true }
  |some (e,j,lie)=>⟨j,zjj s.pt lie pos w.asks,w.outs++[⟨id,e⟩],false⟩
def zet (p:Pln) (w:Wk) (id pos:Int):Wk :=
 match zho p w id with
 |none=>{ w with lost:=true }
 |some s=>if w.lost=false/\0<w.inn.ed then { w with asks:=zjj s.pt w.inn.ed pos w.asks } else w
theorem zhz (hH:HasAll P inv) (n:Int) (x:Section):PC P inv 140 ([.agg x.c]++[.ip 1 [[.n n]] 0 0]) (·=.b (decide (x.id=n))):=by
 refine wf hH cd140 fun w0 M Q hM hE hQ hR=>?_;refine wq ?_
 (repeat' first|refine zaa kD fun K hK=>?_|exact wt|refine wA ?_|(refine wB ?_ ?_<;>intro h<;>first|exact wN h|subst (h:(_:Bool)=_)|skip)|(refine wQ ?_;clear hQ hR hE hM)|fail)
theorem zqz (hH:HasAll P inv) (e:Int) (j:Join):PC P inv 103 [.n e,.agg j.c] (·=.b (decide (j=⟨0,0⟩))):=by
 refine wf hH cd103 fun w0 M Q hM hE hQ hR=>?_;refine wq ?_
 (repeat' first|refine zaa [1,3,4] fun K hK=>?_|exact wt|refine wA ?_|(refine wB ?_ ?_<;>intro h<;>first|exact wN h|subst (h:(_:Bool)=_)|skip)|(refine wQ ?_;clear hQ hR hE hM)|fail)
 simp[zrf]
theorem zqy (hH:HasAll P inv) (e:Int) (j:Join) (s:Int) (x:Sgn):PC P inv 104 ([.n e,.agg j.c]++[.ip 1 [[.n s]] 0 0,.ip 3 [x.c] 0 0]) (·=.b (decide (s=x.sec)&&decide (e=x.ed))):=by
 refine wf hH cd104 fun w0 M Q hM hE hQ hR=>?_;refine wq ?_
 (repeat' first|refine zaa [0,1,2,3,6] fun K hK=>?_|exact wt|refine wA ?_|(refine wB ?_ ?_<;>intro h<;>first|exact wN h|subst (h:(_:Bool)=_)|skip)|(refine wQ ?_;clear hQ hR hE hM)|fail)
 all_goals simp[*]
theorem zqx (hH:HasAll P inv) (e:Int) (j:Join) (all:List Int) (i:Nat) (hi:i+1<all.length) (ha:all.length<=1000000000):PC P inv 106 ([.n e,.agg j.c]++[.ip 1 [[.sl 1 (all.map zaJ)]] 0 0,.ip 1 [[.n i]] 0 0]) (·=.b (decide (j.to=nth all (i+1)))):=by
 refine wf hH cd106 fun w0 M Q hM hE hQ hR=>?_;refine wq ?_
 (repeat' first|refine zaa [1,2,3,5,6] fun K hK=>?_|exact wt|refine wA ?_|(refine wB ?_ ?_<;>intro h<;>first|exact wN h|subst (h:(_:Bool)=_)|skip)|(refine wQ ?_;clear hQ hR hE hM)|fail)
 rw[show ((i:Int)+1).toNat=i+1 by omega]
def stW (p:Pln) (r:Rte) (x y:Sgn) (w:Wk) (all:List Int) (i s:Int) (ba bo:Bool):List (Nat×AO):=[(1,.cells r.c true),(2,.cells [.s0 1,.s0 1,.s0 3,.n 0] true),(3,.cells x.c true),(4,.cells y.c true),(5,.cells (w.c p) true),(6,.cells [.sl 1 (all.map zaJ)] true),(20,.cells (w.asks.map AskR.c).flatten ba),(21,.cells (w.outs.map Join.c).flatten bo),(22,.cells [.n i] true),(23,.cells [.n s] true)]
theorem stay_ac (hH:HasAll P inv) (hM:∀ b,M b->b<w0.heap.size) (p:Pln) (hp:Sm p) (r:Rte) (x y:Sgn) (w:Wk) (all:List Int) (i s:Int) (ba bo:Bool) (hw:w.asks.length<=1000000) :
  AC P inv w0 M 30 105 [.ptr 5 11 0,.n s,.n i] (stW p r x y w all i s ba bo) fun r0 σ'=>r0=.tup []/\σ'=stW p r x y (zet p w s i) all i s (ba||decide (w.asks.length<(zet p w s i).asks.length)) bo:=by
 have hs:=zca (fun t:Section=>decide (t.id=s)) p.sections 0
 have c0:=ziB hH p.sections (fun t _=>zhz hH s t) (Nat.le_trans hp.sec (by omega))
 have hl:=hp.sec;obtain ⟨inn,asks,outs,lost⟩:=w;dsimp only at hw;generalize hW:zet p ⟨inn,asks,outs,lost⟩ s i=W;unfold zet zho zjj at hW;dsimp only at hW;rcases hs with ⟨h1,h2⟩|⟨k,hk,h1,h2⟩
 ·rw[h1]at c0
  rw[h2,ite_self]at hW;subst hW;refine zbg (F:=cd105) (hH.has _ _ rfl) rfl (Nat.le_of_ble_eq_true rfl) fun Q hQ hR=>?_;have hE:=hH.callable;dsimp only[cd105]at hQ |-;refine wq ?_
  skip
  unfold stW
  (refine wD ?_;try exact wt)
  (repeat' first|refine zaa [0,1,2,3,4,5,6,13,22,23] fun K hK=>?_|exact wt|refine wA ?_|(refine wB ?_ ?_<;>intro h<;>first|exact wN h|subst (h:(_:Bool)=_)|skip)|(refine wQ ?_;clear hQ hR)|(refine wI hH cd130 30 fun Q hQ hR=>?_;refine wq ?_;try refine wD ?_)|(refine wI hH cd107 40 fun Q hQ hR=>?_;refine wq ?_;try refine wD ?_)|refine wS c0 ?_|fail)
  all_goals (refine ⟨[],trivial, ?_⟩;simp only[swS,stW,Wk.c];(refine wD ?_;try exact wt);(try simp))
 ·rw[h1,Int.zero_add]at c0
  rw[h2]at hW;refine zbg (F:=cd105) (hH.has _ _ rfl) rfl (Nat.le_of_ble_eq_true rfl) fun Q hQ hR=>?_;have hE:=hH.callable;dsimp only[cd105]at hQ |-;refine wq ?_
  skip
  unfold stW
  (refine wD ?_;try exact wt)
  (repeat' first|refine zaa [0,1,2,3,4,5,6,13,22,23] fun K hK=>?_|exact wt|refine wA ?_|(refine wB ?_ ?_<;>intro h<;>first|exact wN h|subst (h:(_:Bool)=_)|skip)|(refine wQ ?_;clear hQ hR)|(refine wI hH cd130 30 fun Q hQ hR=>?_;refine wq ?_;try refine wD ?_)|(refine wI hH cd107 40 fun Q hQ hR=>?_;refine wq ?_;try refine wD ?_)|refine wS c0 ?_|fail)
  all_goals (simp only[*,true_and,and_true,and_self,if_true,if_false,false_and,and_false,reduceCtorEq,Bool.true_eq_false,Bool.false_eq_true]at hW)
  all_goals (try subst hW)
  all_goals (refine ⟨[],trivial, ?_⟩;simp only[swS,stW,Wk.c];(refine wD ?_;try exact wt))
  all_goals simp[AskR.c]
def zoW (n:Int):Sgn->List Sgn->Sgn
 |o,[]=>o
 |o,x::r=>if x.id=n then zoW n x r else zoW n o r
def sig (p:Pln) (n:Int):Sgn:=zoW n Sgn.z p.signals
theorem zli (hH:HasAll P inv) (p:Pln) (hp:Sm p) (n:Int):PC P inv 100 [.agg p.c,.n n] (·=.agg (sig p n).c):=by
 have hl:=hp.sgn;refine wf hH cd100 fun w0 M Q hM hE hQ hR=>?_;refine wq ?_
 (repeat' first|refine zaa yv fun K hK=>?_|exact wt|refine wA ?_|(refine wB ?_ ?_<;>intro h<;>first|exact wN h|subst (h:(_:Bool)=_)|skip)|(refine wQ ?_;clear hQ hR hE hM)|fail)
 refine zaj (ι:=Nat×Sgn) [1,4,8,9,10] (fun z=>[(10,.n z.1)]) (fun z=>[(1,.cells z.2.c true)]) (fun z=>z.1) (p.signals.length) (fun z=>(zoW n z.2 (p.signals.drop z.1)=sig p n)) (0,(⟨0,0,0⟩:Sgn)) ?_;rintro ⟨k,o⟩ ⟨hk,hg⟩;(try dsimp only at hk hg |-);rcases Nat.lt_or_ge k p.signals.length with hlt|hge
 ·rw[zae hlt]at hg
  rw[zoW]at hg
  (repeat' first|refine zaa yv fun K hK=>?_|exact wt|refine wA ?_|(refine wB ?_ ?_<;>intro h<;>first|exact wN h|subst (h:(_:Bool)=_)|skip)|(refine wQ ?_;clear hQ hR hE hM)|fail)
  ·rw[if_pos (by assumption)]at hg
   exact nY (k+1,nth p.signals k) ⟨by (try dsimp only);omega,hg⟩
  ·rw[if_neg (by assumption)]at hg
   exact nY (k+1,o) ⟨by (try dsimp only);omega,hg⟩
 ·rw[List.drop_eq_nil_of_le hge,zoW]at hg
  subst hg
  (repeat' first|refine zaa yv fun K hK=>?_|exact wt|refine wA ?_|(refine wB ?_ ?_<;>intro h<;>first|exact wN h|subst (h:(_:Bool)=_)|skip)|(refine wQ ?_;clear hQ hR hE hM)|fail)
theorem grow_po0 (hH:HasAll P inv) (n:Int) (h:0<n) (h9:n<=1000000000):PO P inv 129 [.s0 1,.n n] (.sm 0 n.toNat 0 0 1) [(0,.cells (List.replicate n.toNat (.n 0)) true)]:=by
 refine PO.fn hH cd129 fun w0 M Q hM hE hQ hR=>?_;dsimp only[cd129]at hQ |-;refine wq ?_
 (have hX:=zA @Int.sub_zero (zA @Int.sub_self (zA @List.flatten_replicate_singleton.{0} @List.length_replicate.{0}));(repeat' first|refine zaa [0,1,4,6,16,22] fun K hK=>?_|exact wt|refine wA ?_|(refine wB ?_ ?_<;>intro h<;>first|exact wN h|subst (h:(_:Bool)=_)|skip)|(refine wR ?_;clear hQ hR hE hM)|fail);all_goals clear hX)
 left;constructor
 ·(refine wD ?_;try exact wt)
 ·(refine wD ?_;try exact wt)
  simp;omega
theorem grow_po' (hH:HasAll P inv):PO P inv 129 [.s0 1,.n 0] (.sm 0 0 0 0 1) [(0,.cells [] false)]:=by
 refine PO.fn hH cd129 fun w0 M Q hM hE hQ hR=>?_;dsimp only[cd129]at hQ |-;refine wq ?_
 (have hX:=zA @Int.sub_zero (zA @Int.sub_self (zA @List.flatten_replicate_singleton.{0} @List.length_replicate.{0}));(repeat' first|refine zaa [0,1,4,6,16,22] fun K hK=>?_|exact wt|refine wA ?_|(refine wB ?_ ?_<;>intro h<;>first|exact wN h|subst (h:(_:Bool)=_)|skip)|(refine wR ?_;clear hQ hR hE hM)|fail);all_goals clear hX)
 right;exact ⟨1,rfl,rfl,rfl⟩
theorem grow_po (hH:HasAll P inv) (n:Int) (h:0<n) (h9:n<=1000000000):PO P inv 129 [.s0 1,.n n] (.sm 1 0 0 0 1) [(1,.cells [] true)]:=by
 have:=(grow_po0 hH n h h9).trunc (by rw[show List.replicate n.toNat (AV.n 0)=(List.replicate n.toNat (0:Int)).map AV.n by simp];exact zfg .i64 _) (by simp) (by omega)
 simpa using this
theorem zgm (l:List Int):(l.map zaJ).flatten=l.map AV.n:=zrq l
def lens:List (List Int)->Int
 |[]=>0
 |l::r=>l.length+lens r
theorem zkH:∀ L:List (List Int),0<=lens L
 |[]=>Int.le_refl _
 |l::r=>by have:=zkH r;simp only[lens];omega
theorem zl8 (hH:HasAll P inv) (L:List (List Int)) (h0:L.length<=1000000) (hL:lens L<=1000000000):PC P inv 101 [.sl 1 (L.map lst)] (·=.sl 1 (L.flatten.map zaJ)):=by
 refine wf hH cd101 fun w0 M Q hM hE hQ hR=>?_;refine wq ?_
 (repeat' first|refine zaa kW fun K hK=>?_|exact wt|refine wA ?_|(refine wB ?_ ?_<;>intro h<;>first|exact wN h|subst (h:(_:Bool)=_)|skip)|(refine wQ ?_;clear hQ hR hE hM)|fail)
 refine zaj (ι:=Nat×Int) [0,2,3,9,10,11] (fun z=>[(3,.n z.2),(11,.n z.1)]) (fun _=>[]) (fun z=>z.1) (L.length) (fun z=>(0<=z.2)/\(z.2+lens (L.drop z.1)=lens L)) (0,0) ?_;rintro ⟨k,t⟩ ⟨hk,ht,hg⟩;(try dsimp only at hk ht hg |-);rcases Nat.lt_or_ge k L.length with hlt|hge
 ·rw[zae hlt]at hg
  rw[lens]at hg;have h1:=zkH (L.drop (k+1));(have hX:=@lst.eq_1;(repeat' first|refine zaa kW fun K hK=>?_|exact wt|refine wA ?_|(refine wB ?_ ?_<;>intro h<;>first|exact wN h|subst (h:(_:Bool)=_)|skip)|(refine wQ ?_;clear hQ hR hE hM)|fail);all_goals clear hX)
  exact nY (k+1,t+(nth L k).length) ⟨by (try dsimp only);omega,by (try dsimp only);omega,by (try dsimp only);omega⟩
 ·rw[List.drop_eq_nil_of_le hge,lens,Int.add_zero]at hg
  subst hg;rcases Int.lt_or_le 0 (lens L) with hp|hz
  ·(repeat' first|refine zaa kW fun K hK=>?_|exact wt|refine wA ?_|(refine wB ?_ ?_<;>intro h<;>first|exact wN h|subst (h:(_:Bool)=_)|skip)|(refine wQ ?_;clear hQ hR hE hM)|refine wO (grow_po hH (lens L) hp hL) ?_|fail)
   refine zaj (ι:=Nat×(List Int)×Bool) [2,6,25,26,27] (fun z=>[(6,.sm 1 z.2.1.length 0 z.2.1.length 1),(27,.n z.1)]) (fun z=>[(1,.cells (z.2.1.map AV.n) z.2.2)]) (fun z=>z.1) (L.length) (fun z=>(z.2.1++(L.drop z.1).flatten=L.flatten)/\((z.2.1.length:Int)+lens (L.drop z.1)=lens L)) (0,[],true) ?_;rintro ⟨k,acc,b⟩ ⟨hk,hg,hx⟩;(try dsimp only at hk hg hx |-);rcases Nat.lt_or_ge k L.length with hlt|hge
   ·rw[zae hlt,lens]at hx
    rw[zae hlt,List.flatten_cons,<-List.append_assoc]at hg;have h1:=zkH (L.drop (k+1));(have hX:=zA @lst.eq_1 (zA @zgm (zA @List.length_map.{0,0} @List.length_append.{0}));(repeat' first|refine zaa kW fun K hK=>?_|exact wt|refine wA ?_|(refine wB ?_ ?_<;>intro h<;>first|exact wN h|subst (h:(_:Bool)=_)|skip)|(refine wQ ?_;clear hQ hR hE hM)|fail);all_goals clear hX)
    exact nY (k+1,acc++nth L k,(b||decide (0<(nth L k).length))) ⟨by (try dsimp only);omega,hg,by (try dsimp only);simp;omega⟩
   ·rw[List.drop_eq_nil_of_le hge,List.flatten_nil,List.append_nil]at hg
    subst hg;(have hX:=@List.length_map.{0,0};(repeat' first|refine zaa kW fun K hK=>?_|exact wt|refine wA ?_|(refine wB ?_ ?_<;>intro h<;>first|exact wN h|subst (h:(_:Bool)=_)|skip)|(refine wQ ?_;clear hQ hR hE hM)|fail);all_goals clear hX)
    rw[show L.flatten.map (AV.i .i64)=(L.flatten.map zaJ).flatten from (zgm _).symm,zbi]
  ·have hz0:lens L=0:=by omega
   rw[hz0]
   (repeat' first|refine zaa kW fun K hK=>?_|exact wt|refine wA ?_|(refine wB ?_ ?_<;>intro h<;>first|exact wN h|subst (h:(_:Bool)=_)|skip)|(refine wQ ?_;clear hQ hR hE hM)|refine wO (grow_po' hH) ?_|fail)
   refine AWp.swap [(0,1)] ⟨⟨by omega,by omega⟩,trivial⟩ ?_
   (refine wD ?_;try exact wt)
   refine zaj (ι:=Nat×(List Int)×Bool) [2,6,25,26,27] (fun z=>[(6,.sm 1 z.2.1.length 0 z.2.1.length 1),(27,.n z.1)]) (fun z=>[(1,.cells (z.2.1.map AV.n) z.2.2)]) (fun z=>z.1) (L.length) (fun z=>(z.2.1++(L.drop z.1).flatten=L.flatten)/\((z.2.1.length:Int)+lens (L.drop z.1)=lens L)) (0,[],false) ?_;rintro ⟨k,acc,b⟩ ⟨hk,hg,hx⟩;(try dsimp only at hk hg hx |-);rcases Nat.lt_or_ge k L.length with hlt|hge
   ·rw[zae hlt,lens]at hx
    rw[zae hlt,List.flatten_cons,<-List.append_assoc]at hg;have h1:=zkH (L.drop (k+1));(have hX:=zA @lst.eq_1 (zA @zgm (zA @List.length_map.{0,0} @List.length_append.{0}));(repeat' first|refine zaa kW fun K hK=>?_|exact wt|refine wA ?_|(refine wB ?_ ?_<;>intro h<;>first|exact wN h|subst (h:(_:Bool)=_)|skip)|(refine wQ ?_;clear hQ hR hE hM)|fail);all_goals clear hX)
    exact nY (k+1,acc++nth L k,(b||decide (0<(nth L k).length))) ⟨by (try dsimp only);omega,hg,by (try dsimp only);simp;omega⟩
   ·rw[List.drop_eq_nil_of_le hge,List.flatten_nil,List.append_nil]at hg
    subst hg;(have hX:=@List.length_map.{0,0};(repeat' first|refine zaa kW fun K hK=>?_|exact wt|refine wA ?_|(refine wB ?_ ?_<;>intro h<;>first|exact wN h|subst (h:(_:Bool)=_)|skip)|(refine wQ ?_;clear hQ hR hE hM)|fail);all_goals clear hX)
    rw[show L.flatten.map (AV.i .i64)=(L.flatten.map zaJ).flatten from (zgm _).symm,zbi]
theorem zcb {α:Type} [Inhabited α] (f:α->Int) (n:Int) (l:List α):(za1 (fun x=>decide (f x=n)) 0 l=-1/\∀ x∈l,f x≠n)\/∃ i:Nat,i<l.length/\za1 (fun x=>decide (f x=n)) 0 l=(i:Int)/\f (nth l i)=n:=by
 rcases zca (fun x:α=>decide (f x=n)) l 0 with ⟨h1,h2⟩|⟨i,h1,h2,h3⟩
 ·exact .inl ⟨h1,zrX h2⟩
 ·exact .inr ⟨i,h1,by omega,(zd6 (f:=f) h3).2⟩
def zd2 (s:State) (n:Int):Int:=match s.tracks.find? fun t=>decide (t.id=n) with|some t=>t.is|none=>2
theorem zhE {α:Type} [Inhabited α] (f:α->Int) {l:List α} (hn:(l.map f).Nodup) {k:Nat} (hk:k<l.length) {n:Int} (e:f (nth l k)=n):(l.find? fun t=>decide (f t=n))=some (nth l k):=by
 subst e;exact ziJ f hn (zac hk)
structure Shw where
 sig:Int
 asp:Int
 deriving DecidableEq,Inhabited
def Shw.c (x:Shw):List AV:=[.n x.sig,.i .u8 x.asp]
instance:Cells Shw.c 2:=⟨fun _=>rfl,fun _=>rfl⟩
attribute [go_sem] Shw.c
def goX (p:Pln) (f:Rte->Bool) (n:Int):Int:=za1 (fun r=>decide (r.entry=n)&&f r) 0 p.routes
theorem zrP (p:Pln) (f:Rte->Bool) (n:Int):(goX p f n=-1/\∀ r∈p.routes,(decide (r.entry=n)&&f r)=false)\/∃ i:Nat,i<p.routes.length/\goX p f n=(i:Int)/\(nth p.routes i).entry=n/\f (nth p.routes i)=true:=by
 rcases zca (fun r=>decide (r.entry=n)&&f r) p.routes 0 with ⟨h1,h2⟩|⟨i,h1,h2,h3⟩
 ·refine .inl ⟨h1,fun r hr=>?_⟩
  have:=List.find?_eq_none.1 h2 r hr
  simpa using this
 ·have:=List.find?_some h3
  simp only[Bool.and_eq_true,decide_eq_true_eq]at this;exact .inr ⟨i,h1,by unfold goX;omega,this.1,this.2⟩
end Go.Lev
