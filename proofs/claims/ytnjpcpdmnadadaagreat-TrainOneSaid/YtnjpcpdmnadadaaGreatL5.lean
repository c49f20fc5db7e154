/-
  A part of the engine that walks the functions' codes, and of the functions' contracts. Conditions: those that each theorem names.
-/
import Derived.Test.YtnjpcpdmnadadaaGreatL4
import Derived.IntWalk
import Derived.Laws.IdiomCopy
set_option linter.unusedSimpArgs false
set_option linter.unusedVariables false
set_option linter.unusedSectionVars false
namespace Go.Lev
open Go.Eng
set_option maxRecDepth 10000
set_option maxHeartbeats 4000000
variable {P:Program} {inv:Nat→Option Nat}
def zos (sec:List Int):List Bool→List Int→Bool
 |_,[]=>true
 |m,x::r=>!(!zc3 sec x||nth m x.toNat)&&zos sec (m.set x.toNat true) r
def zqo (pts:List Pnt) (pr:Option Int) (f:Flk):Bool:=!(pts.find? fun x=>decide (x.id=f.pnt)).isSome||((match pr with|some y=>decide (f.pnt≤y)|none=>false)||(!decide (f.lie=1)&&!decide (f.lie=2)))
def flkG (pts:List Pnt):Option Int→List Flk→Bool
 |_,[]=>true
 |pr,f::r=>!zqo pts pr f&&flkG pts (some f.pnt) r
def zln (p:Pln) (r:Rte):Bool:=(p.signals.find? fun x=>decide (x.id=r.entry)).isSome&&(!(!decide (r.exit=0)&&(!(p.signals.find? fun x=>decide (x.id=r.exit)).isSome||decide (r.exit=r.entry)))&&!(decide (r.exit=0)&&decide (0<(r.over.length:Int))))
def zf2 (r:Rte):Bool:=!decide ((r.path.length:Int)<1)&&(!decide (6<(r.path.length:Int))&&(!decide (2<(r.over.length:Int))&&!decide (3<(r.flanks.length:Int))))
def zgN (r:Rte):Bool:=!decide (r.timer<1)&&!decide (9<r.timer)
def zi8 (p:Pln) (r:Rte) (sec:List Int):Bool:=zos sec ((List.replicate 100 false).set ((p.signals.find? fun x=>decide (x.id=r.entry)).getD Sgn.z).sec.toNat true) (r.path++r.over)
def zgD (p:Pln) (r:Rte) (sec:List Int):Bool:=zln p r&&(zf2 r&&(zgN r&&(zi8 p r sec&&flkG p.points none r.flanks)))
def lst (l:List Int):List AV:=[.sl 1 (l.map zck)]
theorem find_mem {α:Type} {q:α→Bool} {l:List α} {x:α} (h:l.find? q=some x):x∈l:=List.mem_of_find?_eq_some h
theorem route_pc (hH:HasAll P inv) (hI:HasIds P inv) (p:Pln) (r:Rte) (h1:p.signals.length≤1000000000) (h2:p.points.length≤1000000000) (hf:r.flanks.length≤9223372036854775807) (hpa:r.path.length≤9223372036854775807) (hov:r.over.length≤9223372036854775807) (sec:List Int) (hs:sec.length=100) (hsig:∀ x∈p.signals,0≤x.sec∧x.sec≤99):PC P inv 126 [.agg p.c,.agg r.c,.agg (sec.map AV.n)] (·=.b (zgD p r sec)):=by
 have c1:=zm8 hH hI p.signals h1 r.entry
 have c2:=zm8 hH hI p.signals h1 r.exit
 have ht:(sec.map AV.n).take 100=sec.map AV.n:=List.take_of_length_le (by simp[hs])
 have he:0≤((p.signals.find? fun x=>decide (x.id=r.entry)).getD Sgn.z).sec∧((p.signals.find? fun x=>decide (x.id=r.entry)).getD Sgn.z).sec≤99:=by
  cases ha:(p.signals.find? fun x=>decide (x.id=r.entry)) with
  |none=>simp[Sgn.z]
  |some x=>exact hsig x (find_mem ha)
 have hr:zgD p r sec=(zln p r&&(zf2 r&&(zgN r&&(zi8 p r sec&&flkG p.points none r.flanks)))):=rfl
 revert hr
 generalize zgD p r sec=ans
 unfold zi8 zln
 revert c1 c2 he
 generalize (p.signals.find? fun x=>decide (x.id=r.entry)).isSome=ia
 generalize (p.signals.find? fun x=>decide (x.id=r.entry)).getD Sgn.z=e
 generalize (p.signals.find? fun x=>decide (x.id=r.exit)).isSome=ib
 generalize (p.signals.find? fun x=>decide (x.id=r.exit)).getD Sgn.z=e'
 intro c1 c2 he hr
 refine PC.fn hH cd126 fun w0 M Q hM hE hQ hR=>?_;dsimp only[cd126,qm,ql,qf,qi,qb,qc,qp,qv,qN,qT,qF,qt]at hQ ⊢
 repeat' (first|(refine zaa [0,1,2,3,4,5,6,7,8,10,11,13,15,16,17,19,36,62,79,93,94,95,96,99,100,101,102,113,119,120,121,122,161] fun K hK=>cnd2 rfl (fun h=>?_) (fun h=>?_)<;>(try first|exact h.elim|obtain rfl:(_:Bool)=_:=h)<;>first|(exfalso;omega)|skip)|refine AWp.block ?_|(refine hK.go ?_;clear hK K)|refine Cont.go (by assumption) ?_|(refine cnd2 rfl (fun h=>?_) (fun h=>?_)<;>(try first|exact h.elim|obtain rfl:(_:Bool)=_:=h)<;>first|(exfalso;omega)|skip)|((first|refine zaa [0,1,2,3,4,5,6,7,8,10,11,13,15,16,17,19,36,62,79,93,94,95,96,99,100,101,102,113,119,120,121,122,161] fun K hK=>AWp.reg hE hM ?_|refine zaa [0,1,2,3,4,5,6,7,8,10,11,13,15,16,17,19,36,62,79,93,94,95,96,99,100,101,102,113,119,120,121,122,161] fun K hK=>AWp.regd hE hM ?_|refine AWp.reg hE hM ?_|refine AWp.regd hE hM ?_|refine AWp.ret ?_|refine AWp.skip ?_|refine AWp.exit ?_|(refine pk2 (fun h=>?_) (fun h=>?_)<;>(try first|exact h.elim|obtain rfl:(_:Bool)=_:=h))|refine zlD (fun h=>?_) ?_|refine zaj hM (c1) ?_|refine zaj hM (c2) ?_|(refine hQ _ _ _ rfl ?_;clear hQ hR hE hM)|(refine hR _ _ (hQ _ _ _ rfl ?_);clear hQ hR hE hM)|(refine ob_mk ?_ ?_;focus first|omega|(refine SLe_of ?_;(refine no_implicit_lambda% (st ?_);try with_reducible exact wT);done)))<;>try simp -dsimp -implicitDefEqProofs (disch:=omega) only[go_sem,reduceIte,↓reduceIte,Nat.reduceEqDiff,Nat.reduceLT,Nat.reduceLeDiff,Nat.reduceAdd,Nat.reduceSub,Nat.reduceMul,Int.reduceToNat,Int.reduceLT,Int.reduceLE,Int.reduceEq,Int.reduceNeg,Int.reduceNe,reduceCtorEq,ht]))
 refine AWp.mid [0,1,2,3,4,5,6,7] (ans=(zos sec ((List.replicate 100 false).set e.sec.toNat true) (r.path++r.over)&&flkG p.points none r.flanks)) ?_ fun hr=>?_
 ·(repeat' first|refine zaa [0,1,2,3,4,5,6,7,8,10,11,13,15,16,17,19,36,62,79,93,94,95,96,99,100,101,102,113,119,120,121,122,161] fun K hK=>?_|(refine hK.go ?_;clear hK K)|with_reducible exact wT|refine wA ?_|(refine wB (fun h=>?_) (fun h=>?_)<;>first|exact wN h|subst (h:(_:Bool)=_)|skip)|(refine wQ ?_;clear hQ hR hE hM)|fail)
  all_goals (first|(grind[zf2,zgN])|(refine ⟨?_, ?_⟩<;>first|(grind[zf2,zgN])|(simp;done)))
 ·clear c1 c2
  (have hX:=@ht;(repeat' first|refine zaa [0,1,2,3,4,5,6,7,8,10,11,13,15,16,17,19,36,62,79,93,94,95,96,99,100,101,102,113,119,120,121,122,161] fun K hK=>?_|(refine hK.go ?_;clear hK K)|with_reducible exact wT|refine wA ?_|(refine wB (fun h=>?_) (fun h=>?_)<;>first|exact wN h|subst (h:(_:Bool)=_)|skip)|(refine wQ ?_;clear hQ hR hE hM)|fail);all_goals clear hX)
  obtain ⟨L,hL⟩:∃ L,L=[r.path,r.over]:=⟨_,rfl⟩
  have hLl:L.length=2:=by rw[hL];rfl
  have hLf:L.flatten=r.path++r.over:=by rw[hL];simp
  rw[show [[AV.sl 1 (r.path.map zck)],[AV.sl 1 (r.over.map zck)]]=L.map lst by rw[hL];rfl]
  rw[←hLf]at hr
  have hLb:∀ i,i<2→(nth L i).length≤9223372036854775807:=by
   intro i hi
   rcases (show i=0∨i=1 by omega) with rfl|rfl<;>(rw[hL];simpa [nth] using by omega)
  clear hL hLf
  rw[show (List.replicate 100 (AV.b false)).set e.sec.toNat (AV.b true)=((List.replicate 100 false).set e.sec.toNat true).map AV.b by rw[List.map_set,List.map_replicate]]
  have hp0:((List.replicate 100 false).set e.sec.toNat true).length=100:=by simp
  revert hr hp0
  generalize (List.replicate 100 false).set e.sec.toNat true=m0
  intro hr hp0
  refine zaz (ι:=Nat×(List Bool)) [3,4,5,6,11,93,94,95] (fun z=>[(95,.n z.1)]) (fun z=>[(5,.cells (z.2.map AV.b) true)]) (fun z=>z.1) (2) (fun z=>(z.2.length=100)∧(zos sec z.2 (L.drop z.1).flatten=zos sec m0 L.flatten)) (0,m0) ?_;rintro ⟨k,m⟩ ⟨hk,hp,hg⟩;(try dsimp only at hk hp hg ⊢);rcases Nat.lt_or_ge k 2 with hlt|hge
  ·rw[zag (by omega),List.flatten_cons]at hg
   have hb:=hLb k hlt
   (have hX:=zA @ht @lst.eq_1;(repeat' first|refine zaa [0,1,2,3,4,5,6,7,8,10,11,13,15,16,17,19,36,62,79,93,94,95,96,99,100,101,102,113,119,120,121,122,161] fun K hK=>?_|(refine hK.go ?_;clear hK K)|with_reducible exact wT|refine wA ?_|(refine wB (fun h=>?_) (fun h=>?_)<;>first|exact wN h|subst (h:(_:Bool)=_)|skip)|(refine wQ ?_;clear hQ hR hE hM)|fail);all_goals clear hX)
   refine zaz (ι:=Nat×(List Bool)) [3,4,5,6,11,93,94,95,99,100,101] (fun z=>[(101,.n z.1)]) (fun z=>[(5,.cells (z.2.map AV.b) true)]) (fun z=>z.1) ((nth L k).length) (fun z=>(z.2.length=100)∧(zos sec z.2 ((nth L k).drop z.1++(L.drop (k+1)).flatten)=zos sec m0 L.flatten)) (0,m) ?_;rintro ⟨i,q⟩ ⟨hk,hq,hf'⟩;(try dsimp only at hk hq hf' ⊢);rcases Nat.lt_or_ge i (nth L k).length with hlt|hge
   ·rw[zag (by assumption),List.cons_append,zos]at hf'
    have c2:=zmx hH sec hs (nth (nth L k) i)
    cases hth:zc3 sec (nth (nth L k) i) with
    |false =>
     rw[hth]at c2 hf'
     (have hX:=zA @hs (zA @ht @hq);(repeat' first|refine zaa [0,1,2,3,4,5,6,7,8,10,11,13,15,16,17,19,36,62,79,93,94,95,96,99,100,101,102,113,119,120,121,122,161] fun K hK=>?_|(refine hK.go ?_;clear hK K)|with_reducible exact wT|refine wA ?_|(refine wB (fun h=>?_) (fun h=>?_)<;>first|exact wN h|subst (h:(_:Bool)=_)|skip)|(refine wQ ?_;clear hQ hR hE hM)|refine wC c2 ?_|fail);all_goals clear hX)
     all_goals (rw[hr,←hf'];simp)
    |true =>
     rw[hth]at c2 hf'
     have h0:0≤nth (nth L k) i∧nth (nth L k) i≤99:=by simp only[zc3,Bool.and_eq_true,decide_eq_true_eq]at hth;omega
     (have hX:=zA @hs (zA @ht @hq);(repeat' first|refine zaa [0,1,2,3,4,5,6,7,8,10,11,13,15,16,17,19,36,62,79,93,94,95,96,99,100,101,102,113,119,120,121,122,161] fun K hK=>?_|(refine hK.go ?_;clear hK K)|with_reducible exact wT|refine wA ?_|(refine wB (fun h=>?_) (fun h=>?_)<;>first|exact wN h|subst (h:(_:Bool)=_)|skip)|(refine wQ ?_;clear hQ hR hE hM)|refine wC c2 ?_|fail);all_goals clear hX)
     ·rw[hr,←hf'];simp[*]
     ·exact nY (i+1,q.set (nth (nth L k) i).toNat true) ⟨by (try dsimp only);omega,by (try dsimp only);simp[hq],by (try dsimp only);rw[←hf'];simp[*]⟩
   ·rw[List.drop_eq_nil_of_le (by assumption),List.nil_append]at hf'
    (have hX:=zA @hs (zA @ht @hq);(repeat' first|refine zaa [0,1,2,3,4,5,6,7,8,10,11,13,15,16,17,19,36,62,79,93,94,95,96,99,100,101,102,113,119,120,121,122,161] fun K hK=>?_|(refine hK.go ?_;clear hK K)|with_reducible exact wT|refine wA ?_|(refine wB (fun h=>?_) (fun h=>?_)<;>first|exact wN h|subst (h:(_:Bool)=_)|skip)|(refine wQ ?_;clear hQ hR hE hM)|fail);all_goals clear hX)
    exact nY (k+1,q) ⟨by (try dsimp only);omega,hq,hf'⟩
  ·rw[List.drop_eq_nil_of_le (by omega)]at hg
   rw[←hg]at hr
   clear hg hp0
   simp only[List.flatten_nil,zos,Bool.true_and]at hr
   (repeat' first|refine zaa [0,1,2,3,4,5,6,7,8,10,11,13,15,16,17,19,36,62,79,93,94,95,96,99,100,101,102,113,119,120,121,122,161] fun K hK=>?_|(refine hK.go ?_;clear hK K)|with_reducible exact wT|refine wA ?_|(refine wB (fun h=>?_) (fun h=>?_)<;>first|exact wN h|subst (h:(_:Bool)=_)|skip)|(refine wQ ?_;clear hQ hR hE hM)|fail)
   refine zaz (ι:=Nat) [3,4,6,119,120,121] (fun z=>[(121,.n z)]) (fun _=>[]) (fun z=>z) (r.flanks.length) (fun z=>(flkG p.points (zkj (r.flanks.map Flk.pnt) z) (r.flanks.drop z)=flkG p.points none r.flanks)) (0) ?_;rintro k2 ⟨hk,hf'⟩;(try dsimp only at hk hf' ⊢);rcases Nat.lt_or_ge k2 r.flanks.length with hlt|hge
   ·rw[zag (by assumption),flkG,←zki Flk.pnt (by assumption)]at hf'
    have c3:=find_pnt hH hI p.points h2 (nth r.flanks k2).pnt
    unfold zqo at hf'
    rw[zpl Flk.pnt (by assumption)]at hf'
    revert c3 hf'
    generalize (p.points.find? fun x=>decide (x.id=(nth r.flanks k2).pnt)).isSome=ic
    generalize (p.points.find? fun x=>decide (x.id=(nth r.flanks k2).pnt)).getD Pnt.z=y
    intro hf' c3
    (repeat' first|refine zaa [0,1,2,3,4,5,6,7,8,10,11,13,15,16,17,19,36,62,79,93,94,95,96,99,100,101,102,113,119,120,121,122,161] fun K hK=>?_|(refine hK.go ?_;clear hK K)|with_reducible exact wT|refine wA ?_|(refine wB (fun h=>?_) (fun h=>?_)<;>first|exact wN h|subst (h:(_:Bool)=_)|skip)|(refine wQ ?_;clear hQ hR hE hM)|refine wC c3 ?_|fail)
    all_goals first|(first|rw[if_pos (show 0<(k2:Int) by assumption)]at hf'|rw[if_neg (show ¬0<(k2:Int) by assumption)]at hf'|skip)
    all_goals (clear c3;(try clear hQ hR);(try generalize (nth r.flanks ((k2:Int)-1).toNat).pnt=y0 at *))
    all_goals first|(rw[hr,←hf'];clear hr hf';simp[*];done)|(refine ⟨k2+1,by omega,⟨by omega, ?_⟩,by omega⟩;rw[←hf'];clear hf' hr;simp[*];done)
   ·rw[List.drop_eq_nil_of_le (by assumption),flkG]at hf'
    (repeat' first|refine zaa [0,1,2,3,4,5,6,7,8,10,11,13,15,16,17,19,36,62,79,93,94,95,96,99,100,101,102,113,119,120,121,122,161] fun K hK=>?_|(refine hK.go ?_;clear hK K)|with_reducible exact wT|refine wA ?_|(refine wB (fun h=>?_) (fun h=>?_)<;>first|exact wN h|subst (h:(_:Bool)=_)|skip)|(refine wQ ?_;clear hQ hR hE hM)|fail)
    rw[hr,←hf']
end Go.Lev
namespace Go.Lev
open Go.Eng
theorem at_self {l:List Section} (hs:zfS l) {i:Nat} (hi:i<l.length):ze9 (nth l i).id 0 l=i:=by
 rcases zeg (nth l i).id l 0 with ⟨_,h⟩|⟨p,h1,h2,h3⟩
 ·exact absurd rfl (h i hi)
 ·rcases Nat.lt_trichotomy p i with h|h|h
  ·have:=hs p i h hi;omega
  ·omega
  ·have:=hs i p h h1;omega
def Pw (x s:Section):Prop:=x.id<s.id∧(s.pt≠0→x.pt≠s.pt)
def One (s:Section):Prop:=1≤s.id∧s.id≤99∧zbp s=true
def zqW (l:List Section) (s:Section) (e:Nat):Prop :=
 ((nth s.ends e).to=0∧(nth s.ends e).ed=0)∨(¬((nth s.ends e).to=s.id∧(nth s.ends e).ed=(e:Int))∧0≤(nth s.ends e).ed∧∃ s'∈l,s'.id=(nth s.ends e).to∧(nth s.ends e).ed<s'.ends.length∧nth s'.ends (nth s.ends e).ed.toNat=⟨s.id,e⟩)
structure MayP (l:List Section):Prop where
 len:l.length≤16
 one:∀ s∈l,One s
 pw:l.Pairwise Pw
 join:∀ s∈l,∀ e,e<s.ends.length→zqW l s e
theorem zpi (l:List Section):zgE [] l=true↔(∀ s∈l,One s)∧l.Pairwise Pw:=by
 have h2:=zhs l l 0 rfl
 rw[List.take_zero]at h2
 rw[h2]
 constructor
 ·intro h
  refine ⟨fun s hs=>?_, ?_⟩
  ·obtain ⟨i,hi,rfl⟩:=List.mem_iff_getElem.1 hs
   have:=h i (Nat.zero_le _) hi
   rw[←zay hi]
   exact ⟨this.1,this.2.1,this.2.2.1⟩
  ·rw[List.pairwise_iff_getElem]
   intro i j hi hj hij
   rw[←zay hi,←zay hj]
   exact (h j (Nat.zero_le _) hj).2.2.2 i hij
 ·rintro ⟨h1,h3⟩ j _ hj
  have h4:=h1 _ (zae hj)
  refine ⟨h4.1,h4.2.1,h4.2.2,fun i hi=>?_⟩
  rw[List.pairwise_iff_getElem]at h3
  have:=h3 i j (by omega) hj hi
  rw[←zay (show i<l.length by omega),←zay hj]at this
  exact this
theorem znx {l:List Section} (hs:zfS l) {s:Section} (h:s∈l):nth l (ze9 s.id 0 l).toNat=s∧0≤ze9 s.id 0 l:=by
 obtain ⟨i,hi,rfl⟩:=List.mem_iff_getElem.1 h
 rw[←zay hi,at_self hs hi]
 simp
theorem zkg {l:List Section} (hs:zfS l) (s:Section) (e:Nat):zcs l s e=true↔zqW l s e:=by
 unfold zcs zqW
 by_cases h0:(nth s.ends e).to=0∧(nth s.ends e).ed=0
 ·simp[h0]
 ·rw[if_neg h0]
  simp only[h0,false_or]
  constructor
  ·intro h
   split at h
   ·cases h
   ·rename_i hn
    simp only[not_or]at hn
    obtain ⟨h1,h2,h3,h4⟩:=hn
    simp only[Bool.and_eq_true,decide_eq_true_eq]at h
    rcases zeg (nth s.ends e).to l 0 with ⟨g1,_⟩|⟨p,g1,g2,g3⟩
    ·omega
    ·have ep:(ze9 (nth s.ends e).to 0 l).toNat=p:=by rw[g2];omega
     rw[ep]at h h3
     refine ⟨h4,by omega,nth l p,zae g1,g3,by omega, ?_⟩
     rw[zpK]
     exact h
  ·rintro ⟨h4,h2,s',hs',h5,h6,h7⟩
   obtain ⟨g1,g2⟩:=znx hs hs'
   rw[h5]at g1 g2
   rw[if_neg (by rw[g1];omega),g1,h7]
   simp
theorem zkf (l:List Section):zep l=true↔MayP l:=by
 constructor
 ·intro h
  have hs:=zio h
  have h':=h
  unfold zep znK at h'
  simp only[Bool.and_eq_true,Bool.not_eq_true',decide_eq_false_iff_not,List.all_eq_true,zpi]at h'
  obtain ⟨⟨h1,h2,h3⟩,h4⟩:=h'
  refine ⟨by omega,h2,h3,fun s hsm e he=>?_⟩
  exact (zkg hs s e).1 ((ze5 _ _ _).1 (h4 s hsm) e (Nat.zero_le _) (by omega))
 ·rintro ⟨h1,h2,h3,h4⟩
  have hm1:=(zpi l).2 ⟨h2,h3⟩
  have hs:=zg6 ((zgS l).trans hm1)
  unfold zep znK
  simp only[Bool.and_eq_true,Bool.not_eq_true',decide_eq_false_iff_not,List.all_eq_true]
  exact ⟨⟨by omega,hm1⟩,fun s hsm=>(ze5 _ _ _).2 fun e _ he=>(zkg hs s e).2 (h4 s hsm e (by omega))⟩
theorem zka:∀ (l:List Int) (p:Option Int),zdH p l=true↔(∀ x∈l,1≤x∧x≤99)∧l.Pairwise (· < ·)∧∀ y,p=some y→∀ x∈l,y<x
 |[],p=>by simp[zdH]
 |x::r,p=>by
  simp only[zdH,Bool.and_eq_true,Bool.not_eq_true',decide_eq_false_iff_not,zka r (some x),List.pairwise_cons,List.mem_cons,forall_eq_or_imp,Option.some.injEq,forall_eq']
  constructor
  ·rintro ⟨⟨⟨h1,h2⟩,h3⟩,h4,h5,h6⟩
   refine ⟨⟨by omega,h4⟩,⟨h6,h5⟩,fun y hy=>?_⟩
   subst hy
   simp only[decide_eq_false_iff_not]at h3
   exact ⟨by omega,fun z hz=>by have:=h6 z hz;omega⟩
  ·rintro ⟨⟨h1,h4⟩,⟨h6,h5⟩,h7⟩
   refine ⟨⟨⟨by omega,by omega⟩, ?_⟩,h4,h5,h6⟩
   cases p with
   |none=>rfl
   |some y=>simp only[decide_eq_false_iff_not];have:=(h7 y rfl).1;omega
theorem zfo (l:List Int) (most:Int):rise l most=true↔(∀ x∈l,1≤x∧x≤99)∧l.Pairwise (· < ·)∧(l.length:Int)≤most:=by
 simp only[rise,Bool.and_eq_true,zka,decide_eq_true_eq]
 constructor
 ·rintro ⟨⟨h1,h2,_⟩,h3⟩;exact ⟨h1,h2,h3⟩
 ·rintro ⟨h1,h2,h3⟩;exact ⟨⟨h1,h2,fun y hy=>by cases hy⟩,h3⟩
theorem zjr {l:List Int} (h:l.Pairwise (· < ·)):l.Nodup:=h.imp fun {a b} hab=>by omega
theorem zl4 {α:Type} (f:α→Int):∀ {l:List α},(l.map f).Nodup→∀ {x:α},x∈l→l.find? (fun y=>decide (f y=f x))=some x
 |[],_,x,h=>by cases h
 |y::r,hn,x,h=>by
  simp only[List.map_cons,List.nodup_cons]at hn
  simp only[List.find?_cons]
  rcases List.mem_cons.1 h with rfl|h
  ·simp
  ·have:f y≠f x:=fun e=>hn.1 (e▸List.mem_map_of_mem h)
   simp only[this,decide_false]
   exact zl4 f hn.2 h
theorem zea {α:Type} {f:α→Int} {l:List α} {n:Int} {x:α} (h:l.find? (fun y=>decide (f y=n))=some x):x∈l∧f x=n:=by
 refine ⟨List.mem_of_find?_eq_some h, ?_⟩
 have:=List.find?_some h
 simpa using this
theorem zqr {α:Type} {f:α→Int} {l:List α} {n:Int} (h:l.find? (fun y=>decide (f y=n))=none):∀ x∈l,f x≠n:=by
 simpa using h
theorem zhD {α:Type} [Inhabited α] (n:Nat) (x:α) (i:Nat) (h:i<n):nth (List.replicate n x) i=x:=by
 rw[zay (by simpa using h)];simp
theorem zdR:∀ (l:List Section) (a:List Int) (i:Nat),(∀ s∈l,0≤s.id∧s.id.toNat<a.length)→(∀ s∈l,s.id.toNat≠i)→nth (zhP a l) i=nth a i
 |[],a,i,_,_=>rfl
 |s::r,a,i,h,hi=>by
  rw[zhP,zdR r _ i (fun t ht=>by have:=h t (by simp[ht]);simpa using this) (fun t ht=>hi t (by simp[ht])),zbg _ _ _ _ (h s (by simp)).2,if_neg (fun e=>hi s (by simp) e.symm)]
theorem znc:∀ (l:List Section) (a:List Int),(∀ s∈l,0≤s.id∧s.id.toNat<a.length)→(l.map Section.id).Nodup→∀ s∈l,nth (zhP a l) s.id.toNat=s.ends.length
 |[],_,_,_,s,h=>by cases h
 |t::r,a,h,hn,s,hs=>by
  simp only[List.map_cons,List.nodup_cons]at hn
  have h':∀ u∈r,0≤u.id∧u.id.toNat<(a.set t.id.toNat t.ends.length).length:=fun u hu=>by have:=h u (by simp[hu]);simpa using this
  rw[zhP]
  rcases List.mem_cons.1 hs with rfl|hs
  ·rw[zdR r _ _ h' fun u hu e=>hn.1 ?_,zbg _ _ _ _ (h s (by simp)).2,if_pos rfl]
   have h1:=(h s (by simp)).1
   have h2:=(h u (by simp[hu])).1
   rw[show s.id=u.id by omega]
   exact List.mem_map_of_mem hu
  ·exact znc r _ h' hn.2 s hs
def zbA (p:Pln):Bool:=(!decide (p.version<1)&&(!decide (2147483647<p.version)&&(!decide (p.parent<0)&&(!decide (p.version≤p.parent)&&zep p.sections))))&&(points p&&(signals p (ends p.sections)&&(rise (p.routes.map Rte.id) 16&&p.routes.all fun r=>zgD p r (ends p.sections))))
theorem zbd {l:List Section} (h:zep l=true):SecOK l:=fun s hs=>by
 have h1:=(zkf l).1 h
 obtain ⟨h2,h3,h4⟩:=h1.one s hs
 unfold zbp at h4
 refine ⟨h2,h3, ?_⟩
 split at h4<;>simp at h4<;>omega
theorem secIds {l:List Section} (h:zep l=true):(l.map Section.id).Pairwise (· < ·):=by
 rw[List.pairwise_map]
 exact ((zkf l).1 h).pw.imp fun {a b} hab=>hab.1
theorem zl5 {l:List Section} (h:zep l=true) {s:Section} (hs:s∈l):nth (ends l) s.id.toNat=s.ends.length:=by
 have h1:=zbd h
 exact znc l _ (fun t ht=>by have:=h1 t ht;simp;omega) (zjr (secIds h)) s hs
theorem zoD {l:List Section} (h:zep l=true) (n:Int):zc3 (ends l) n=true↔∃ s∈l,s.id=n:=by
 have h1:=zbd h
 simp only[zc3,Bool.and_eq_true,decide_eq_true_eq]
 constructor
 ·rintro ⟨⟨h2,h3⟩,h4⟩
  rcases Classical.em (∃ s∈l,s.id=n) with h5|h5
  ·exact h5
  ·exfalso
   rw[ends,zdR l _ _ (fun t ht=>by have:=h1 t ht;simp;omega) (fun s hs e=>h5 ⟨s,hs,by have:=h1 s hs;omega⟩),zhD _ _ _ (by omega)]at h4
   omega
 ·rintro ⟨s,hs,rfl⟩
  have h2:=h1 s hs
  have h3:=((zkf l).1 h).one s hs
  rw[zl5 h hs]
  refine ⟨⟨by omega,by omega⟩, ?_⟩
  obtain ⟨_,_,h4⟩:=h3
  unfold zbp at h4
  split at h4<;>simp at h4<;>omega
theorem ends_le {l:List Section} (h:zep l=true) (i:Nat):nth (ends l) i≤3:=by
 rcases Classical.em (∃ s∈l,s.id.toNat=i) with ⟨s,hs,rfl⟩|h5
 ·rw[zl5 h hs];have:=zbd h s hs;omega
 ·have h1:=zbd h
  rw[ends,zdR l _ _ (fun t ht=>by have:=h1 t ht;simp;omega) (fun s hs e=>h5 ⟨s,hs,e⟩)]
  rcases Nat.lt_or_ge i 100 with hi|hi
  ·rw[zhD _ _ _ hi];omega
  ·simp[nth,hi]
theorem zg9 (sec:List Int):∀ (l:List Sgn) (a:List Bool),zj3 sec a l=true→∀ x∈l,zc3 sec x.sec=true∧0≤x.ed∧x.ed<nth sec x.sec.toNat
 |[],_,_,x,h=>by cases h
 |y::r,a,h,x,hx=>by
  simp only[zj3,zdT,Bool.and_eq_true,Bool.not_eq_true',Bool.or_eq_false_iff,Bool.not_eq_false',decide_eq_false_iff_not]at h
  rcases List.mem_cons.1 hx with rfl|hx
  ·exact ⟨h.1.1,by omega,by omega⟩
  ·exact zg9 sec r _ h.2 x hx
theorem zmV (sec:List Int):∀ (l:List Int) (m:List Bool),m.length=100→(zos sec m l=true↔(∀ x∈l,zc3 sec x=true∧nth m x.toNat=false)∧l.Nodup)
 |[],m,_=>by simp[zos]
 |x::r,m,hm=>by
  simp only[zos,Bool.and_eq_true,Bool.not_eq_true',Bool.or_eq_false_iff,Bool.not_eq_false',zmV sec r (m.set x.toNat true) (by simpa using hm),List.mem_cons,forall_eq_or_imp,List.nodup_cons]
  constructor
  ·rintro ⟨⟨h1,h2⟩,h3,h4⟩
   have h0:0≤x∧x≤99:=by simp only[zc3,Bool.and_eq_true,decide_eq_true_eq]at h1;omega
   have hne:∀ y∈r,y≠x:=fun y hy e=>by
    have:=(h3 y hy).2
    rw[e,zbg _ _ _ _ (by omega),if_pos rfl]at this
    cases this
   refine ⟨⟨⟨h1,h2⟩,fun y hy=>⟨(h3 y hy).1, ?_⟩⟩,fun hx=>hne x hx rfl,h4⟩
   have h5:=h3 y hy
   have h6:0≤y∧y≤99:=by simp only[zc3,Bool.and_eq_true,decide_eq_true_eq]at h5;omega
   rw[zbg _ _ _ _ (by omega),if_neg (by have:=hne y hy;omega)]at h5
   exact h5.2
  ·rintro ⟨⟨⟨h1,h2⟩,h3⟩,h4,h5⟩
   have h0:0≤x∧x≤99:=by simp only[zc3,Bool.and_eq_true,decide_eq_true_eq]at h1;omega
   refine ⟨⟨h1,h2⟩,fun y hy=>⟨(h3 y hy).1, ?_⟩,h5⟩
   have h6:0≤y∧y≤99:=by have:=(h3 y hy).1;simp only[zc3,Bool.and_eq_true,decide_eq_true_eq]at this;omega
   rw[zbg _ _ _ _ (by omega),if_neg (fun e=>h4 (by rw[show x=y by omega];exact hy))]
   exact (h3 y hy).2
theorem zm7 (pts:List Pnt):∀ (l:List Flk) (pr:Option Int),flkG pts pr l=true→∀ f∈l,(∃ x∈pts,x.id=f.pnt)∧(f.lie=1∨f.lie=2)
 |[],_,_,f,h=>by cases h
 |y::r,pr,h,f,hf=>by
  simp only[flkG,zqo,Bool.and_eq_true,Bool.not_eq_true',Bool.or_eq_false_iff,Bool.not_eq_false',Bool.and_eq_false_imp,decide_eq_false_iff_not,decide_eq_true_eq]at h
  rcases List.mem_cons.1 hf with rfl|hf
  ·obtain ⟨⟨h1,h2,h3⟩,_⟩:=h
   obtain ⟨x,hx⟩:=Option.isSome_iff_exists.1 h1
   refine ⟨⟨x,(zea hx).1,(zea hx).2⟩, ?_⟩
   rcases Classical.em (f.lie=1) with h4|h4
   ·exact .inl h4
   ·exact .inr (by have:=h3;simp[h4]at this;exact this)
  ·exact zm7 pts r _ h.2 f hf
end Go.Lev
namespace Go.Lev
open Go.Eng
set_option maxRecDepth 10000
set_option maxHeartbeats 4000000
variable {P:Program} {inv:Nat→Option Nat}
def nextS (x:Section×Int) (e:Int):Join×Int:=if x.2=0 then (if e<0∨(x.1.ends.length:Int)≤e then (⟨0,0⟩,2) else (nth x.1.ends e.toNat,0)) else (⟨0,0⟩,x.2)
def zbf (l:List Section) (id e:Int):Join×Int:=nextS (zaw l id) e
theorem zez (hH:HasAll P inv) (l:List Section) (id:Int) (hl:l.length≤1000000000) (he:∀ s∈l,s.ends.length≤1000000):PC P inv 22 [.sl 3 (l.map Section.c),.n id] (·=.tup [.agg (zaw l id).1.c,.n (zaw l id).2]):=find_eq l id▸find_pc hH l id hl he
theorem zlE (hH:HasAll P inv) (l:List Section) (id e:Int) (hl:l.length≤1000000000) (he:∀ s∈l,s.ends.length≤1000000):PC P inv 24 [.sl 3 (l.map Section.c),.n id,.n e] (·=.tup [.agg (zbf l id e).1.c,.n (zbf l id e).2]):=by
 refine PC.fn hH cd24 fun w0 M Q hM hE hQ hR=>?_;dsimp only[cd24,qm,ql,qf,qi,qb,qc,qp,qv,qN,qT,qF,qt]at hQ ⊢
 (repeat' first|refine zaa [0,1,2,6,7,8,9,16,21] fun K hK=>?_|(refine hK.go ?_;clear hK K)|with_reducible exact wT|refine wA ?_|(refine wB (fun h=>?_) (fun h=>?_)<;>first|exact wN h|subst (h:(_:Bool)=_)|skip)|(refine wQ ?_;clear hQ hR hE hM)|(refine zaj hM (zez hH _ _ hl he) ?_;try (refine no_implicit_lambda% (st ?_);try with_reducible exact wT))|fail)
 all_goals (simp[zbf,nextS, *])
def threeL:List Section:=[⟨1,0,[⟨2,0⟩,⟨0,0⟩]⟩,⟨2,5,[⟨1,0⟩,⟨3,0⟩,⟨3,1⟩]⟩,⟨3,0,[⟨2,1⟩,⟨2,2⟩]⟩]
end Go.Lev
namespace Go.Lev
open Go.Eng
set_option maxRecDepth 10000
set_option maxHeartbeats 4000000
variable {P:Program} {inv:Nat→Option Nat}
structure Sm (p:Pln):Prop where
 sec:p.sections.length≤1000000
 ends:∀ s∈p.sections,s.ends.length≤9223372036854775807
 pts:p.points.length≤1000000
 sgn:p.signals.length≤1000000
 rte:p.routes.length≤1000000
 rtes:∀ r∈p.routes,r.path.length≤9223372036854775807∧r.over.length≤9223372036854775807∧r.flanks.length≤9223372036854775807
theorem zqG (hH:HasAll P inv) (l:List Section) (hl:l.length≤1000000000) (he:∀ s∈l,s.ends.length≤9223372036854775807):PC P inv 26 [.sl 3 (l.map Section.c)] (·=.n (zdx l)):=zng l▸zjJ hH l hl he
def zbV (p:Pln):Int:=if zbA p=true then 0 else 8
theorem sgn_sec {p:Pln} (hm:zep p.sections=true) (h:signals p (ends p.sections)=true):∀ x∈p.signals,0≤x.sec∧x.sec≤99:=fun x hx=>by
 simp only[signals,Bool.and_eq_true]at h
 have:=(zg9 _ _ _ h.2 x hx).1
 simp only[zc3,Bool.and_eq_true,decide_eq_true_eq]at this
 omega
theorem zd5 (hH:HasAll P inv) (hI:HasIds P inv) (p:Pln) (hp:Sm p):PC P inv 95 [.agg p.c] (·=.n (zbV p)):=by
 have hlr:=hp.rte
 have c0:=zqG hH p.sections (Nat.le_trans hp.sec (by omega)) hp.ends
 cases hm:zep p.sections with
 |false =>
  rw[show zdx p.sections=8 by simp[zdx,hm]]at c0
  rw[show zbV p=8 by simp[zbV,zbA,hm]]
  refine PC.fn hH cd95 fun w0 M Q hM hE hQ hR=>?_;dsimp only[cd95,qm,ql,qf,qi,qb,qc,qp,qv,qN,qT,qF,qt]at hQ ⊢
  (repeat' first|refine zaa [0,1,2,3,5,31,49,51,52,53,54,61] fun K hK=>?_|(refine hK.go ?_;clear hK K)|with_reducible exact wT|refine wA ?_|(refine wB (fun h=>?_) (fun h=>?_)<;>first|exact wN h|subst (h:(_:Bool)=_)|skip)|(refine wQ ?_;clear hQ hR hE hM)|refine wC c0 ?_|fail)
  all_goals (first|rfl|omega)
 |true =>
  rw[show zdx p.sections=0 by simp[zdx,hm]]at c0
  have c1:=ends_pc hH p.sections (Nat.le_trans hp.sec (by omega)) (zbd hm)
  have c2:=zpn hH hI p (Nat.le_trans hp.sec (by omega)) (Nat.le_trans hp.pts (by omega)) (zbd hm)
  have c3:=zny hH hI p (Nat.le_trans hp.sgn (by omega)) (ends p.sections) (znb _) (ends_le hm)
  have c4:=znG hH hI p.routes 16 (Nat.le_trans hp.rte (by omega))
  have hlen:=znb p.sections
  have ht:((ends p.sections).map AV.n).take 100=(ends p.sections).map AV.n:=List.take_of_length_le (by simp[hlen])
  have hov:ovl (List.replicate 100 (AV.i .i64 0)) 0 ((ends p.sections).map AV.n)=(ends p.sections).map AV.n:=by
   rw[zhA _ _ _ (by simp[hlen]),List.take_zero,List.nil_append,List.drop_eq_nil_of_le (by simp[hlen]),List.append_nil]
  cases hv:(points p&&(signals p (ends p.sections)&&rise (p.routes.map Rte.id) 16)) with
  |false =>
   rw[show zbV p=8 by
    unfold zbV
    rw[if_neg]
    intro h
    simp only[zbA,Bool.and_eq_true]at h
    rw[h.2.1,h.2.2.1,h.2.2.2.1]at hv
    cases hv]
   refine PC.fn hH cd95 fun w0 M Q hM hE hQ hR=>?_;dsimp only[cd95,qm,ql,qf,qi,qb,qc,qp,qv,qN,qT,qF,qt]at hQ ⊢
   (have hX:=zA @hlen (zA @ht @hov);(repeat' first|refine zaa [0,1,2,3,5,31,49,51,52,53,54,61] fun K hK=>?_|(refine hK.go ?_;clear hK K)|with_reducible exact wT|refine wA ?_|(refine wB (fun h=>?_) (fun h=>?_)<;>first|exact wN h|subst (h:(_:Bool)=_)|skip)|(refine wQ ?_;clear hQ hR hE hM)|refine wC c0 ?_|refine wC c1 ?_|refine wC c2 ?_|refine wC c3 ?_|refine wC c4 ?_|fail);all_goals clear hX)
   all_goals (first|rfl|omega|(simp_all;done))
  |true =>
   simp only[Bool.and_eq_true]at hv
   rw[hv.1]at c2
   rw[hv.2.1]at c3
   rw[hv.2.2]at c4
   have hsg:=sgn_sec hm hv.2.1
   have h0:zbV p=if (decide (p.version<1)||(decide (2147483647<p.version)||(decide (p.parent<0)||decide (p.version≤p.parent))))=true then 8 else if (p.routes.all fun r=>zgD p r (ends p.sections))=true then 0 else 8:=by
    simp only[zbV,zbA,hm,hv.1,hv.2.1,hv.2.2]
    cases decide (p.version<1)<;>cases decide (2147483647<p.version)<;>cases decide (p.parent<0)<;>cases decide (p.version≤p.parent)<;>simp
   refine PC.fn hH cd95 fun w0 M Q hM hE hQ hR=>?_;dsimp only[cd95,qm,ql,qf,qi,qb,qc,qp,qv,qN,qT,qF,qt]at hQ ⊢
   (have hX:=zA @hlen (zA @ht @hov);(repeat' first|refine zaa [0,1,2,3,5,31,49,51,52,53,54,61] fun K hK=>?_|(refine hK.go ?_;clear hK K)|with_reducible exact wT|refine wA ?_|(refine wB (fun h=>?_) (fun h=>?_)<;>first|exact wN h|subst (h:(_:Bool)=_)|skip)|(refine wQ ?_;clear hQ hR hE hM)|refine wC c0 ?_|refine wC c1 ?_|refine wC c2 ?_|refine wC c3 ?_|refine wC c4 ?_|fail);all_goals clear hX)
   all_goals try (rw[h0,if_pos (by simp[*])];done)
   refine zaz (ι:=Nat) [1,2,3,51,52,53] (fun z=>[(53,.n z)]) (fun _=>[]) (fun z=>z) (p.routes.length) (fun z=>(((p.routes.drop z).all fun r=>zgD p r (ends p.sections))=(p.routes.all fun r=>zgD p r (ends p.sections)))) (0) ?_;rintro k ⟨hk,hg⟩;(try dsimp only at hk hg ⊢);rcases Nat.lt_or_ge k p.routes.length with hlt|hge
   ·rw[zag hlt]at hg
    rw[List.all_cons]at hg
    (have hX:=zA @hlen (zA @ht @hov);(repeat' first|refine zaa [0,1,2,3,5,31,49,51,52,53,54,61] fun K hK=>?_|(refine hK.go ?_;clear hK K)|with_reducible exact wT|refine wA ?_|(refine wB (fun h=>?_) (fun h=>?_)<;>first|exact wN h|subst (h:(_:Bool)=_)|skip)|(refine wQ ?_;clear hQ hR hE hM)|(refine zaj hM (route_pc hH hI p (nth p.routes k) (Nat.le_trans hp.sgn (by omega)) (Nat.le_trans hp.pts (by omega)) (Nat.le_trans (hp.rtes _ (zae hlt)).2.2 (by omega)) (Nat.le_trans (hp.rtes _ (zae hlt)).1 (by omega)) (Nat.le_trans (hp.rtes _ (zae hlt)).2.1 (by omega)) _ hlen hsg) ?_;try (refine no_implicit_lambda% (st ?_);try with_reducible exact wT))|fail);all_goals clear hX)
    ·rw[h0,←hg];simp[*]
    ·exact nY (k+1) ⟨by (try dsimp only);omega,by (try dsimp only);rw[←hg];simp[*]⟩
   ·rw[List.drop_eq_nil_of_le hge]at hg
    (repeat' first|refine zaa [0,1,2,3,5,31,49,51,52,53,54,61] fun K hK=>?_|(refine hK.go ?_;clear hK K)|with_reducible exact wT|refine wA ?_|(refine wB (fun h=>?_) (fun h=>?_)<;>first|exact wN h|subst (h:(_:Bool)=_)|skip)|(refine wQ ?_;clear hQ hR hE hM)|fail)
    rw[h0,←hg,if_neg (by simp[*])];rfl
theorem zcy (hH:HasAll P inv) (l:List Int) (h:l.length≤1000000):PC P inv 108 [.sl 1 (l.map zck)] (·=.sl 1 (l.map zck)):=by
 refine PC.fn hH cd108 fun w0 M Q hM hE hQ hR=>?_;dsimp only[cd108,qm,ql,qf,qi,qb,qc,qp,qv,qN,qT,qF,qt]at hQ ⊢
 (repeat' first|refine zaa [0,2,4] fun K hK=>?_|(refine hK.go ?_;clear hK K)|with_reducible exact wT|refine wA ?_|(refine wB (fun h=>?_) (fun h=>?_)<;>first|exact wN h|subst (h:(_:Bool)=_)|skip)|(refine wQ ?_;clear hQ hR hE hM)|fail)
 ·have h0:l.length=0:=by assumption
  obtain rfl:=List.length_eq_zero_iff.1 h0
  rfl
theorem zl8 (hH:HasAll P inv) (l:List Flk) (h:l.length≤1000000):PC P inv 128 [.sl 2 (l.map Flk.c)] (·=.sl 2 (l.map Flk.c)):=by
 refine PC.fn hH cd128 fun w0 M Q hM hE hQ hR=>?_;dsimp only[cd128,qm,ql,qf,qi,qb,qc,qp,qv,qN,qT,qF,qt]at hQ ⊢
 (repeat' first|refine zaa [0,2,4] fun K hK=>?_|(refine hK.go ?_;clear hK K)|with_reducible exact wT|refine wA ?_|(refine wB (fun h=>?_) (fun h=>?_)<;>first|exact wN h|subst (h:(_:Bool)=_)|skip)|(refine wQ ?_;clear hQ hR hE hM)|fail)
 ·have h0:l.length=0:=by assumption
  obtain rfl:=List.length_eq_zero_iff.1 h0
  rfl
theorem znp (hH:HasAll P inv) (r:Rte) (h:r.path.length≤1000000∧r.over.length≤1000000∧r.flanks.length≤1000000):PC P inv 99 [.agg r.c] (·=.agg r.c):=by
 refine PC.fn hH cd99 fun w0 M Q hM hE hQ hR=>?_;dsimp only[cd99,qm,ql,qf,qi,qb,qc,qp,qv,qN,qT,qF,qt]at hQ ⊢
 (repeat' first|refine zaa [0,1,2] fun K hK=>?_|(refine hK.go ?_;clear hK K)|with_reducible exact wT|refine wA ?_|(refine wB (fun h=>?_) (fun h=>?_)<;>first|exact wN h|subst (h:(_:Bool)=_)|skip)|(refine wQ ?_;clear hQ hR hE hM)|(refine zaj hM (zcy hH _ h.1) ?_;try (refine no_implicit_lambda% (st ?_);try with_reducible exact wT))|(refine zaj hM (zcy hH _ h.2.1) ?_;try (refine no_implicit_lambda% (st ?_);try with_reducible exact wT))|(refine zaj hM (zl8 hH _ h.2.2) ?_;try (refine no_implicit_lambda% (st ?_);try with_reducible exact wT))|fail)
def zcK (p:Pln) (n:Int):Rte×Int:=if zbA p=true then (match p.routes.find? fun x=>decide (x.id=n) with|some r=>(r,0)|none=>(Rte.z,6)) else (Rte.z,8)
theorem zmg (hH:HasAll P inv) (hI:HasIds P inv) (p:Pln) (hp:Sm p) (n:Int):PC P inv 98 [.agg p.c,.sl 7 (p.routes.map Rte.c),.n n] (·=.tup [.agg (zcK p n).1.c,.n (zcK p n).2]):=by
 have c0:=zd5 hH hI p hp
 have c1:=find_rte hH hI p.routes (Nat.le_trans hp.rte (by omega)) n
 cases ho:zbA p with
 |false =>
  rw[show zbV p=8 by simp[zbV,ho]]at c0
  rw[show zcK p n=(Rte.z,8) by simp[zcK,ho]]
  refine PC.fn hH cd98 fun w0 M Q hM hE hQ hR=>?_;dsimp only[cd98,qm,ql,qf,qi,qb,qc,qp,qv,qN,qT,qF,qt]at hQ ⊢
  (repeat' first|refine zaa [0,1,2,3,6,7,8,9,10,11,15,25] fun K hK=>?_|(refine hK.go ?_;clear hK K)|with_reducible exact wT|refine wA ?_|(refine wB (fun h=>?_) (fun h=>?_)<;>first|exact wN h|subst (h:(_:Bool)=_)|skip)|(refine wQ ?_;clear hQ hR hE hM)|refine wC c0 ?_|fail)
  all_goals (first|rfl|omega)
 |true =>
  rw[show zbV p=0 by simp[zbV,ho]]at c0
  unfold zcK
  rw[if_pos ho]
  revert c1
  generalize (p.routes.find? fun x=>decide (x.id=n))=x
  intro c1
  cases x with
  |none =>
   refine PC.fn hH cd98 fun w0 M Q hM hE hQ hR=>?_;dsimp only[cd98,qm,ql,qf,qi,qb,qc,qp,qv,qN,qT,qF,qt]at hQ ⊢
   (have hX:=zA @Option.isSome_none.{0} (zA @Option.isSome_some.{0} (zA @Option.getD_none.{0} @Option.getD_some.{0}));(repeat' first|refine zaa [0,1,2,3,6,7,8,9,10,11,15,25] fun K hK=>?_|(refine hK.go ?_;clear hK K)|with_reducible exact wT|refine wA ?_|(refine wB (fun h=>?_) (fun h=>?_)<;>first|exact wN h|subst (h:(_:Bool)=_)|skip)|(refine wQ ?_;clear hQ hR hE hM)|refine wC c0 ?_|refine wC c1 ?_|fail);all_goals clear hX)
   all_goals (first|rfl|omega)
  |some r =>
   refine PC.fn hH cd98 fun w0 M Q hM hE hQ hR=>?_;dsimp only[cd98,qm,ql,qf,qi,qb,qc,qp,qv,qN,qT,qF,qt]at hQ ⊢
   (have hX:=zA @Option.isSome_none.{0} (zA @Option.isSome_some.{0} (zA @Option.getD_none.{0} @Option.getD_some.{0}));(repeat' first|refine zaa [0,1,2,3,6,7,8,9,10,11,15,25] fun K hK=>?_|(refine hK.go ?_;clear hK K)|with_reducible exact wT|refine wA ?_|(refine wB (fun h=>?_) (fun h=>?_)<;>first|exact wN h|subst (h:(_:Bool)=_)|skip)|(refine wQ ?_;clear hQ hR hE hM)|refine wC c0 ?_|refine wC c1 ?_|fail);all_goals clear hX)
   all_goals (first|rfl|omega)
theorem rteOf_sm (p:Pln) (n:Int):(zcK p n).1.path.length≤1000000∧(zcK p n).1.over.length≤1000000∧(zcK p n).1.flanks.length≤1000000:=by
 unfold zcK
 split
 ·rename_i ho
  split
  ·rename_i r h
   simp only[zbA,Bool.and_eq_true,List.all_eq_true]at ho
   have h1:=ho.2.2.2.2 r (zea h).1
   simp only[zgD,zf2,Bool.and_eq_true,Bool.not_eq_true',decide_eq_false_iff_not]at h1
   dsimp only
   omega
  ·simp[Rte.z]
 ·simp[Rte.z]
theorem zd4 (hH:HasAll P inv) (hI:HasIds P inv) (p:Pln) (hp:Sm p) (n:Int):PC P inv 89 [.agg p.c,.n n] (·=.tup [.agg (zcK p n).1.c,.n (zcK p n).2]):=by
 refine PC.fn hH cd89 fun w0 M Q hM hE hQ hR=>?_;dsimp only[cd89,qm,ql,qf,qi,qb,qc,qp,qv,qN,qT,qF,qt]at hQ ⊢
 (repeat' first|refine zaa [0,1,2,4,5,6,7] fun K hK=>?_|(refine hK.go ?_;clear hK K)|with_reducible exact wT|refine wA ?_|(refine wB (fun h=>?_) (fun h=>?_)<;>first|exact wN h|subst (h:(_:Bool)=_)|skip)|(refine wQ ?_;clear hQ hR hE hM)|refine wC (zmg hH hI p hp n) ?_|(refine zaj hM (znp hH _ (rteOf_sm p n)) ?_;try (refine no_implicit_lambda% (st ?_);try with_reducible exact wT))|fail)
end Go.Lev
namespace Go.Eng
section
variable {φ:List (Nat×AV)} {σ:List (Nat×AO)} {K:AV→Prop} {tk:Tok K}
def cpT (x:AV) (K:AV→Prop) (_:Tok K):Prop:=match x with|.s0 _=>K (.i .i64 0)|_=>False
theorem av_cap (x:Opd):avT φ σ (.cap x) K tk=cpT (ev φ x) K .mk:=rfl
theorem cp_0 (sz:Nat):cpT (.s0 sz) K tk=K (.i .i64 0):=rfl
theorem av_look (m k:Opd):avT φ σ (.look m k) K tk=zcl (zkX σ (ev φ m) (ev φ k)) K:=rfl
def lkR (o:Option AO) (a:Int):Option AV:=match o with|some (.imap kvs)=>some (.i .i64 (zeM kvs a))|_=>none
theorem lk_m (l:Nat) (a:Int):zkX σ (.mp l) (.i .i64 a)=lkR (zax σ l) a:=by unfold zkX lkR;rfl
theorem lkR_m (kvs:List (Int×Int)) (a:Int):lkR (some (.imap kvs)) a=some (.i .i64 (zeM kvs a)):=rfl
theorem s0_01 (sz sz':Nat) (k:IntKind) (h:Int):scT σ (.s0 sz') none (some (.i k h)) none sz K tk=ob (h=0) (K (.s0 sz)):=rfl
theorem s0_00 (sz sz':Nat):scT σ (.s0 sz') none none none sz K tk=K (.s0 sz):=rfl
theorem zeC:∀ (xs ys:List AV),zab (xs++ys)=mx (zab xs) (zab ys)
 |[],ys=>by
  simp only[List.nil_append,zab]
  unfold mx
  split<;>omega
 |x::xs,ys=>by
  simp only[List.cons_append,zab,zeC xs ys]
  unfold mx
  split<;>split<;>(try split)<;>(try split)<;>omega
attribute [go_sem] zeC av_cap cp_0 av_look lk_m lkR_m s0_01 s0_00
end
end Go.Eng
namespace Go.Lev
open Go.Eng
set_option maxRecDepth 10000
set_option maxHeartbeats 4000000
variable {P:Program} {inv:Nat→Option Nat}
def zbl (s:Section) (f t:Int):Int×Int:=if zbp s=true then (if rLie s f t<0 then (0,2) else (rLie s f t,0)) else (0,8)
def zbH (s:Section) (f t:Int):Int×Int:=if zca s=true then (if f<0∨2<f∨t<0∨2<t∨zbb s.pt f t=0 then (0,2) else ((zbb s.pt f t).tmod 3,0)) else (0,8)
def outR (s:Section) (f lie:Int):Int×Int:=if zca s=true then (if f<0∨2<f∨lie<0∨2<lie then (0,2) else if (¬s.pt=0∧lie=0)∨zk2 s f lie<0 then (0,2) else (zk2 s f lie,0)) else (0,8)
def routP (s:Section) (f lie:Int):Nat→Nat→Int×Int
 |_,0=>(0,2)
 |k,m+1=>if rLie s f k=lie then (k,0) else routP s f lie (k+1) m
def rout (s:Section) (f lie:Int):Int×Int:=if zbp s=true then (if lie<0 then (0,2) else routP s f lie 0 s.ends.length) else (0,8)
def two (x:Int×Int):AV:=.tup [.n x.1,.n x.2]
theorem zg0 (hH:HasAll P inv) (s:Section) (f t:Int):PC P inv 16 [.agg s.c,.n f,.n t] (·=.tup [.n (zbH s f t).1,.n (zbH s f t).2]) :=
 (zns hH s f t).mono fun r e=>by (rw[e];unfold zi1 zbH;(repeat' split)<;>rfl)
theorem out_pc5 (hH:HasAll P inv) (s:Section) (f t:Int):PC P inv 18 [.agg s.c,.n f,.n t] (·=.tup [.n (outR s f t).1,.n (outR s f t).2]) :=
 (out_pc hH s f t).mono fun r e=>by (rw[e];unfold zjk outR;(repeat' split)<;>rfl)
theorem zoQ (s:Section):zca s=zbp s:=by
 unfold zca zbp zcc
 by_cases h:s.pt=0
 ·simp[h]
 ·simp[h]
theorem znt (s:Section) (f t:Int):zbH s f t=zbl s f t:=by
 unfold zbH zbl
 rw[zoQ]
 split
 ·by_cases hf:0≤f∧f≤2
  ·by_cases ht:0≤t∧t≤2
   ·rcases zb2 hf with rfl|rfl|rfl<;>rcases zb2 ht with rfl|rfl|rfl<;>by_cases hp:s.pt=0<;>simp[zbb,rLie,hp]
   ·rw[if_pos (by omega),if_pos (by unfold rLie;(repeat' split)<;>omega)]
  ·rw[if_pos (by omega),if_pos (by unfold rLie;(repeat' split)<;>omega)]
 ·rfl
theorem zcq (hH:HasAll P inv) (s:Section) (f t:Int):PC P inv 16 [.agg s.c,.n f,.n t] (·=.tup [.n (zbl s f t).1,.n (zbl s f t).2]):=znt s f t▸zg0 hH s f t
end Go.Lev
namespace Go.Lev
open Go.Eng
set_option maxRecDepth 10000
set_option maxHeartbeats 4000000
variable {P:Program} {inv:Nat→Option Nat}
def sigG (n:Int):Sgn→List Sgn→Sgn
 |o,[]=>o
 |o,x::r=>if x.id=n then sigG n x r else sigG n o r
def sig (p:Pln) (n:Int):Sgn:=sigG n Sgn.z p.signals
theorem zj2 (hH:HasAll P inv) (p:Pln) (hp:Sm p) (n:Int):PC P inv 100 [.agg p.c,.n n] (·=.agg (sig p n).c):=by
 have hl:=hp.sgn
 refine PC.fn hH cd100 fun w0 M Q hM hE hQ hR=>?_;dsimp only[cd100,qm,ql,qf,qi,qb,qc,qp,qv,qN,qT,qF,qt]at hQ ⊢
 (repeat' first|refine zaa [0,1,2,4,6,8,9,10,11,17] fun K hK=>?_|(refine hK.go ?_;clear hK K)|with_reducible exact wT|refine wA ?_|(refine wB (fun h=>?_) (fun h=>?_)<;>first|exact wN h|subst (h:(_:Bool)=_)|skip)|(refine wQ ?_;clear hQ hR hE hM)|fail)
 refine zaz (ι:=Nat×Sgn) [1,4,8,9,10] (fun z=>[(10,.n z.1)]) (fun z=>[(1,.cells z.2.c true)]) (fun z=>z.1) (p.signals.length) (fun z=>(sigG n z.2 (p.signals.drop z.1)=sig p n)) (0,(⟨0,0,0⟩:Sgn)) ?_;rintro ⟨k,o⟩ ⟨hk,hg⟩;(try dsimp only at hk hg ⊢);rcases Nat.lt_or_ge k p.signals.length with hlt|hge
 ·rw[zag hlt]at hg
  rw[sigG]at hg
  (repeat' first|refine zaa [0,1,2,4,6,8,9,10,11,17] fun K hK=>?_|(refine hK.go ?_;clear hK K)|with_reducible exact wT|refine wA ?_|(refine wB (fun h=>?_) (fun h=>?_)<;>first|exact wN h|subst (h:(_:Bool)=_)|skip)|(refine wQ ?_;clear hQ hR hE hM)|fail)
  ·rw[if_pos (by assumption)]at hg
   exact nY (k+1,nth p.signals k) ⟨by (try dsimp only);omega,hg⟩
  ·rw[if_neg (by assumption)]at hg
   exact nY (k+1,o) ⟨by (try dsimp only);omega,hg⟩
 ·rw[List.drop_eq_nil_of_le hge,sigG]at hg
  subst hg
  (repeat' first|refine zaa [0,1,2,4,6,8,9,10,11,17] fun K hK=>?_|(refine hK.go ?_;clear hK K)|with_reducible exact wT|refine wA ?_|(refine wB (fun h=>?_) (fun h=>?_)<;>first|exact wN h|subst (h:(_:Bool)=_)|skip)|(refine wQ ?_;clear hQ hR hE hM)|fail)
theorem grow_po0 (hH:HasAll P inv) (n:Int) (h:0<n) (h9:n≤1000000000):PO P inv 129 [.s0 1,.n n] (.sm 0 n.toNat 0 0 1) [(0,.cells (List.replicate n.toNat (.n 0)) true)]:=by
 refine PO.fn hH cd129 fun w0 M Q hM hE hQ hR=>?_;dsimp only[cd129,qm,ql,qf,qi,qb,qc,qp,qv,qN,qT,qF,qt]at hQ ⊢
 (have hX:=zA @Int.sub_zero (zA @Int.sub_self (zA @List.flatten_replicate_singleton.{0} @List.length_replicate.{0}));(repeat' first|refine zaa [0,1,4,6,16,22] fun K hK=>?_|(refine hK.go ?_;clear hK K)|with_reducible exact wT|refine wA ?_|(refine wB (fun h=>?_) (fun h=>?_)<;>first|exact wN h|subst (h:(_:Bool)=_)|skip)|(refine wR ?_;clear hQ hR hE hM)|fail);all_goals clear hX)
 left
 constructor
 ·(refine no_implicit_lambda% (st ?_);try with_reducible exact wT)
 ·(refine no_implicit_lambda% (st ?_);try with_reducible exact wT)
  simp
  omega
theorem grow_po' (hH:HasAll P inv):PO P inv 129 [.s0 1,.n 0] (.sm 0 0 0 0 1) [(0,.cells [] false)]:=by
 refine PO.fn hH cd129 fun w0 M Q hM hE hQ hR=>?_;dsimp only[cd129,qm,ql,qf,qi,qb,qc,qp,qv,qN,qT,qF,qt]at hQ ⊢
 (have hX:=zA @Int.sub_zero (zA @Int.sub_self (zA @List.flatten_replicate_singleton.{0} @List.length_replicate.{0}));(repeat' first|refine zaa [0,1,4,6,16,22] fun K hK=>?_|(refine hK.go ?_;clear hK K)|with_reducible exact wT|refine wA ?_|(refine wB (fun h=>?_) (fun h=>?_)<;>first|exact wN h|subst (h:(_:Bool)=_)|skip)|(refine wR ?_;clear hQ hR hE hM)|fail);all_goals clear hX)
 right
 exact ⟨1,rfl,rfl,rfl⟩
theorem grow_po (hH:HasAll P inv) (n:Int) (h:0<n) (h9:n≤1000000000):PO P inv 129 [.s0 1,.n n] (.sm 1 0 0 0 1) [(1,.cells [] true)]:=by
 have:=(grow_po0 hH n h h9).trunc (by rw[show List.replicate n.toNat (AV.n 0)=(List.replicate n.toNat (0:Int)).map AV.n by simp];exact zev .i64 _) (by simp) (by omega)
 simpa using this
theorem zfB (l:List Int):(l.map zck).flatten=l.map AV.n:=zpT l
def zju:List (List Int)→Int
 |[]=>0
 |l::r=>l.length+zju r
theorem zjt:∀ L:List (List Int),0≤zju L
 |[]=>Int.le_refl _
 |l::r=>by have:=zjt r;simp only[zju];omega
theorem zkM (hH:HasAll P inv) (L:List (List Int)) (h0:L.length≤1000000) (hL:zju L≤1000000000):PC P inv 101 [.sl 1 (L.map lst)] (·=.sl 1 (L.flatten.map zck)):=by
 refine PC.fn hH cd101 fun w0 M Q hM hE hQ hR=>?_;dsimp only[cd101,qm,ql,qf,qi,qb,qc,qp,qv,qN,qT,qF,qt]at hQ ⊢
 (repeat' first|refine zaa [0,2,3,5,6,8,9,10,11,12,20,25,26,27,28] fun K hK=>?_|(refine hK.go ?_;clear hK K)|with_reducible exact wT|refine wA ?_|(refine wB (fun h=>?_) (fun h=>?_)<;>first|exact wN h|subst (h:(_:Bool)=_)|skip)|(refine wQ ?_;clear hQ hR hE hM)|fail)
 refine zaz (ι:=Nat×Int) [0,2,3,9,10,11] (fun z=>[(3,.n z.2),(11,.n z.1)]) (fun _=>[]) (fun z=>z.1) (L.length) (fun z=>(0≤z.2)∧(z.2+zju (L.drop z.1)=zju L)) (0,0) ?_;rintro ⟨k,t⟩ ⟨hk,ht,hg⟩;(try dsimp only at hk ht hg ⊢);rcases Nat.lt_or_ge k L.length with hlt|hge
 ·rw[zag hlt]at hg
  rw[zju]at hg
  have h1:=zjt (L.drop (k+1))
  (have hX:=@lst.eq_1;(repeat' first|refine zaa [0,2,3,5,6,8,9,10,11,12,20,25,26,27,28] fun K hK=>?_|(refine hK.go ?_;clear hK K)|with_reducible exact wT|refine wA ?_|(refine wB (fun h=>?_) (fun h=>?_)<;>first|exact wN h|subst (h:(_:Bool)=_)|skip)|(refine wQ ?_;clear hQ hR hE hM)|fail);all_goals clear hX)
  exact nY (k+1,t+(nth L k).length) ⟨by (try dsimp only);omega,by (try dsimp only);omega,by (try dsimp only);omega⟩
 ·rw[List.drop_eq_nil_of_le hge,zju,Int.add_zero]at hg
  subst hg
  rcases Int.lt_or_le 0 (zju L) with hp|hz
  ·(repeat' first|refine zaa [0,2,3,5,6,8,9,10,11,12,20,25,26,27,28] fun K hK=>?_|(refine hK.go ?_;clear hK K)|with_reducible exact wT|refine wA ?_|(refine wB (fun h=>?_) (fun h=>?_)<;>first|exact wN h|subst (h:(_:Bool)=_)|skip)|(refine wQ ?_;clear hQ hR hE hM)|refine wO (grow_po hH (zju L) hp hL) ?_|fail)
   refine zaz (ι:=Nat×(List Int)×Bool) [2,6,25,26,27] (fun z=>[(6,.sm 1 z.2.1.length 0 z.2.1.length 1),(27,.n z.1)]) (fun z=>[(1,.cells (z.2.1.map AV.n) z.2.2)]) (fun z=>z.1) (L.length) (fun z=>(z.2.1++(L.drop z.1).flatten=L.flatten)∧((z.2.1.length:Int)+zju (L.drop z.1)=zju L)) (0,[],true) ?_;rintro ⟨k,acc,b⟩ ⟨hk,hg,hx⟩;(try dsimp only at hk hg hx ⊢);rcases Nat.lt_or_ge k L.length with hlt|hge
   ·rw[zag hlt,zju]at hx
    rw[zag hlt,List.flatten_cons,←List.append_assoc]at hg
    have h1:=zjt (L.drop (k+1))
    (have hX:=zA @lst.eq_1 (zA @zfB (zA @List.length_map.{0,0} @List.length_append.{0}));(repeat' first|refine zaa [0,2,3,5,6,8,9,10,11,12,20,25,26,27,28] fun K hK=>?_|(refine hK.go ?_;clear hK K)|with_reducible exact wT|refine wA ?_|(refine wB (fun h=>?_) (fun h=>?_)<;>first|exact wN h|subst (h:(_:Bool)=_)|skip)|(refine wQ ?_;clear hQ hR hE hM)|fail);all_goals clear hX)
    exact nY (k+1,acc++nth L k,(b||decide (0<(nth L k).length))) ⟨by (try dsimp only);omega,hg,by (try dsimp only);simp;omega⟩
   ·rw[List.drop_eq_nil_of_le hge,List.flatten_nil,List.append_nil]at hg
    subst hg
    (have hX:=@List.length_map.{0,0};(repeat' first|refine zaa [0,2,3,5,6,8,9,10,11,12,20,25,26,27,28] fun K hK=>?_|(refine hK.go ?_;clear hK K)|with_reducible exact wT|refine wA ?_|(refine wB (fun h=>?_) (fun h=>?_)<;>first|exact wN h|subst (h:(_:Bool)=_)|skip)|(refine wQ ?_;clear hQ hR hE hM)|fail);all_goals clear hX)
    rw[show L.flatten.map (AV.i .i64)=(L.flatten.map zck).flatten from (zfB _).symm,za6]
  ·have hz0:zju L=0:=by omega
   rw[hz0]
   (repeat' first|refine zaa [0,2,3,5,6,8,9,10,11,12,20,25,26,27,28] fun K hK=>?_|(refine hK.go ?_;clear hK K)|with_reducible exact wT|refine wA ?_|(refine wB (fun h=>?_) (fun h=>?_)<;>first|exact wN h|subst (h:(_:Bool)=_)|skip)|(refine wQ ?_;clear hQ hR hE hM)|refine wO (grow_po' hH) ?_|fail)
   refine AWp.swap [(0,1)] ⟨⟨by omega,by omega⟩,trivial⟩ ?_
   (refine no_implicit_lambda% (st ?_);try with_reducible exact wT)
   refine zaz (ι:=Nat×(List Int)×Bool) [2,6,25,26,27] (fun z=>[(6,.sm 1 z.2.1.length 0 z.2.1.length 1),(27,.n z.1)]) (fun z=>[(1,.cells (z.2.1.map AV.n) z.2.2)]) (fun z=>z.1) (L.length) (fun z=>(z.2.1++(L.drop z.1).flatten=L.flatten)∧((z.2.1.length:Int)+zju (L.drop z.1)=zju L)) (0,[],false) ?_;rintro ⟨k,acc,b⟩ ⟨hk,hg,hx⟩;(try dsimp only at hk hg hx ⊢);rcases Nat.lt_or_ge k L.length with hlt|hge
   ·rw[zag hlt,zju]at hx
    rw[zag hlt,List.flatten_cons,←List.append_assoc]at hg
    have h1:=zjt (L.drop (k+1))
    (have hX:=zA @lst.eq_1 (zA @zfB (zA @List.length_map.{0,0} @List.length_append.{0}));(repeat' first|refine zaa [0,2,3,5,6,8,9,10,11,12,20,25,26,27,28] fun K hK=>?_|(refine hK.go ?_;clear hK K)|with_reducible exact wT|refine wA ?_|(refine wB (fun h=>?_) (fun h=>?_)<;>first|exact wN h|subst (h:(_:Bool)=_)|skip)|(refine wQ ?_;clear hQ hR hE hM)|fail);all_goals clear hX)
    exact nY (k+1,acc++nth L k,(b||decide (0<(nth L k).length))) ⟨by (try dsimp only);omega,hg,by (try dsimp only);simp;omega⟩
   ·rw[List.drop_eq_nil_of_le hge,List.flatten_nil,List.append_nil]at hg
    subst hg
    (have hX:=@List.length_map.{0,0};(repeat' first|refine zaa [0,2,3,5,6,8,9,10,11,12,20,25,26,27,28] fun K hK=>?_|(refine hK.go ?_;clear hK K)|with_reducible exact wT|refine wA ?_|(refine wB (fun h=>?_) (fun h=>?_)<;>first|exact wN h|subst (h:(_:Bool)=_)|skip)|(refine wQ ?_;clear hQ hR hE hM)|fail);all_goals clear hX)
    rw[show L.flatten.map (AV.i .i64)=(L.flatten.map zck).flatten from (zfB _).symm,za6]
end Go.Lev
namespace Go.Lev
open Go.Eng
set_option maxRecDepth 10000
set_option maxHeartbeats 4000000
variable {P:Program} {inv:Nat→Option Nat} {w0:World} {M:Nat→Prop}
structure Wk where
 inn:Join
 asks:List AskR
 outs:List Join
 lost:Bool
def Wk.c (p:Pln) (w:Wk):List AV:=[.n p.version,.n p.parent,.sl 3 (p.sections.map Section.c),.sl 2 (p.points.map Pnt.c),.sl 3 (p.signals.map Sgn.c),.sl 7 (p.routes.map Rte.c),.n w.inn.to,.n w.inn.ed,.sm 20 (w.asks.length*3) 0 w.asks.length 3,.sm 21 (w.outs.length*2) 0 w.outs.length 2,.b w.lost]
attribute [go_sem] Wk.c
def zj6 (p:Pln) (w:Wk) (id:Int):Option Section:=if w.inn.to=id then p.sections.find? fun s=>decide (s.id=id) else none
def zoh (pt lie pos:Int) (l:List AskR):List AskR:=if 0<pt∧0<lie then l++[⟨pt,lie,pos⟩] else l
def zbJ (s:Section) (frm:Int) (right:Int→Join→Bool):Nat→List Join→Option (Nat×Join×Int)
 |_,[]=>none
 |e,j::r=>if (zbl s frm e).2=0∧right e j=true then some (e,j,(zbl s frm e).1) else zbJ s frm right (e+1) r
def zaJ (p:Pln) (w:Wk) (id pos:Int) (right:Int→Join→Bool):Wk :=
 if w.lost=true then w else match zj6 p w id with
 |none=>{ w with lost:=true }
 |some s=>match zbJ s w.inn.ed right 0 s.ends with
  |none=>{ w with lost:=true }
  |some (e,j,lie)=>⟨j,zoh s.pt lie pos w.asks,w.outs++[⟨id,e⟩],false⟩
def zfc (p:Pln) (w:Wk) (id pos:Int):Wk :=
 match zj6 p w id with
 |none=>{ w with lost:=true }
 |some s=>if w.lost=false∧0<w.inn.ed then { w with asks:=zoh s.pt w.inn.ed pos w.asks } else w
theorem zgQ (hH:HasAll P inv) (n:Int) (x:Section):PC P inv 140 ([.agg x.c]++[.ip 1 [[.n n]] 0 0]) (·=.b (decide (x.id=n))):=by
 refine PC.fn hH cd140 fun w0 M Q hM hE hQ hR=>?_;dsimp only[cd140,qm,ql,qf,qi,qb,qc,qp,qv,qN,qT,qF,qt]at hQ ⊢
 (repeat' first|refine zaa [0,1,2,3] fun K hK=>?_|(refine hK.go ?_;clear hK K)|with_reducible exact wT|refine wA ?_|(refine wB (fun h=>?_) (fun h=>?_)<;>first|exact wN h|subst (h:(_:Bool)=_)|skip)|(refine wQ ?_;clear hQ hR hE hM)|fail)
theorem zpe (hH:HasAll P inv) (e:Int) (j:Join):PC P inv 103 [.n e,.agg j.c] (·=.b (decide (j=⟨0,0⟩))):=by
 refine PC.fn hH cd103 fun w0 M Q hM hE hQ hR=>?_;dsimp only[cd103,qm,ql,qf,qi,qb,qc,qp,qv,qN,qT,qF,qt]at hQ ⊢
 (repeat' first|refine zaa [1,3,4] fun K hK=>?_|(refine hK.go ?_;clear hK K)|with_reducible exact wT|refine wA ?_|(refine wB (fun h=>?_) (fun h=>?_)<;>first|exact wN h|subst (h:(_:Bool)=_)|skip)|(refine wQ ?_;clear hQ hR hE hM)|fail)
 simp[zpK]
theorem zpd (hH:HasAll P inv) (e:Int) (j:Join) (s:Int) (x:Sgn):PC P inv 104 ([.n e,.agg j.c]++[.ip 1 [[.n s]] 0 0,.ip 3 [x.c] 0 0]) (·=.b (decide (s=x.sec)&&decide (e=x.ed))):=by
 refine PC.fn hH cd104 fun w0 M Q hM hE hQ hR=>?_;dsimp only[cd104,qm,ql,qf,qi,qb,qc,qp,qv,qN,qT,qF,qt]at hQ ⊢
 (repeat' first|refine zaa [0,1,2,3,6] fun K hK=>?_|(refine hK.go ?_;clear hK K)|with_reducible exact wT|refine wA ?_|(refine wB (fun h=>?_) (fun h=>?_)<;>first|exact wN h|subst (h:(_:Bool)=_)|skip)|(refine wQ ?_;clear hQ hR hE hM)|fail)
 all_goals simp[*]
theorem zpc (hH:HasAll P inv) (e:Int) (j:Join) (all:List Int) (i:Nat) (hi:i+1<all.length) (ha:all.length≤1000000000):PC P inv 106 ([.n e,.agg j.c]++[.ip 1 [[.sl 1 (all.map zck)]] 0 0,.ip 1 [[.n i]] 0 0]) (·=.b (decide (j.to=nth all (i+1)))):=by
 refine PC.fn hH cd106 fun w0 M Q hM hE hQ hR=>?_;dsimp only[cd106,qm,ql,qf,qi,qb,qc,qp,qv,qN,qT,qF,qt]at hQ ⊢
 (repeat' first|refine zaa [1,2,3,5,6] fun K hK=>?_|(refine hK.go ?_;clear hK K)|with_reducible exact wT|refine wA ?_|(refine wB (fun h=>?_) (fun h=>?_)<;>first|exact wN h|subst (h:(_:Bool)=_)|skip)|(refine wQ ?_;clear hQ hR hE hM)|fail)
 rw[show ((i:Int)+1).toNat=i+1 by omega]
def stW (p:Pln) (r:Rte) (x y:Sgn) (w:Wk) (all:List Int) (i s:Int) (ba bo:Bool):List (Nat×AO):=[(1,.cells r.c true),(2,.cells [.s0 1,.s0 1,.s0 3,.n 0] true),(3,.cells x.c true),(4,.cells y.c true),(5,.cells (w.c p) true),(6,.cells [.sl 1 (all.map zck)] true),(20,.cells (w.asks.map AskR.c).flatten ba),(21,.cells (w.outs.map Join.c).flatten bo),(22,.cells [.n i] true),(23,.cells [.n s] true)]
theorem stay_ac (hH:HasAll P inv) (hM:∀ b,M b→b<w0.heap.size) (p:Pln) (hp:Sm p) (r:Rte) (x y:Sgn) (w:Wk) (all:List Int) (i s:Int) (ba bo:Bool) (hw:w.asks.length≤1000000) :
  AC P inv w0 M 30 105 [.ptr 5 11 0,.n s,.n i] (stW p r x y w all i s ba bo) fun r0 σ'=>r0=.tup []∧σ'=stW p r x y (zfc p w s i) all i s (ba||decide (w.asks.length<(zfc p w s i).asks.length)) bo:=by
 have hs:=zbX (fun t:Section=>decide (t.id=s)) p.sections 0
 have c0:=zhG hH p.sections (fun t _=>zgQ hH s t) (Nat.le_trans hp.sec (by omega))
 have hl:=hp.sec
 obtain ⟨inn,asks,outs,lost⟩:=w
 dsimp only at hw
 generalize hW:zfc p ⟨inn,asks,outs,lost⟩ s i=W
 unfold zfc zj6 zoh at hW
 dsimp only at hW
 rcases hs with ⟨h1,h2⟩|⟨k,hk,h1,h2⟩
 ·rw[h1]at c0
  rw[h2,ite_self]at hW
  subst hW
  refine za1 (F:=cd105) (hH.has _ _ rfl) rfl (Nat.le_of_ble_eq_true rfl) fun Q hQ hR=>?_;have hE:=hH.callable;dsimp only[cd105,qm,ql,qf,qi,qb,qc,qp,qv,qN,qT,qF,qt]at hQ ⊢
  skip
  unfold stW
  (refine no_implicit_lambda% (st ?_);try with_reducible exact wT)
  (repeat' first|refine zaa [0,1,2,3,4,5,6,13,22,23] fun K hK=>?_|(refine hK.go ?_;clear hK K)|with_reducible exact wT|refine wA ?_|(refine wB (fun h=>?_) (fun h=>?_)<;>first|exact wN h|subst (h:(_:Bool)=_)|skip)|(refine wQ ?_;clear hQ hR)|(refine AC.callK 30 (by omega) (by first|omega|exact wF|((refine no_implicit_lambda% (st ?_);try with_reducible exact wT);omega)) (zac (F:=cd130) (hH.has _ _ rfl) (Nat.le_of_ble_eq_true rfl) fun Q hQ hR=>?_);dsimp only[cd130,qm,ql,qf,qi,qb,qc,qp,qv,qN,qT,qF,qt]at hQ ⊢;try (refine no_implicit_lambda% (st ?_);try with_reducible exact wT))|(refine AC.callK 40 (by omega) (by first|omega|exact wF|((refine no_implicit_lambda% (st ?_);try with_reducible exact wT);omega)) (zac (F:=cd107) (hH.has _ _ rfl) (Nat.le_of_ble_eq_true rfl) fun Q hQ hR=>?_);dsimp only[cd107,qm,ql,qf,qi,qb,qc,qp,qv,qN,qT,qF,qt]at hQ ⊢;try (refine no_implicit_lambda% (st ?_);try with_reducible exact wT))|refine wS c0 ?_|fail)
  all_goals (refine ⟨[],trivial, ?_⟩;simp only[swS,stW,Wk.c];(refine no_implicit_lambda% (st ?_);try with_reducible exact wT);(try simp))
 ·rw[h1,Int.zero_add]at c0
  rw[h2]at hW
  refine za1 (F:=cd105) (hH.has _ _ rfl) rfl (Nat.le_of_ble_eq_true rfl) fun Q hQ hR=>?_;have hE:=hH.callable;dsimp only[cd105,qm,ql,qf,qi,qb,qc,qp,qv,qN,qT,qF,qt]at hQ ⊢
  skip
  unfold stW
  (refine no_implicit_lambda% (st ?_);try with_reducible exact wT)
  (repeat' first|refine zaa [0,1,2,3,4,5,6,13,22,23] fun K hK=>?_|(refine hK.go ?_;clear hK K)|with_reducible exact wT|refine wA ?_|(refine wB (fun h=>?_) (fun h=>?_)<;>first|exact wN h|subst (h:(_:Bool)=_)|skip)|(refine wQ ?_;clear hQ hR)|(refine AC.callK 30 (by omega) (by first|omega|exact wF|((refine no_implicit_lambda% (st ?_);try with_reducible exact wT);omega)) (zac (F:=cd130) (hH.has _ _ rfl) (Nat.le_of_ble_eq_true rfl) fun Q hQ hR=>?_);dsimp only[cd130,qm,ql,qf,qi,qb,qc,qp,qv,qN,qT,qF,qt]at hQ ⊢;try (refine no_implicit_lambda% (st ?_);try with_reducible exact wT))|(refine AC.callK 40 (by omega) (by first|omega|exact wF|((refine no_implicit_lambda% (st ?_);try with_reducible exact wT);omega)) (zac (F:=cd107) (hH.has _ _ rfl) (Nat.le_of_ble_eq_true rfl) fun Q hQ hR=>?_);dsimp only[cd107,qm,ql,qf,qi,qb,qc,qp,qv,qN,qT,qF,qt]at hQ ⊢;try (refine no_implicit_lambda% (st ?_);try with_reducible exact wT))|refine wS c0 ?_|fail)
  all_goals (simp only[*,true_and,and_true,and_self,if_true,if_false,false_and,and_false,reduceCtorEq,Bool.true_eq_false,Bool.false_eq_true]at hW)
  all_goals (try subst hW)
  all_goals (refine ⟨[],trivial, ?_⟩;simp only[swS,stW,Wk.c];(refine no_implicit_lambda% (st ?_);try with_reducible exact wT))
  all_goals simp[AskR.c]
end Go.Lev
