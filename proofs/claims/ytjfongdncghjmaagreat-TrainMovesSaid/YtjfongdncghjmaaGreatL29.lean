/-
  Contracts of functions. Conditions: those that each theorem names.
-/
import Derived.Test.YtjfongdncghjmaaGreatL25
import Derived.Test.YtjfongdncghjmaaGreatL26
import Derived.Test.YtjfongdncghjmaaGreatL27
set_option linter.unusedSimpArgs false
set_option linter.unusedVariables false
set_option linter.unusedSectionVars false
namespace Go.Lev
open Go.Eng
set_option maxRecDepth 10000
set_option maxHeartbeats 8000000
variable {P:Program} {inv:Nat->Option Nat} {w0:World} {M:Nat->Prop}
theorem chunks1 (x:Int) (a:List Int):zbd 1 (a.length+1) (AV.i .i64 x::(a.map zaJ).flatten)=(x::a).map zaJ:=by
 have:=zbi (c:=zaJ) (x::a)
 simpa only[List.map_cons,List.flatten_cons,List.length_cons,zaJ,List.singleton_append] using this
theorem set8 (F:List AV) (i:Nat) (a0 a2 a3 a4 a5 a6 a7 v w:AV):((((((((F.set i a0).set (i+1) v).set (i+1+1) a2).set (i+1+1+1) a3).set (i+1+1+1+1) a4).set (i+1+1+1+1+1) a5).set (i+1+1+1+1+1+1) a6).set (i+1+1+1+1+1+1+1) a7)
  = ((((((((F.set i a0).set (i+1) w).set (i+1+1) a2).set (i+1+1+1) a3).set (i+1+1+1+1) a4).set (i+1+1+1+1+1) a5).set (i+1+1+1+1+1+1) a6).set (i+1+1+1+1+1+1+1) a7).set (i+1) v:=by
 symm
 rw[List.set_comm _ v (j:=i+1),List.set_comm _ v (j:=i+1),List.set_comm _ v (j:=i+1),List.set_comm _ v (j:=i+1),List.set_comm _ v (j:=i+1),List.set_comm _ v (j:=i+1),List.set_set];all_goals omega
theorem zlJ (hH:HasAll P inv) (p:Pln) (hp:Sm p) (s:State) (hs:SmS s) (l:List TrainD) (hl:l.length<=1000) (hls:∀ t∈l,t.secs.length<=1000) (hc:ckC p s l=0) (tr se ed:Int) {k:Nat} (hk7:k<l.length) (ha:zcB l tr=(k:Int)) :
  PC P inv 387 [.agg p.c,.agg s.c,.agg (wld l),.agg [.i .u8 2,.n tr,.n se,.n ed]] (·=zjP (zhq p s l k (nth l k))):=by
 have c0:=zbY hH p hp s hs l hl hls;have c1:=zcN hH l (by omega) hls
 have c2:=zfo hH l (by omega) tr
 have hst:=((zbH p s l).1 hc).1;have hpa:=(zam hst).2.1;have ht:=zcE.1 (((zbH p s l).1 hc).2.may _ (zac hk7));have ho:=zar hst;have hen:∀ x∈p.sections,x.ends.length<=3:=fun x hx=>(zaP ho.sec x hx).2.2.2.2
 have hk8:=ht.one;have hf:=(ht.sec 0 hk8).1;obtain ⟨q,hq,q1,q2,q3⟩:=zh0 ho.sec hf;have hnx:=zkC hf (zdw ht.thru);obtain ⟨-,n1,n2,n3⟩:=nx_at hnx;rw[q2]at n2 n3;have c3:=zfS hH p.sections (nth (nth l k).secs 0) (Nat.le_trans hp.sec (by omega))
 rw[q1]at c3;rw[hc]at c0;rw[ha]at c2;have fa:zb2 (l.map TrainD.c).flatten (k*8) (some 8)=some (.agg (nth l k).c):=zcj (c:=TrainD.c) (l:=l) (k:=k) hk7 (by omega)
 have hk9:=hls _ (zac hk7);have x0:=zcq hk8;have c5:=on31_ref hH p hp s hs hst (nth l k) ht;have hj2:(nxJ p (nth l k)).2=0:=hnx;have hj1:(nxJ p (nth l k)).1=nth (nth p.sections q).ends (nth l k).ed.toNat:=n3;unfold zjP zhq;by_cases h4:4<=(nth l k).secs.length
 ·rw[if_pos h4]
  clear hc hst ho ht hf hnx n3 hpa;unfold zbJ;unfold wld at *;dsimp only;refine wf hH cd387 fun w0 M Q hM hE hQ hR=>?_;refine wq ?_
  skip
  (have hX:=@fa;(repeat' first|refine zaa kg fun K hK=>?_|exact wt|refine wA ?_|(refine wB ?_ ?_<;>intro h<;>first|exact wN h|subst (h:(_:Bool)=_)|skip)|(refine wQ ?_;clear hQ hR)|refine wC c0 ?_|refine wO c1 ?_|refine wC c2 ?_|(refine wI hH cd396 100 fun Q hQ hR=>?_;refine wq ?_;try refine wD ?_)|fail);all_goals clear hX)
  all_goals first|rfl|(exfalso;contradiction)|(exfalso;omega)
 rw[if_neg h4];by_cases h5:(goT p s (nth l k)).2.2=false\/¬(nxJ p (nth l k)).2=0\/(nxJ p (nth l k)).1.to=0
 ·rw[if_pos h5]
  have h6:(goT p s (nth l k)).2.2=false\/(nth (nth p.sections q).ends (nth l k).ed.toNat).to=0:=by
   rcases h5 with h|h|h
   ·exact .inl h
   ·exact absurd hj2 h
   ·rw[hj1]at h;exact .inr h
  clear hc hst ho ht hf hnx n3 hpa h5 hj1 hj2;generalize goT p s (nth l k)=G at *;obtain ⟨g1,g2,g3⟩:=G;dsimp only at c5 h6;unfold zbJ;unfold wld at *;dsimp only;rcases h6 with h6|h6
  ·subst h6
   refine wf hH cd387 fun w0 M Q hM hE hQ hR=>?_;refine wq ?_
   skip
   (have hX:=zA @fa @x0;(repeat' first|refine zaa kg fun K hK=>?_|exact wt|refine wA ?_|(refine wB ?_ ?_<;>intro h<;>first|exact wN h|subst (h:(_:Bool)=_)|skip)|(refine wQ ?_;clear hQ hR)|refine wC c0 ?_|refine wO c1 ?_|refine wC c2 ?_|(refine wI hH cd396 100 fun Q hQ hR=>?_;refine wq ?_;try refine wD ?_)|refine wU c3 ?_|refine wC c5 ?_|fail);all_goals clear hX)
   all_goals first|rfl|(exfalso;contradiction)|(exfalso;omega)
  ·refine wf hH cd387 fun w0 M Q hM hE hQ hR=>?_;refine wq ?_
   skip
   (have hX:=zA @fa (zA @x0 @h6);(repeat' first|refine zaa kg fun K hK=>?_|exact wt|refine wA ?_|(refine wB ?_ ?_<;>intro h<;>first|exact wN h|subst (h:(_:Bool)=_)|skip)|(refine wQ ?_;clear hQ hR)|refine wC c0 ?_|refine wO c1 ?_|refine wC c2 ?_|(refine wI hH cd396 100 fun Q hQ hR=>?_;refine wq ?_;try refine wD ?_)|refine wU c3 ?_|refine wC c5 ?_|fail);all_goals clear hX)
   all_goals first|rfl|(exfalso;contradiction)|(exfalso;omega)
 rw[if_neg h5];have hg3:(goT p s (nth l k)).2.2=true:=by
  cases e:(goT p s (nth l k)).2.2 with
  |true=>rfl
  |false=>exact absurd (.inl e) h5
 have hto:¬(nth (nth p.sections q).ends (nth l k).ed.toNat).to=0:=fun h=>h5 (.inr (.inr (by rw[hj1];exact h)))
 have hfs:=zre ho.sec hq (by omega) hto
 have hfs':(nxS p (nth l k)).2=0:=by unfold nxS;rw[hj1];exact hfs
 obtain ⟨r,hr,r1,r2,r3⟩:=zh0 ho.sec hfs;rw[if_pos hfs'];have hS:(nxS p (nth l k)).1=nth p.sections r:=by unfold nxS;rw[hj1];exact r2
 have c4:=zfS hH p.sections (nth (nth p.sections q).ends (nth l k).ed.toNat).to (Nat.le_trans hp.sec (by omega))
 rw[r1]at c4;have c8:=zel hH (nth p.sections r).id 1;have yp:=zpY hk7 (zfr p s (nth l k));have hE:nxE p s (nth l k)=rout (nth p.sections r) (nth (nth p.sections q).ends (nth l k).ed.toNat).ed (zeu s (nth p.sections r).pt):=by
  unfold nxE;rw[hS,hj1,out_eq]
 unfold zfr at yp |-
 rw[hE,hS,hj1]at yp;rw[hE,hS,hj1];have hpt:∃ lv:Int,zeu s (nth p.sections r).pt=lv/\(((nth p.sections r).pt=0/\lv=0)\/∃ i:Nat,¬(nth p.sections r).pt=0/\i<s.switches.length/\za1 (fun x=>decide (Pnt.id x=(nth p.sections r).pt)) 0 p.points=(i:Int)/\lv=(nth s.switches i).lie):=by
  by_cases h0:(nth p.sections r).pt=0
  ·exact ⟨_,rfl,.inl ⟨h0,by rw[h0];exact lie_0 ho hpa⟩⟩
  ·obtain ⟨i,hi,hi2,e1,e2⟩:=lie_pt ho hpa hr h0
   exact ⟨_,rfl,.inr ⟨i,h0,hi2,e1,e2⟩⟩
 have hen3:=hen _ (zac hr);obtain ⟨lv,hlv,hpt⟩:=hpt;rw[hlv]at yp |-
 have c7:=rout_pc2 hH (nth p.sections r) (nth (nth p.sections q).ends (nth l k).ed.toNat).ed lv (by omega)
 have c6:=zly hH p.points (Nat.le_trans hp.pts (by omega)) (nth p.sections r).pt
 clear hc hst ho ht hf hnx n3 hpa h5 hj2 hfs hfs' hE hS hj1 hlv r2 q2 hen;generalize rout (nth p.sections r) (nth (nth p.sections q).ends (nth l k).ed.toNat).ed lv=E5 at *;generalize goT p s (nth l k)=G at *;obtain ⟨g1,g2,g3⟩:=G;dsimp only at c5 hg3 yp;subst hg3;have yc:=chunks1 (nth p.sections r).id (nth l k).secs;have ys:∀ v:AV,_=_:=fun v=>(set8 (l.map TrainD.c).flatten (k*8) (.n (nth l k).id) (.n (nth (nth p.sections q).ends (nth l k).ed.toNat).ed) (.n E5.1) (.n g1) (.n g2) (.n 0) (.n 0) v (.sl 1 (((nth p.sections r).id::(nth l k).secs).map zaJ))).trans (congrArg (fun X=>X.set (k*8+1) v) yp)
 have f2:((l.set k ⟨(nth l k).id,(nth p.sections r).id::(nth l k).secs,(nth (nth p.sections q).ends (nth l k).ed.toNat).ed,E5.1,g1,g2,0,0⟩).map TrainD.c).flatten.set (k*8+1) (.sl 1 (((nth p.sections r).id::(nth l k).secs).map zaJ))=((l.set k ⟨(nth l k).id,(nth p.sections r).id::(nth l k).secs,(nth (nth p.sections q).ends (nth l k).ed.toNat).ed,E5.1,g1,g2,0,0⟩).map TrainD.c).flatten:=by
  have hk':k<(l.set k ⟨(nth l k).id,(nth p.sections r).id::(nth l k).secs,(nth (nth p.sections q).ends (nth l k).ed.toNat).ed,E5.1,g1,g2,0,0⟩).length:=by rw[List.length_set];exact hk7
  have:=zhC (c:=TrainD.c) (k:=k) (i:=1) hk' (by omega) (.sl 1 (((nth p.sections r).id::(nth l k).secs).map zaJ)) (⟨(nth l k).id,(nth p.sections r).id::(nth l k).secs,(nth (nth p.sections q).ends (nth l k).ed.toNat).ed,E5.1,g1,g2,0,0⟩:TrainD) (by rw[za9 _ _ _ _ hk7,if_pos rfl];rfl)
  rw[this,List.set_set]
 have fb:∀ v:AV,zab (((l.set k ⟨(nth l k).id,(nth p.sections r).id::(nth l k).secs,(nth (nth p.sections q).ends (nth l k).ed.toNat).ed,E5.1,g1,g2,0,0⟩).map TrainD.c).flatten.set (k*8+1) v)=v.bound:=fun v=>zlX v (by rw[List.length_set];omega)
 have l8:0<l.length*8:=by omega
 have hcl:((nth l k).secs.map zaJ).flatten.length=(nth l k).secs.length:=by rw[zbo (c:=zaJ),Nat.mul_one]
 clear yp;unfold zbJ;unfold wld at *;by_cases h7:E5.2=0
 ·rw[if_pos h7]
  dsimp only;rcases hpt with ⟨p0,p1⟩|⟨i,p0,p1,p2,p3⟩
  ·subst p1
   simp only[Section.c,p0]at c7;refine wf hH cd387 fun w0 M Q hM hE hQ hR=>?_;refine wq ?_
   skip
   (have hX:=zA @fa (zA @x0 (zA @p0 (zA @ys (zA @yc (zA @f2 (zA @l8 @fb))))));(repeat' first|refine zaa kg fun K hK=>?_|exact wt|refine wA ?_|(refine wB ?_ ?_<;>intro h<;>first|exact wN h|subst (h:(_:Bool)=_)|skip)|(refine wQ ?_;clear hQ hR)|refine wC c0 ?_|refine wO c1 ?_|refine wC c2 ?_|(refine wI hH cd396 100 fun Q hQ hR=>?_;refine wq ?_;try refine wD ?_)|refine wU c3 ?_|refine wU c4 ?_|refine wC c5 ?_|refine wC c7 ?_|refine wC c8 ?_|fail);all_goals clear hX)
   all_goals first|rfl|(exfalso;contradiction)|(exfalso;omega)|(rw[if_pos (Nat.add_comm _ _),Nat.add_comm 1,yc,f2,zfl (l:=l.set k _) List.length_set];rfl)
  ·subst p3
   rw[p2]at c6;refine wf hH cd387 fun w0 M Q hM hE hQ hR=>?_;refine wq ?_
   skip
   (have hX:=zA @fa (zA @x0 (zA @ys (zA @yc (zA @f2 (zA @l8 @fb)))));(repeat' first|refine zaa kg fun K hK=>?_|exact wt|refine wA ?_|(refine wB ?_ ?_<;>intro h<;>first|exact wN h|subst (h:(_:Bool)=_)|skip)|(refine wQ ?_;clear hQ hR)|refine wC c0 ?_|refine wO c1 ?_|refine wC c2 ?_|(refine wI hH cd396 100 fun Q hQ hR=>?_;refine wq ?_;try refine wD ?_)|refine wU c3 ?_|refine wU c4 ?_|refine wC c5 ?_|refine wC c6 ?_|refine wC c7 ?_|refine wC c8 ?_|fail);all_goals clear hX)
   all_goals first|rfl|(exfalso;contradiction)|(exfalso;omega)|(rw[if_pos (Nat.add_comm _ _),Nat.add_comm 1,yc,f2,zfl (l:=l.set k _) List.length_set];rfl)
 ·rw[if_neg h7]
  dsimp only;rcases hpt with ⟨p0,p1⟩|⟨i,p0,p1,p2,p3⟩
  ·subst p1
   simp only[Section.c,p0]at c7;refine wf hH cd387 fun w0 M Q hM hE hQ hR=>?_;refine wq ?_
   skip
   (have hX:=zA @fa (zA @x0 @p0);(repeat' first|refine zaa kg fun K hK=>?_|exact wt|refine wA ?_|(refine wB ?_ ?_<;>intro h<;>first|exact wN h|subst (h:(_:Bool)=_)|skip)|(refine wQ ?_;clear hQ hR)|refine wC c0 ?_|refine wO c1 ?_|refine wC c2 ?_|(refine wI hH cd396 100 fun Q hQ hR=>?_;refine wq ?_;try refine wD ?_)|refine wU c3 ?_|refine wU c4 ?_|refine wC c5 ?_|refine wC c7 ?_|fail);all_goals clear hX)
   all_goals first|rfl|(exfalso;contradiction)|(exfalso;omega)
  ·subst p3
   rw[p2]at c6;refine wf hH cd387 fun w0 M Q hM hE hQ hR=>?_;refine wq ?_
   skip
   (have hX:=zA @fa @x0;(repeat' first|refine zaa kg fun K hK=>?_|exact wt|refine wA ?_|(refine wB ?_ ?_<;>intro h<;>first|exact wN h|subst (h:(_:Bool)=_)|skip)|(refine wQ ?_;clear hQ hR)|refine wC c0 ?_|refine wO c1 ?_|refine wC c2 ?_|(refine wI hH cd396 100 fun Q hQ hR=>?_;refine wq ?_;try refine wD ?_)|refine wU c3 ?_|refine wU c4 ?_|refine wC c5 ?_|refine wC c6 ?_|refine wC c7 ?_|fail);all_goals clear hX)
   all_goals first|rfl|(exfalso;contradiction)|(exfalso;omega)
end Go.Lev
