/-
  Contracts of functions. Conditions: those that each theorem names.
-/
import Derived.Test.YtjfongdncghjmaaGreatL2
set_option linter.unusedSimpArgs false
set_option linter.unusedVariables false
set_option linter.unusedSectionVars false
namespace Go.Lev
open Go.Eng
set_option maxRecDepth 10000
set_option maxHeartbeats 4000000
variable {P:Program} {inv:Nat->Option Nat}
theorem zf1 {s:Section} (h:zcF s=true):0<=s.pt/\s.pt<=99/\s.ends.length<=3:=by
 unfold zcF zcH at h;simp at h;omega
theorem zkv {l:List Section} {id:Int} (h:(zai l id).2=true):(zai l id).1<l.length:=by
 unfold zai at h |-
 simp at h;exact h.1
def zjJ (l:List Section) (k:Nat) (pts:List Bool) (s:Section):Bool:=!zcH s.id||!zcF s||(decide (0<(k:Int))&&decide (s.id<=(nth l ((k:Int)-1).toNat).id))||nth pts s.pt.toNat
def ck1 (l:List Section) (k:Nat) (pts:List Bool):List Section->Bool
 |[]=>true
 |s::r=>!zjJ l k pts s&&ck1 l (k+1) (pts.set s.pt.toNat (decide (0<s.pt))) r
def zjh (l:List Section) (s:Section) (e:Nat):Bool :=
 if (nth s.ends e).to=0/\(nth s.ends e).ed=0 then true
 else !(!(zai l (nth s.ends e).to).2||(decide ((nth s.ends e).to=s.id)&&decide ((nth s.ends e).ed=(e:Int)))||decide ((nth s.ends e).ed<0)||decide (((nth l (zai l (nth s.ends e).to).1).ends.length:Int)<=(nth s.ends e).ed)
  || !(decide ((nth (nth l (zai l (nth s.ends e).to).1).ends (nth s.ends e).ed.toNat).to=s.id)&&decide ((nth (nth l (zai l (nth s.ends e).to).1).ends (nth s.ends e).ed.toNat).ed=(e:Int))))
def ck2 (l:List Section):Bool:=l.all fun s=>zbQ (zjh l s) 0 s.ends.length
def zew (l:List Section):Int:=if 16<(l.length:Int) then 8 else if ck1 l 0 (List.replicate 100 false) l&&ck2 l then 0 else 8
theorem zk0 (hH:HasAll P inv) (l:List Section) (hl:l.length<=1000000000) (he:∀ s∈l,s.ends.length<=9223372036854775807):PC P inv 26 [.sl 3 (l.map Section.c)] (·=.n (zew l)):=by
 refine wf hH cd26 fun w0 M Q hM hE hQ hR=>?_;refine wq ?_
 (repeat' first|refine zaa kR fun K hK=>?_|exact wt|refine wA ?_|(refine wB ?_ ?_<;>intro h<;>first|exact wN h|subst (h:(_:Bool)=_)|skip)|(refine wQ ?_;clear hQ hR hE hM)|fail)
 ·simp[zew,h]
 refine zbu (ι:=Nat×List Bool) (fun k=>[(0,.sl 3 (l.map Section.c)),(3,.ptr 0 100 0),(16,.sl 3 (l.map Section.c)),(17,.n l.length),(18,.n k.1)]) (fun k=>[(0,.cells (k.2.map .b) true)]) (fun k=>k.1<=l.length/\k.2.length=100/\ck1 l k.1 k.2 (l.drop k.1)=ck1 l 0 (List.replicate 100 false) l) (fun k=>l.length-k.1) (0,List.replicate 100 false) ⟨Nat.zero_le _,by simp,rfl⟩ (by (try dsimp only);(refine wD ?_;try exact wt)<;>omega) ?_ ?_
 ·(refine wD ?_;try exact wt)
  simp
 ·rintro ⟨k,pts⟩ ⟨hk,hp,hg⟩
  dsimp only at hk hp hg |-
  rcases Nat.lt_or_ge k l.length with hlt|hge
  ·rw[zae hlt]at hg
   rw[ck1]at hg;have hs:=he _ (zac hlt);have c:=zdU hH (nth l k);cases hsh:zcF (nth l k)<;>rw[hsh]at c
   ·(repeat' first|refine zaa kR fun K hK=>?_|exact wt|refine wA ?_|(refine wB ?_ ?_<;>intro h<;>first|exact wN h|subst (h:(_:Bool)=_)|skip)|(refine wQ ?_;clear hQ hR hE hM)|(refine zak hM (zfM hH _) ?_;try refine wD ?_)|refine wC c ?_|fail)
    all_goals (grind[zew,zjJ])
   ·have hbd:=zf1 hsh
    (have hX:=@hp;(repeat' first|refine zaa kR fun K hK=>?_|exact wt|refine wA ?_|(refine wB ?_ ?_<;>intro h<;>first|exact wN h|subst (h:(_:Bool)=_)|skip)|(refine wQ ?_;clear hQ hR hE hM)|(refine zak hM (zfM hH _) ?_;try refine wD ?_)|refine wC c ?_|fail);all_goals clear hX)
    all_goals (first
     |(refine ⟨(k+1,pts.set (nth l k).pt.toNat (decide (0<(nth l k).pt))),by dsimp only;omega,⟨by dsimp only;omega,by simp[hp],by grind[zjJ]⟩,by simp,by simp[List.map_set]⟩)
     |(grind[zew,zjJ]))
  ·rw[List.drop_eq_nil_of_le hge,ck1]at hg
   (repeat' first|refine zaa kR fun K hK=>?_|exact wt|refine wA ?_|(refine wB ?_ ?_<;>intro h<;>first|exact wN h|subst (h:(_:Bool)=_)|skip)|(refine wQ ?_;clear hQ hR hE hM)|fail)
   refine zcC (fun k=>[(0,.sl 3 (l.map Section.c)),(60,.sl 3 (l.map Section.c)),(61,.n l.length),(62,.n k)]) (fun k=>[]) (l.length) (fun k=>(l.drop k).all (fun s=>zbQ (zjh l s) 0 s.ends.length)=ck2 l) ?_;rintro k ⟨hk,hg⟩;rcases Nat.lt_or_ge k l.length with hlt|hge
   ·rw[zae hlt]at hg
    rw[List.all_cons]at hg;have hs:=he _ (zac hlt)
    (repeat' first|refine zaa kR fun K hK=>?_|exact wt|refine wA ?_|(refine wB ?_ ?_<;>intro h<;>first|exact wN h|subst (h:(_:Bool)=_)|skip)|(refine wQ ?_;clear hQ hR hE hM)|fail)
    refine zbu (fun j:Nat=>[(0,.sl 3 (l.map Section.c)),(60,.sl 3 (l.map Section.c)),(61,.n l.length),(62,.n k),(7,.ptr 0 3 0),(67,.sl 2 ((nth l k).ends.map Join.c)),(68,.n (nth l k).ends.length),(69,.n j)]) (fun _=>[(0,.cells (nth l k).c true)]) (fun j=>j<=(nth l k).ends.length/\zbQ (zjh l (nth l k)) j ((nth l k).ends.length-j)=zbQ (zjh l (nth l k)) 0 (nth l k).ends.length) (fun j=>(nth l k).ends.length-j) 0 ⟨Nat.zero_le _,rfl⟩ (by (try dsimp only);(refine wD ?_;try exact wt)<;>omega) (by (try dsimp only);(refine wD ?_;try exact wt)<;>omega) ?_
    rintro j ⟨hj,hi⟩;rcases Nat.lt_or_ge j (nth l k).ends.length with hjk|hjk
    ·rw[zeY hjk]at hi
     have c:=zn2 hH l (nth (nth l k).ends j).to hl;cases hpl:(zai l (nth (nth l k).ends j).to).2<;>rw[hpl]at c
     ·(repeat' first|refine zaa kR fun K hK=>?_|exact wt|refine wA ?_|(refine wB ?_ ?_<;>intro h<;>first|exact wN h|subst (h:(_:Bool)=_)|skip)|(refine wQ ?_;clear hQ hR hE hM)|refine wC c ?_|fail)
      all_goals (first|(refine ⟨j+1,by omega,⟨by omega,by grind[zew,zjh]⟩,(by (try dsimp only);(first|omega|(simp;done)|(simp;omega)))⟩)|(grind[zew,zjh]))
     ·have hpt:=zkv hpl
      have hs2:=he _ (zac hpt)
      (repeat' first|refine zaa kR fun K hK=>?_|exact wt|refine wA ?_|(refine wB ?_ ?_<;>intro h<;>first|exact wN h|subst (h:(_:Bool)=_)|skip)|(refine wQ ?_;clear hQ hR hE hM)|refine wC c ?_|fail)
      all_goals (first|(refine ⟨j+1,by omega,⟨by omega,by grind[zew,zjh]⟩,(by (try dsimp only);(first|omega|(simp;done)|(simp;omega)))⟩)|(grind[zew,zjh]))
    ·rw[zfU hjk]at hi
     (repeat' first|refine zaa kR fun K hK=>?_|exact wt|refine wA ?_|(refine wB ?_ ?_<;>intro h<;>first|exact wN h|subst (h:(_:Bool)=_)|skip)|(refine wQ ?_;clear hQ hR hE hM)|fail)
     all_goals (first|(refine ⟨k+1,by omega,⟨by omega,by grind[zew]⟩,(by (try dsimp only);(first|omega|(simp;done)|(simp;omega)))⟩)|(grind[zew]))
   ·rw[List.drop_eq_nil_of_le hge,List.all_nil]at hg
    (repeat' first|refine zaa kR fun K hK=>?_|exact wt|refine wA ?_|(refine wB ?_ ?_<;>intro h<;>first|exact wN h|subst (h:(_:Bool)=_)|skip)|(refine wQ ?_;clear hQ hR hE hM)|fail)
    all_goals (first|rfl|(grind[zew])|(simp[zew, *];done)|(simp_all [zew];done)|(simp_all [zew]<;>first|omega|((repeat' split)<;>first|rfl|(exfalso;omega))))
def zd0 (l:List Section):Int:=if zbR l=true then 0 else 8
theorem rcheck_pc (hH:HasAll P inv) (l:List Section) (hl:l.length<=1000000000) (he:∀ s∈l,s.ends.length<=1000000000):PC P inv 27 [.sl 3 (l.map Section.c)] (·=.n (zd0 l)):=by
 refine wf hH cd27 fun w0 M Q hM hE hQ hR=>?_;refine wq ?_
 (repeat' first|refine zaa [0,2,5] fun K hK=>?_|exact wt|refine wA ?_|(refine wB ?_ ?_<;>intro h<;>first|exact wN h|subst (h:(_:Bool)=_)|skip)|(refine wQ ?_;clear hQ hR hE hM)|refine wC (zqw hH l hl he) ?_|fail)
 all_goals (first|rfl|(grind[zd0])|(simp[zd0, *];done)|(simp_all [zd0];done)|(simp_all [zd0]<;>first|omega|((repeat' split)<;>first|rfl|(exfalso;omega))))
def zbf:Section:=⟨0,0,[]⟩
def zaz (l:List Section) (id:Int):Section×Int:=if zbR l=true then (if zdd id 0 l<0 then (zbf,6) else (nth l (zdd id 0 l).toNat,0)) else (zbf,8)
theorem rfind_pc (hH:HasAll P inv) (l:List Section) (id:Int) (hl:l.length<=1000000000) (he:∀ s∈l,s.ends.length<=1000000):PC P inv 23 [.sl 3 (l.map Section.c),.n id] (·=.tup [.agg (zaz l id).1.c,.n (zaz l id).2]):=by
 have hb:=zg6 id l 0;have he':∀ s∈l,s.ends.length<=1000000000:=fun s hs=>Nat.le_trans (he s hs) (by omega)
 have hx:∀ i:Nat,i<l.length->(nth l i).ends.length<=1000000:=fun i hi=>he _ (zac hi)
 refine wf hH cd23 fun w0 M Q hM hE hQ hR=>?_;refine wq ?_
 (repeat' first|refine zaa [0,1,4,5,6,9,15] fun K hK=>?_|exact wt|refine wA ?_|(refine wB ?_ ?_<;>intro h<;>first|exact wN h|subst (h:(_:Bool)=_)|skip)|(refine wQ ?_;clear hQ hR hE hM)|refine wC (zqw hH l hl he') ?_|(refine zak hM (zfS hH _ _ hl) ?_;try refine wD ?_)|(refine zak hM (twin_pc hH _ (hx _ (by omega))) ?_;try refine wD ?_)|fail)
 all_goals (first|rfl|(grind[zaz,zbf])|(simp[zaz,zbf, *];done)|(simp_all [zaz,zbf];done)|(simp_all [zaz,zbf]<;>first|omega|((repeat' split)<;>first|rfl|(exfalso;omega))))
theorem zoz (hH:HasAll P inv) (l:List Join) (h:l.length<=1000000):PC P inv 47 [.sl 2 (l.map Join.c)] (·=.sl 2 (l.map Join.c)):=by
 refine wf hH cd47 fun w0 M Q hM hE hQ hR=>?_;refine wq ?_
 (repeat' first|refine zaa [0,2,4] fun K hK=>?_|exact wt|refine wA ?_|(refine wB ?_ ?_<;>intro h<;>first|exact wN h|subst (h:(_:Bool)=_)|skip)|(refine wQ ?_;clear hQ hR hE hM)|fail)
 all_goals (first|rfl|(grind[])|(simp[ *];done)|(simp_all [];done)|(simp_all []<;>first|omega|((repeat' split)<;>first|rfl|(exfalso;omega))))
def zpN (l:List Section) (id:Int):Section×Int:=if zew l=0 then (if (zai l id).2=true then (nth l (zai l id).1,0) else (zbf,6)) else (zbf,zew l)
theorem find_pc (hH:HasAll P inv) (l:List Section) (id:Int) (hl:l.length<=1000000000) (he:∀ s∈l,s.ends.length<=1000000):PC P inv 22 [.sl 3 (l.map Section.c),.n id] (·=.tup [.agg (zpN l id).1.c,.n (zpN l id).2]):=by
 have he':∀ s∈l,s.ends.length<=1000000000:=fun s hs=>Nat.le_trans (he s hs) (by omega)
 have hx:∀ i:Nat,i<l.length->(nth l i).ends.length<=1000000:=fun i hi=>he _ (zac hi)
 have c:=zn2 hH l id hl;cases hpl:(zai l id).2<;>rw[hpl]at c
 ·refine wf hH cd22 fun w0 M Q hM hE hQ hR=>?_;refine wq ?_
  (repeat' first|refine zaa [0,1,4,5,6,7,8,9,13,23] fun K hK=>?_|exact wt|refine wA ?_|(refine wB ?_ ?_<;>intro h<;>first|exact wN h|subst (h:(_:Bool)=_)|skip)|(refine wQ ?_;clear hQ hR hE hM)|(refine zak hM (zk0 hH l hl (fun s hs=>Nat.le_trans (he' s hs) (by omega))) ?_;try refine wD ?_)|refine wC c ?_|(refine zak hM (zoz hH _ (hx _ (by omega))) ?_;try refine wD ?_)|fail)
  all_goals (first|rfl|(grind[zpN,zbf])|(simp[zpN,zbf, *];done)|(simp_all [zpN,zbf];done)|(simp_all [zpN,zbf]<;>first|omega|((repeat' split)<;>first|rfl|(exfalso;omega))))
 ·have hpt:=zkv hpl
  refine wf hH cd22 fun w0 M Q hM hE hQ hR=>?_;refine wq ?_
  (repeat' first|refine zaa [0,1,4,5,6,7,8,9,13,23] fun K hK=>?_|exact wt|refine wA ?_|(refine wB ?_ ?_<;>intro h<;>first|exact wN h|subst (h:(_:Bool)=_)|skip)|(refine wQ ?_;clear hQ hR hE hM)|(refine zak hM (zk0 hH l hl (fun s hs=>Nat.le_trans (he' s hs) (by omega))) ?_;try refine wD ?_)|refine wC c ?_|(refine zak hM (zoz hH _ (hx _ (by omega))) ?_;try refine wD ?_)|fail)
  all_goals (first|rfl|(grind[zpN,zbf])|(simp[zpN,zbf, *];done)|(simp_all [zpN,zbf];done)|(simp_all [zpN,zbf]<;>first|omega|((repeat' split)<;>first|rfl|(exfalso;omega))))
def okAt (l:List Section) (j:Nat):Prop:=1<=(nth l j).id/\(nth l j).id<=99/\zbh (nth l j)=true/\(0<j->(nth l (j-1)).id<(nth l j).id)/\∀ i,i<j->(nth l j).pt≠0->(nth l i).pt≠(nth l j).pt
def okAt' (l:List Section) (j:Nat):Prop:=1<=(nth l j).id/\(nth l j).id<=99/\zbh (nth l j)=true/\∀ i,i<j->(nth l i).id<(nth l j).id/\((nth l j).pt≠0->(nth l i).pt≠(nth l j).pt)
theorem zdZ (s:Section):zcF s=zbh s:=by
 unfold zcF zbh zcH;by_cases h:s.pt=0<;>simp[h]
def Marks (l:List Section) (pts:List Bool) (k:Nat):Prop:=pts.length=100/\∀ p,p<100->(nth pts p=true↔0<p/\∃ i,i<k/\(nth l i).pt=(p:Int))
theorem za9 {α:Type} [Inhabited α] (l:List α) (i j:Nat) (x:α) (h:i<l.length):nth (l.set i x) j=if j=i then x else nth l j:=by
 unfold nth;by_cases e:j=i
 ·subst e;simp[h]
 ·simp[e,List.getElem?_set,Ne.symm e]
theorem zkZ (l:List Section):∀ (r:List Section) (k:Nat) (pts:List Bool),l.drop k=r->Marks l pts k->(ck1 l k pts r=true↔∀ j,k<=j->j<l.length->okAt l j)
 |[],k,pts,hr,_=>by
  have:l.length<=k:=by simpa using hr
  simp[ck1];intro j h1 h2;omega
 |s::r,k,pts,hr,hm=>by
  have hk:k<l.length:=by
   rcases Nat.lt_or_ge k l.length with h|h
   ·exact h
   ·rw[List.drop_eq_nil_of_le h]at hr;cases hr
  rw[zae hk,List.cons.injEq]at hr;obtain ⟨rfl,hr⟩:=hr;simp only[ck1,Bool.and_eq_true,Bool.not_eq_true'];have hb:zjJ l k pts (nth l k)=false↔okAt l k:=by
   unfold zjJ okAt zcH;rw[zdZ];cases hs:zbh (nth l k) with
   |false=>simp
   |true =>
    have hbd:=zf1 (by rw[zdZ];exact hs)
    have hp:=hm.2 (nth l k).pt.toNat (by omega)
    have e1:(((k:Int)-1).toNat)=k-1:=by omega
    rw[e1];have hpf:nth pts (nth l k).pt.toNat=false↔∀ i,i<k->(nth l k).pt≠0->(nth l i).pt≠(nth l k).pt:=by
     rw[<-Bool.not_eq_true,hp];constructor
     ·intro h i hi h0 he
      exact h ⟨by omega,i,hi,by omega⟩
     ·rintro h ⟨h0,i,hi,he⟩
      exact h i hi (by omega) (by omega)
    simp only[Bool.or_eq_false_iff,Bool.and_eq_false_iff,Bool.not_eq_false',Bool.and_eq_true,decide_eq_true_eq,decide_eq_false_iff_not,hpf];constructor
    ·rintro ⟨⟨⟨⟨h1,h2⟩,_⟩,h3⟩,h4⟩
     exact ⟨h1,h2,trivial,fun h0=>by rcases h3 with h3|h3<;>omega,h4⟩
    ·rintro ⟨h1,h2,_,h3,h4⟩
     refine ⟨⟨⟨⟨h1,h2⟩,trivial⟩, ?_⟩,h4⟩;rcases Nat.eq_zero_or_pos k with h0|h0
     ·left;omega
     ·right;have:=h3 h0;omega
  rw[hb];constructor
  ·rintro ⟨h1,h2⟩ j hj hlt
   have hbd:=zf1 (by rw[zdZ];exact h1.2.2.1)
   have hm':Marks l (pts.set (nth l k).pt.toNat (decide (0<(nth l k).pt))) (k+1):=by
    refine ⟨by simp[hm.1],fun p hp=>?_⟩
    rw[za9 _ _ _ _ (by rw[hm.1];omega)]
    split
    ·rename_i e
     constructor
     ·intro h;simp at h;exact ⟨by omega,k,by omega,by omega⟩
     ·rintro ⟨h0,_⟩;simp;omega
    ·rename_i e
     rw[hm.2 p hp];constructor
     ·rintro ⟨h0,i,hi,he⟩;exact ⟨h0,i,by omega,he⟩
     ·rintro ⟨h0,i,hi,he⟩
      refine ⟨h0,i, ?_,he⟩;rcases Nat.lt_or_ge i k with h|h
      ·exact h
      ·obtain rfl:i=k:=by omega
       omega
   rcases Nat.lt_or_ge k j with h|h
   ·exact (zkZ l r (k+1) _ hr hm').1 h2 j (by omega) hlt
   ·obtain rfl:j=k:=by omega
    exact h1
  ·intro h
   have h1:=h k (Nat.le_refl _) hk;refine ⟨h1, ?_⟩;have hbd:=zf1 (by rw[zdZ];exact h1.2.2.1)
   have hm':Marks l (pts.set (nth l k).pt.toNat (decide (0<(nth l k).pt))) (k+1):=by
    refine ⟨by simp[hm.1],fun p hp=>?_⟩
    rw[za9 _ _ _ _ (by rw[hm.1];omega)]
    split
    ·rename_i e
     constructor
     ·intro h;simp at h;exact ⟨by omega,k,by omega,by omega⟩
     ·rintro ⟨h0,_⟩;simp;omega
    ·rename_i e
     rw[hm.2 p hp];constructor
     ·rintro ⟨h0,i,hi,he⟩;exact ⟨h0,i,by omega,he⟩
     ·rintro ⟨h0,i,hi,he⟩
      refine ⟨h0,i, ?_,he⟩;rcases Nat.lt_or_ge i k with h|h
      ·exact h
      ·obtain rfl:i=k:=by omega
       omega
   exact (zkZ l r (k+1) _ hr hm').2 fun j hj hlt=>h j (by omega) hlt
theorem marks0 (l:List Section):Marks l (List.replicate 100 false) 0:=by
 refine ⟨by simp,fun p hp=>?_⟩
 rw[zay (by simpa using hp),List.getElem_replicate]
 constructor
 ·intro h;cases h
 ·rintro ⟨_,i,h,_⟩;exact absurd h (Nat.not_lt_zero _)
theorem zij (l:List Section):∀ (r:List Section) (k:Nat),l.drop k=r->(zfq (l.take k) r=true↔∀ j,k<=j->j<l.length->okAt' l j)
 |[],k,hr=>by
  have:l.length<=k:=by simpa using hr
  simp[zfq];intro j h1 h2;omega
 |s::r,k,hr=>by
  have hk:k<l.length:=by
   rcases Nat.lt_or_ge k l.length with h|h
   ·exact h
   ·rw[List.drop_eq_nil_of_le h]at hr;cases hr
  rw[zae hk,List.cons.injEq]at hr;obtain ⟨rfl,hr⟩:=hr;rw[zfq,zjZ hk,Bool.and_eq_true,zij l r (k+1) hr];have hb:rOk (l.take k) (nth l k)=true↔okAt' l k:=by
   unfold rOk okAt' zfw;simp only[Bool.and_eq_true,Bool.not_eq_true',Bool.or_eq_false_iff,decide_eq_false_iff_not,Bool.not_eq_false',List.all_eq_true,Bool.and_eq_false_iff,decide_eq_true_eq];constructor
   ·rintro ⟨⟨⟨h1,h2⟩,h3⟩,h4⟩
    refine ⟨by omega,by omega,h3,fun i hi=>?_⟩
    have:=h4 (nth l i) (by rw[<-ze1 hi];exact zac (by simp;omega))
    refine ⟨by omega,fun h0 he=>?_⟩
    rcases this.2 with h|h
    ·exact h0 h
    ·exact h he
   ·rintro ⟨h1,h2,h3,h4⟩
    refine ⟨⟨⟨by omega,by omega⟩,h3⟩,fun x hx=>?_⟩
    obtain ⟨i,hi,rfl⟩:=List.mem_iff_getElem.1 hx;have hik:i<k:=by simp at hi;omega
    have:=h4 i hik;have e:(l.take k)[i]=nth l i:=by rw[<-zay hi,ze1 hik]
    rw[e];refine ⟨by omega, ?_⟩
    by_cases h0:(nth l k).pt=0
    ·exact .inl h0
    ·exact .inr (this.2 h0)
  rw[hb];constructor
  ·rintro ⟨h1,h2⟩ j hj hlt
   rcases Nat.lt_or_ge k j with h|h
   ·exact h2 j (by omega) hlt
   ·obtain rfl:j=k:=by omega
    exact h1
  ·intro h
   exact ⟨h k (Nat.le_refl _) hk,fun j hj hlt=>h j (by omega) hlt⟩
def zes (l:List Section):Prop:=∀ i j,i<j->j<l.length->(nth l i).id<(nth l j).id
theorem zit {l:List Section} (h:∀ j,j<l.length->okAt l j):zes l:=by
 intro i j hij hj;obtain ⟨d,rfl⟩:=Nat.exists_eq_add_of_lt hij;clear hij
 induction d with
 |zero=>exact (h (i+0+1) hj).2.2.2.1 (by omega)
 |succ d ih =>
  have h1:=ih (by omega)
  have h2:=(h (i+(d+1)+1) hj).2.2.2.1 (by omega)
  have e:i+(d+1)+1-1=i+d+1:=by omega
  rw[e]at h2;omega
theorem zhD (l:List Section):ck1 l 0 (List.replicate 100 false) l=zfq [] l:=by
 have h1:=zkZ l l 0 _ rfl (marks0 l);have h2:=zij l l 0 rfl;rw[List.take_zero]at h2;rw[Bool.eq_iff_iff,h1,h2];constructor
 ·intro h j _ hj
  have hs:=zit fun j hj=>h j (Nat.zero_le _) hj
  have:=h j (Nat.zero_le _) hj;exact ⟨this.1,this.2.1,this.2.2.1,fun i hi=>⟨hs i j hi hj,this.2.2.2.2 i hi⟩⟩
 ·intro h j _ hj
  have:=h j (Nat.zero_le _) hj;exact ⟨this.1,this.2.1,this.2.2.1,fun h0=>(this.2.2.2 (j-1) (by omega)).1,fun i hi=>(this.2.2.2 i hi).2⟩
theorem zhS {l:List Section} (h:ck1 l 0 (List.replicate 100 false) l=true):zes l :=
 zit fun j hj=>(zkZ l l 0 _ rfl (marks0 l)).1 h j (Nat.zero_le _) hj
theorem zr8 {a b:Int}:zma a b<0↔a<b:=by unfold zma;split<;>(try split)<;>omega
theorem zr9 {a b:Int}:zma a b=0↔a=b:=by unfold zma;split<;>(try split)<;>omega
theorem ziX {l:List Section} {id:Int} (hs:zes l):∀ (n i j:Nat),j-i<=n->i<=j->j<=l.length->(∀ x,x<i->(nth l x).id<id)->(∀ x,j<=x->x<l.length->id<=(nth l x).id) ->
  (∀ x,x<zhJ l id i j->(nth l x).id<id)/\(∀ x,zhJ l id i j<=x->x<l.length->id<=(nth l x).id)
 |0,i,j,hn,hij,hj,h1,h2=>by
  obtain rfl:i=j:=by omega
  rw[zk3];exact ⟨h1,h2⟩
 |n+1,i,j,hn,hij,hj,h1,h2=>by
  rcases Nat.lt_or_ge i j with hlt|hge
  ·rw[zme hlt]
   split
   ·rename_i hc
    rw[zr8]at hc;refine ziX hs n _ _ (by omega) (by omega) hj (fun x hx=>?_) h2
    rcases Nat.lt_or_ge x ((i+j) / 2) with h|h
    ·have:=hs x ((i+j) / 2) h (by omega);omega
    ·obtain rfl:x=(i+j) / 2:=by omega
     exact hc
   ·rename_i hc
    rw[zr8]at hc;refine ziX hs n _ _ (by omega) (by omega) (by omega) h1 (fun x hx hxl=>?_)
    rcases Nat.lt_or_ge ((i+j) / 2) x with h|h
    ·have:=hs ((i+j) / 2) x h hxl;omega
    ·obtain rfl:x=(i+j) / 2:=by omega
     omega
  ·obtain rfl:i=j:=by omega
   rw[zk3];exact ⟨h1,h2⟩
theorem zcr (id:Int):∀ (l:List Section) (k:Nat),(zdd id k l=-1/\∀ i,i<l.length->(nth l i).id≠id)\/∃ p,p<l.length/\zdd id k l=(k:Int)+p/\(nth l p).id=id
 |[],k=>.inl ⟨rfl,fun i h=>by simp at h⟩
 |x::r,k=>by
  unfold zdd;split
  ·rename_i h
   exact .inr ⟨0,by simp,by simp,by simpa [nth] using h⟩
  ·rename_i h
   rcases zcr id r (k+1) with ⟨h1,h2⟩|⟨p,h1,h2,h3⟩
   ·refine .inl ⟨h1,fun i hi=>?_⟩
    cases i with
    |zero=>simpa [nth] using h
    |succ i=>simpa [nth] using h2 i (by simpa using hi)
   ·exact .inr ⟨p+1,by simpa using h1,by rw[h2];omega,by simpa [nth] using h3⟩
theorem zn3 {l:List Section} (hs:zes l) (id:Int):((zai l id).2=false/\zdd id 0 l=-1)\/((zai l id).2=true/\zdd id 0 l=(zai l id).1):=by
 have hb:=ziX (id:=id) hs l.length 0 l.length (by omega) (by omega) (Nat.le_refl _) (fun x h=>absurd h (Nat.not_lt_zero _)) (fun x h1 h2=>absurd h1 (by omega))
 have hle:=zsi l id l.length 0 l.length (by omega) (by omega)
 unfold zai;rcases zcr id l 0 with ⟨h1,h2⟩|⟨p,h1,h2,h3⟩
 ·left
  refine ⟨?_,h1⟩;simp only[Bool.and_eq_false_iff,decide_eq_false_iff_not];rcases Nat.lt_or_ge (zhJ l id 0 l.length) l.length with h|h
  ·right;rw[zr9];exact h2 _ h
  ·left;omega
 ·right
  have hp:zhJ l id 0 l.length=p:=by
   rcases Nat.lt_trichotomy (zhJ l id 0 l.length) p with h|h|h
   ·have a:=hb.2 _ (Nat.le_refl _) (by omega)
    have b:=hs _ _ h h1;omega
   ·exact h
   ·have:=hb.1 p h;omega
  rw[hp];refine ⟨?_,by rw[h2];omega⟩
  simp only[Bool.and_eq_true,decide_eq_true_eq,zr9];exact ⟨h1,h3⟩
theorem end_eq {l:List Section} (hs:zes l) (s:Section) (e:Nat):zjh l s e=zcm l s e:=by
 unfold zjh zcm;split
 ·rfl
 ·rcases zn3 hs (nth s.ends e).to with ⟨h1,h2⟩|⟨h1,h2⟩
  ·rw[h1,h2];simp
  ·have h3:=zkv h1
   rw[h1,h2];simp only[Int.toNat_natCast];split
   ·rename_i h
    rcases h with h|h|h|h
    ·omega
    ·simp[h]
    ·simp[h]
    ·simp[h.1,h.2]
   ·rename_i h
    simp only[not_or]at h;obtain ⟨_,h4,h5,h6⟩:=h;simp only[h4,h5,decide_false,Bool.not_true,Bool.false_or,Bool.or_false];by_cases h7:(nth s.ends e).to=s.id
    ·by_cases h8:(nth s.ends e).ed=(e:Int)
     ·exact absurd ⟨h7,h8⟩ h6
     ·simp[h8]
    ·simp[h7]
theorem zoC (l:List Section):zew l=zd0 l:=by
 unfold zew zd0 zbR;by_cases h16:16<(l.length:Int)
 ·simp[h16]
 ·rw[if_neg h16,zhD]
  cases h1:zfq [] l with
  |false=>simp
  |true =>
   have hs:=zhS ((zhD l).trans h1);have e2:ck2 l=zmP l:=by
    unfold ck2 zmP
    congr 1
    funext s
    congr 1
    funext e
    exact end_eq hs s e
   simp[h16,e2]
theorem zdb {l:List Section} (h:zbR l=true):zes l:=by
 unfold zbR at h;simp only[Bool.and_eq_true]at h;exact zhS ((zhD l).trans h.1.2)
theorem find_eq (l:List Section) (id:Int):zpN l id=zaz l id:=by
 unfold zpN zaz;rw[zoC];unfold zd0;cases hm:zbR l with
 |false=>simp
 |true =>
  rcases zn3 (zdb hm) id with ⟨h1,h2⟩|⟨h1,h2⟩
  ·simp[h1,h2]
  ·rw[h1,h2]
   simp
def za8 (s:Section) (f t:Int):Int×Int:=if zbh s=true then (if zeK s f t<0 then (0,2) else (zeK s f t,0)) else (0,8)
def zb5 (s:Section) (f t:Int):Int×Int:=if zcF s=true then (if f<0\/2<f\/t<0\/2<t\/zbE s.pt f t=0 then (0,2) else ((zbE s.pt f t).tmod 3,0)) else (0,8)
def outR (s:Section) (f lie:Int):Int×Int:=if zcF s=true then (if f<0\/2<f\/lie<0\/2<lie then (0,2) else if (¬s.pt=0/\lie=0)\/zlB s f lie<0 then (0,2) else (zlB s f lie,0)) else (0,8)
def zmJ (s:Section) (f lie:Int):Nat->Nat->Int×Int
 |_,0=>(0,2)
 |k,m+1=>if zeK s f k=lie then (k,0) else zmJ s f lie (k+1) m
def rout (s:Section) (f lie:Int):Int×Int:=if zbh s=true then (if lie<0 then (0,2) else zmJ s f lie 0 s.ends.length) else (0,8)
def two (x:Int×Int):AV:=.tup [.n x.1,.n x.2]
theorem zjs (s:Section) (f lie:Int):∀ m k,zhc s f lie k m=two (zmJ s f lie k m)
 |0,_=>rfl
 |m+1,k=>by simp only[zhc,zmJ,zjs s f lie m];split<;>rfl
theorem zhN (hH:HasAll P inv) (s:Section) (f t:Int):PC P inv 16 [.agg s.c,.n f,.n t] (·=.tup [.n (zb5 s f t).1,.n (zb5 s f t).2]) :=
 (zoQ hH s f t).mono fun r e=>by (rw[e];unfold zjY zb5;(repeat' split)<;>rfl)
theorem zqR (hH:HasAll P inv) (s:Section) (f t:Int):PC P inv 18 [.agg s.c,.n f,.n t] (·=.tup [.n (outR s f t).1,.n (outR s f t).2]) :=
 (out_pc hH s f t).mono fun r e=>by (rw[e];unfold zkx outR;(repeat' split)<;>rfl)
theorem rout_pc2 (hH:HasAll P inv) (s:Section) (f t:Int) (hl:s.ends.length<=1000000000):PC P inv 19 [.agg s.c,.n f,.n t] (·=.tup [.n (rout s f t).1,.n (rout s f t).2]) :=
 (rout_pc hH s f t hl).mono fun r e=>by
  rw[e,zjs];unfold rout;repeat' split
  all_goals rfl
theorem zlk (s:Section):zcF s=zbh s:=by
 unfold zcF zbh zcH;by_cases h:s.pt=0
 ·simp[h]
 ·simp[h]
theorem zgI (s:Section) (f t:Int):zb5 s f t=za8 s f t:=by
 unfold zb5 za8;rw[zlk];split
 ·by_cases hf:0<=f/\f<=2
  ·by_cases ht:0<=t/\t<=2
   ·rcases zct hf with rfl|rfl|rfl<;>rcases zct ht with rfl|rfl|rfl<;>by_cases hp:s.pt=0<;>simp[zbE,zeK,hp]
   ·rw[if_pos (by omega),if_pos (by unfold zeK;(repeat' split)<;>omega)]
  ·rw[if_pos (by omega),if_pos (by unfold zeK;(repeat' split)<;>omega)]
 ·rfl
theorem zgP {s:Section} {f lie:Int} (h:∀ k:Nat,k<3->¬zeK s f k=lie):∀ m k,k+m<=3->zmJ s f lie k m=(0,2)
 |0,_,_=>rfl
 |m+1,k,hk=>by rw[zmJ,if_neg (h k (by omega)),zgP h m (k+1) (by omega)]
theorem out_eq (s:Section) (f t:Int):outR s f t=rout s f t:=by
 unfold outR rout;rw[zlk];split
 ·rename_i hs
  have hl:s.pt=0/\s.ends.length=2\/¬s.pt=0/\s.ends.length=3:=by
   unfold zbh at hs;by_cases hp:s.pt=0
   ·simp[hp]at hs;omega
   ·simp[hp]at hs;omega
  by_cases hf:0<=f/\f<=2
  ·by_cases ht:0<=t/\t<=2
   ·rcases hl with ⟨hp,hl⟩|⟨hp,hl⟩<;>rw[hl]<;>rcases zct hf with rfl|rfl|rfl<;>rcases zct ht with rfl|rfl|rfl<;>simp[zlB,ziC,zbE,zmJ,zeK,hp]
   ·rw[if_pos (by omega)]
    split
    ·rfl
    ·rw[zgP _ _ _ (by omega)]
     intro k hk;unfold zeK
     repeat' split
     all_goals omega
  ·rw[if_pos (by omega)]
   split
   ·rfl
   ·rw[zgP _ _ _ (by omega)]
    intro k hk;unfold zeK
    repeat' split
    all_goals omega
 ·rfl
theorem zcO (hH:HasAll P inv) (s:Section) (f t:Int):PC P inv 16 [.agg s.c,.n f,.n t] (·=.tup [.n (za8 s f t).1,.n (za8 s f t).2]):=zgI s f t▸zhN hH s f t
variable {w0:World} {M:Nat->Prop}
def zgH (x:Track) (y:Section):Bool:=decide (x.id=y.id)&&decide (x.is<=2)
def zhp (n:Int):Bool:=decide (0<=n)&&decide (n<=2)
def zjb (x:Switch) (y:Pnt):Bool:=decide (x.id=y.id)&&(zhp x.lie&&zhp x.call)
def zdK (l:Lock) (x:Rte):Bool :=
 if l.phase=0\/l.phase=1 then decide (l.gone=0)&&decide (l.left=0)
 else if l.phase=2 then decide (0<=l.gone)&&(decide (l.gone<=(x.path.length:Int)-1)&&decide (l.left=0))
 else if l.phase=3 then decide (l.gone=(x.path.length:Int)-1)&&(decide (1<=l.left)&&decide (l.left<=x.timer))
 else if l.phase=4 then decide (l.gone=0)&&(decide (1<=l.left)&&decide (l.left<=x.timer))
 else false
def zev (x:Lock) (y:Rte):Bool:=decide (x.id=y.id)&&zdK x y
theorem lie_pc (hH:HasAll P inv) (n:Int):PC P inv 110 [.n n] (·=.b (zhp n)):=by
 refine wf hH cd110 fun w0 M Q hM hE hQ hR=>?_;refine wq ?_
 (repeat' first|refine zaa [0,2] fun K hK=>?_|exact wt|refine wA ?_|(refine wB ?_ ?_<;>intro h<;>first|exact wN h|subst (h:(_:Bool)=_)|skip)|(refine wQ ?_;clear hQ hR hE hM)|fail)
 all_goals (first|rfl|(grind[zhp])|(simp[zhp, *];done)|(simp_all [zhp];done)|(simp_all [zhp]<;>first|omega|((repeat' split)<;>first|rfl|(exfalso;omega))))
theorem znC (hH:HasAll P inv) (x:Track) (y:Section):PC P inv 112 ([.agg x.c,.agg y.c]++[]) (·=.b (zgH x y)):=by
 refine wf hH cd112 fun w0 M Q hM hE hQ hR=>?_;refine wq ?_
 (repeat' first|refine zaa [0,1,2,3,4] fun K hK=>?_|exact wt|refine wA ?_|(refine wB ?_ ?_<;>intro h<;>first|exact wN h|subst (h:(_:Bool)=_)|skip)|(refine wQ ?_;clear hQ hR hE hM)|fail)
 all_goals (first|rfl|(grind[zgH])|(simp[zgH, *];done)|(simp_all [zgH];done)|(simp_all [zgH]<;>first|omega|((repeat' split)<;>first|rfl|(exfalso;omega))))
theorem znI (hH:HasAll P inv) (x:Switch) (y:Pnt):PC P inv 114 ([.agg x.c,.agg y.c]++[.ip 1 [[.fn 110 []]] 0 0]) (·=.b (zjb x y)):=by
 have c1:=lie_pc hH x.lie;have c2:=lie_pc hH x.call;have he:zjb x y=(decide (x.id=y.id)&&(zhp x.lie&&zhp x.call)):=rfl;revert c1 c2 he;generalize zhp x.lie=a;generalize zhp x.call=b;intro c1 c2 he;refine wf hH cd114 fun w0 M Q hM hE hQ hR=>?_;refine wq ?_
 (repeat' first|refine zaa [0,1,2,3,4,5] fun K hK=>?_|exact wt|refine wA ?_|(refine wB ?_ ?_<;>intro h<;>first|exact wN h|subst (h:(_:Bool)=_)|skip)|(refine wQ ?_;clear hQ hR hE hM)|refine wC c1 ?_|refine wC c2 ?_|fail)
 all_goals (rw[he];simp[*])
theorem phase_pc (hH:HasAll P inv) (l:Lock) (x:Rte) (h:x.path.length<=1000000):PC P inv 117 [.agg l.c,.agg x.c] (·=.b (zdK l x)):=by
 refine wf hH cd117 fun w0 M Q hM hE hQ hR=>?_;refine wq ?_
 (repeat' first|refine zaa [0,1,2,3,4,5,6,15,16,25,39,57] fun K hK=>?_|exact wt|refine wA ?_|(refine wB ?_ ?_<;>intro h<;>first|exact wN h|subst (h:(_:Bool)=_)|skip)|(refine wQ ?_;clear hQ hR hE hM)|fail)
 all_goals (unfold zdK;simp[*])
theorem zn9 (hH:HasAll P inv) (x:Lock) (y:Rte) (h:y.path.length<=1000000):PC P inv 116 ([.agg x.c,.agg y.c]++[]) (·=.b (zev x y)):=by
 have c1:=phase_pc hH x y h;unfold zev;revert c1;generalize zdK x y=a;intro c1;refine wf hH cd116 fun w0 M Q hM hE hQ hR=>?_;refine wq ?_
 (repeat' first|refine zaa [0,1,2,3,4] fun K hK=>?_|exact wt|refine wA ?_|(refine wB ?_ ?_<;>intro h<;>first|exact wN h|subst (h:(_:Bool)=_)|skip)|(refine wQ ?_;clear hQ hR hE hM)|refine wC c1 ?_|fail)
 all_goals simp[*]
theorem eqfTrk (hH:HasAll P inv) {jc:Nat} {caps:List AV} {p:Track->Section->Bool} (a:List Track) (b:List Section) (hc:∀ x∈a,∀ y∈b,PC P inv jc ([.agg x.c,.agg y.c]++caps) (·=.b (p x y))) (hb:zab caps=0) (ha:a.length<=1000000):PC P inv 111 [.sl 2 (a.map Track.c),.sl 3 (b.map Section.c),.fn jc caps] (·=.b (zaW p a b)):=by
 refine wf hH cd111 fun w0 M Q hM hE hQ hR=>?_;refine wq ?_
 (have hX:=@hb;(repeat' first|refine zaa kS fun K hK=>?_|exact wt|refine wA ?_|(refine wB ?_ ?_<;>intro h<;>first|exact wN h|subst (h:(_:Bool)=_)|skip)|(refine wQ ?_;clear hQ hR hE hM)|fail);all_goals clear hX)
 ·have:zaW p a b=false:=by
   cases hz:zaW p a b with
   |false=>rfl
   |true=>have:=zcy hz;omega
  rw[this]
 refine zaj (ι:=Nat) [1,2,6,15,16,17] (fun z=>[(17,.n z)]) (fun _=>[]) (fun z=>z) (a.length) (fun z=>(zaW p (a.drop z) (b.drop z)=zaW p a b)) (0) ?_;rintro k ⟨hk,hg⟩;(try dsimp only at hk hg |-);rcases Nat.lt_or_ge k a.length with hlt|hge
 ·have hltb:k<b.length:=by omega
  rw[zae hlt,zae hltb,zaW]at hg;have c1:=hc _ (zac hlt) _ (zac hltb);revert c1 hg;generalize p (nth a k) (nth b k)=t;intro hg c1;(have hX:=@hb;(repeat' first|refine zaa kS fun K hK=>?_|exact wt|refine wA ?_|(refine wB ?_ ?_<;>intro h<;>first|exact wN h|subst (h:(_:Bool)=_)|skip)|(refine wQ ?_;clear hQ hR hE hM)|refine wC c1 ?_|fail);all_goals clear hX)
  all_goals first
   |(rw[<-hg];rfl)
   |(exact ⟨k+1,by omega,⟨by omega,by rw[<-hg];rfl⟩,by omega⟩)
 ·rw[List.drop_eq_nil_of_le hge,List.drop_eq_nil_of_le (by omega),zaW]at hg
  (have hX:=@hb;(repeat' first|refine zaa kS fun K hK=>?_|exact wt|refine wA ?_|(refine wB ?_ ?_<;>intro h<;>first|exact wN h|subst (h:(_:Bool)=_)|skip)|(refine wQ ?_;clear hQ hR hE hM)|fail);all_goals clear hX)
  rw[<-hg]
theorem eqfSwt (hH:HasAll P inv) {jc:Nat} {caps:List AV} {p:Switch->Pnt->Bool} (a:List Switch) (b:List Pnt) (hc:∀ x∈a,∀ y∈b,PC P inv jc ([.agg x.c,.agg y.c]++caps) (·=.b (p x y))) (hb:zab caps=0) (ha:a.length<=1000000):PC P inv 113 [.sl 3 (a.map Switch.c),.sl 2 (b.map Pnt.c),.fn jc caps] (·=.b (zaW p a b)):=by
 refine wf hH cd113 fun w0 M Q hM hE hQ hR=>?_;refine wq ?_
 (have hX:=@hb;(repeat' first|refine zaa kS fun K hK=>?_|exact wt|refine wA ?_|(refine wB ?_ ?_<;>intro h<;>first|exact wN h|subst (h:(_:Bool)=_)|skip)|(refine wQ ?_;clear hQ hR hE hM)|fail);all_goals clear hX)
 ·have:zaW p a b=false:=by
   cases hz:zaW p a b with
   |false=>rfl
   |true=>have:=zcy hz;omega
  rw[this]
 refine zaj (ι:=Nat) [1,2,6,15,16,17] (fun z=>[(17,.n z)]) (fun _=>[]) (fun z=>z) (a.length) (fun z=>(zaW p (a.drop z) (b.drop z)=zaW p a b)) (0) ?_;rintro k ⟨hk,hg⟩;(try dsimp only at hk hg |-);rcases Nat.lt_or_ge k a.length with hlt|hge
 ·have hltb:k<b.length:=by omega
  rw[zae hlt,zae hltb,zaW]at hg;have c1:=hc _ (zac hlt) _ (zac hltb);revert c1 hg;generalize p (nth a k) (nth b k)=t;intro hg c1;(have hX:=@hb;(repeat' first|refine zaa kS fun K hK=>?_|exact wt|refine wA ?_|(refine wB ?_ ?_<;>intro h<;>first|exact wN h|subst (h:(_:Bool)=_)|skip)|(refine wQ ?_;clear hQ hR hE hM)|refine wC c1 ?_|fail);all_goals clear hX)
  all_goals first
   |(rw[<-hg];rfl)
   |(exact ⟨k+1,by omega,⟨by omega,by rw[<-hg];rfl⟩,by omega⟩)
 ·rw[List.drop_eq_nil_of_le hge,List.drop_eq_nil_of_le (by omega),zaW]at hg
  (have hX:=@hb;(repeat' first|refine zaa kS fun K hK=>?_|exact wt|refine wA ?_|(refine wB ?_ ?_<;>intro h<;>first|exact wN h|subst (h:(_:Bool)=_)|skip)|(refine wQ ?_;clear hQ hR hE hM)|fail);all_goals clear hX)
  rw[<-hg]
theorem eqfLck (hH:HasAll P inv) {jc:Nat} {caps:List AV} {p:Lock->Rte->Bool} (a:List Lock) (b:List Rte) (hc:∀ x∈a,∀ y∈b,PC P inv jc ([.agg x.c,.agg y.c]++caps) (·=.b (p x y))) (hb:zab caps=0) (ha:a.length<=1000000):PC P inv 115 [.sl 4 (a.map Lock.c),.sl 7 (b.map Rte.c),.fn jc caps] (·=.b (zaW p a b)):=by
 refine wf hH cd115 fun w0 M Q hM hE hQ hR=>?_;refine wq ?_
 (have hX:=@hb;(repeat' first|refine zaa kS fun K hK=>?_|exact wt|refine wA ?_|(refine wB ?_ ?_<;>intro h<;>first|exact wN h|subst (h:(_:Bool)=_)|skip)|(refine wQ ?_;clear hQ hR hE hM)|fail);all_goals clear hX)
 ·have:zaW p a b=false:=by
   cases hz:zaW p a b with
   |false=>rfl
   |true=>have:=zcy hz;omega
  rw[this]
 refine zaj (ι:=Nat) [1,2,6,15,16,17] (fun z=>[(17,.n z)]) (fun _=>[]) (fun z=>z) (a.length) (fun z=>(zaW p (a.drop z) (b.drop z)=zaW p a b)) (0) ?_;rintro k ⟨hk,hg⟩;(try dsimp only at hk hg |-);rcases Nat.lt_or_ge k a.length with hlt|hge
 ·have hltb:k<b.length:=by omega
  rw[zae hlt,zae hltb,zaW]at hg;have c1:=hc _ (zac hlt) _ (zac hltb);revert c1 hg;generalize p (nth a k) (nth b k)=t;intro hg c1;(have hX:=@hb;(repeat' first|refine zaa kS fun K hK=>?_|exact wt|refine wA ?_|(refine wB ?_ ?_<;>intro h<;>first|exact wN h|subst (h:(_:Bool)=_)|skip)|(refine wQ ?_;clear hQ hR hE hM)|refine wC c1 ?_|fail);all_goals clear hX)
  all_goals first
   |(rw[<-hg];rfl)
   |(exact ⟨k+1,by omega,⟨by omega,by rw[<-hg];rfl⟩,by omega⟩)
 ·rw[List.drop_eq_nil_of_le hge,List.drop_eq_nil_of_le (by omega),zaW]at hg
  (have hX:=@hb;(repeat' first|refine zaa kS fun K hK=>?_|exact wt|refine wA ?_|(refine wB ?_ ?_<;>intro h<;>first|exact wN h|subst (h:(_:Bool)=_)|skip)|(refine wQ ?_;clear hQ hR hE hM)|fail);all_goals clear hX)
  rw[<-hg]
theorem secR_ref (hH:HasAll P inv) (p:Pln) (hl:p.sections.length<=1000000000) (n:Int):PC P inv 293 [.agg p.c,.n n] (·=.n (za1 (fun x=>decide (Section.id x=n)) 0 p.sections)):=by
 refine wf hH cd293 fun w0 M Q hM hE hQ hR=>?_;refine wq ?_
 (repeat' first|refine zaa kJ fun K hK=>?_|exact wt|refine wA ?_|(refine wB ?_ ?_<;>intro h<;>first|exact wN h|subst (h:(_:Bool)=_)|skip)|(refine wQ ?_;clear hQ hR hE hM)|fail)
 refine zaj (ι:=Nat) [1,2,4,5] (fun z=>[(5,.n z)]) (fun _=>[]) (fun z=>z) (p.sections.length) (fun z=>(za1 (fun x=>decide (Section.id x=n)) (z:Int) (p.sections.drop z)=za1 (fun x=>decide (Section.id x=n)) 0 p.sections)) (0) ?_;rintro k ⟨hk,hg⟩;(try dsimp only at hk hg |-);rcases Nat.lt_or_ge k p.sections.length with hlt|hge
 ·rw[zae hlt,za1]at hg
  by_cases e:(nth p.sections k).id=n
  ·have e2:decide ((nth p.sections k).id=n)=true:=decide_eq_true e
   rw[if_pos e2]at hg;skip
   (have hX:=@e2;(repeat' first|refine zaa kJ fun K hK=>?_|exact wt|refine wA ?_|(refine wB ?_ ?_<;>intro h<;>first|exact wN h|subst (h:(_:Bool)=_)|skip)|(refine wQ ?_;clear hQ hR hE hM)|fail);all_goals clear hX)
   all_goals first|rfl|exact hg|exact congrArg AV.n hg|(exfalso;contradiction)|(rw[<-hg];done)|(rw[<-hg];rfl)|(simp[*];done)
  ·have e2:decide ((nth p.sections k).id=n)=false:=decide_eq_false e
   rw[if_neg (by simp[e])]at hg
   (have hX:=@e2;(repeat' first|refine zaa kJ fun K hK=>?_|exact wt|refine wA ?_|(refine wB ?_ ?_<;>intro h<;>first|exact wN h|subst (h:(_:Bool)=_)|skip)|(refine wQ ?_;clear hQ hR hE hM)|fail);all_goals clear hX)
   all_goals first|(exfalso;contradiction)|exact ⟨k+1,by omega,⟨by omega,hg⟩,by omega⟩
 ·rw[List.drop_eq_nil_of_le hge,za1]at hg
  (repeat' first|refine zaa kJ fun K hK=>?_|exact wt|refine wA ?_|(refine wB ?_ ?_<;>intro h<;>first|exact wN h|subst (h:(_:Bool)=_)|skip)|(refine wQ ?_;clear hQ hR hE hM)|fail)
  all_goals first|exact hg|(rw[<-hg];done)
theorem zn1 (hH:HasAll P inv) (p:Pln) (hl:p.points.length<=1000000000) (n:Int):PC P inv 294 [.agg p.c,.n n] (·=.n (za1 (fun x=>decide (Pnt.id x=n)) 0 p.points)):=by
 refine wf hH cd294 fun w0 M Q hM hE hQ hR=>?_;refine wq ?_
 (repeat' first|refine zaa kJ fun K hK=>?_|exact wt|refine wA ?_|(refine wB ?_ ?_<;>intro h<;>first|exact wN h|subst (h:(_:Bool)=_)|skip)|(refine wQ ?_;clear hQ hR hE hM)|fail)
 refine zaj (ι:=Nat) [1,2,4,5] (fun z=>[(5,.n z)]) (fun _=>[]) (fun z=>z) (p.points.length) (fun z=>(za1 (fun x=>decide (Pnt.id x=n)) (z:Int) (p.points.drop z)=za1 (fun x=>decide (Pnt.id x=n)) 0 p.points)) (0) ?_;rintro k ⟨hk,hg⟩;(try dsimp only at hk hg |-);rcases Nat.lt_or_ge k p.points.length with hlt|hge
 ·rw[zae hlt,za1]at hg
  by_cases e:(nth p.points k).id=n
  ·have e2:decide ((nth p.points k).id=n)=true:=decide_eq_true e
   rw[if_pos e2]at hg;skip
   (have hX:=@e2;(repeat' first|refine zaa kJ fun K hK=>?_|exact wt|refine wA ?_|(refine wB ?_ ?_<;>intro h<;>first|exact wN h|subst (h:(_:Bool)=_)|skip)|(refine wQ ?_;clear hQ hR hE hM)|fail);all_goals clear hX)
   all_goals first|rfl|exact hg|exact congrArg AV.n hg|(exfalso;contradiction)|(rw[<-hg];done)|(rw[<-hg];rfl)|(simp[*];done)
  ·have e2:decide ((nth p.points k).id=n)=false:=decide_eq_false e
   rw[if_neg (by simp[e])]at hg
   (have hX:=@e2;(repeat' first|refine zaa kJ fun K hK=>?_|exact wt|refine wA ?_|(refine wB ?_ ?_<;>intro h<;>first|exact wN h|subst (h:(_:Bool)=_)|skip)|(refine wQ ?_;clear hQ hR hE hM)|fail);all_goals clear hX)
   all_goals first|(exfalso;contradiction)|exact ⟨k+1,by omega,⟨by omega,hg⟩,by omega⟩
 ·rw[List.drop_eq_nil_of_le hge,za1]at hg
  (repeat' first|refine zaa kJ fun K hK=>?_|exact wt|refine wA ?_|(refine wB ?_ ?_<;>intro h<;>first|exact wN h|subst (h:(_:Bool)=_)|skip)|(refine wQ ?_;clear hQ hR hE hM)|fail)
  all_goals first|exact hg|(rw[<-hg];done)
theorem zeG (hH:HasAll P inv) (l:List Rte) (hl:l.length<=1000000000) (n:Int):PC P inv 310 [.sl 7 (l.map Rte.c),.n n] (·=.n (za1 (fun x=>decide (Rte.id x=n)) 0 l)):=by
 refine wf hH cd310 fun w0 M Q hM hE hQ hR=>?_;refine wq ?_
 (repeat' first|refine zaa kF fun K hK=>?_|exact wt|refine wA ?_|(refine wB ?_ ?_<;>intro h<;>first|exact wN h|subst (h:(_:Bool)=_)|skip)|(refine wQ ?_;clear hQ hR hE hM)|fail)
 refine zaj (ι:=Nat) [0,1,4,5] (fun z=>[(5,.n z)]) (fun _=>[]) (fun z=>z) (l.length) (fun z=>(za1 (fun x=>decide (Rte.id x=n)) (z:Int) (l.drop z)=za1 (fun x=>decide (Rte.id x=n)) 0 l)) (0) ?_;rintro k ⟨hk,hg⟩;(try dsimp only at hk hg |-);rcases Nat.lt_or_ge k l.length with hlt|hge
 ·rw[zae hlt,za1]at hg
  by_cases e:(nth l k).id=n
  ·have e2:decide ((nth l k).id=n)=true:=decide_eq_true e
   rw[if_pos e2]at hg;skip
   (have hX:=@e2;(repeat' first|refine zaa kF fun K hK=>?_|exact wt|refine wA ?_|(refine wB ?_ ?_<;>intro h<;>first|exact wN h|subst (h:(_:Bool)=_)|skip)|(refine wQ ?_;clear hQ hR hE hM)|fail);all_goals clear hX)
   all_goals first|rfl|exact hg|exact congrArg AV.n hg|(exfalso;contradiction)|(rw[<-hg];done)|(rw[<-hg];rfl)|(simp[*];done)
  ·have e2:decide ((nth l k).id=n)=false:=decide_eq_false e
   rw[if_neg (by simp[e])]at hg
   (have hX:=@e2;(repeat' first|refine zaa kF fun K hK=>?_|exact wt|refine wA ?_|(refine wB ?_ ?_<;>intro h<;>first|exact wN h|subst (h:(_:Bool)=_)|skip)|(refine wQ ?_;clear hQ hR hE hM)|fail);all_goals clear hX)
   all_goals first|(exfalso;contradiction)|exact ⟨k+1,by omega,⟨by omega,hg⟩,by omega⟩
 ·rw[List.drop_eq_nil_of_le hge,za1]at hg
  (repeat' first|refine zaa kF fun K hK=>?_|exact wt|refine wA ?_|(refine wB ?_ ?_<;>intro h<;>first|exact wN h|subst (h:(_:Bool)=_)|skip)|(refine wQ ?_;clear hQ hR hE hM)|fail)
  all_goals first|exact hg|(rw[<-hg];done)
theorem zf3 (hH:HasAll P inv) (l:List Sgn) (hl:l.length<=1000000000) (n:Int):PC P inv 314 [.sl 3 (l.map Sgn.c),.n n] (·=.n (za1 (fun x=>decide (Sgn.id x=n)) 0 l)):=by
 refine wf hH cd314 fun w0 M Q hM hE hQ hR=>?_;refine wq ?_
 (repeat' first|refine zaa kF fun K hK=>?_|exact wt|refine wA ?_|(refine wB ?_ ?_<;>intro h<;>first|exact wN h|subst (h:(_:Bool)=_)|skip)|(refine wQ ?_;clear hQ hR hE hM)|fail)
 refine zaj (ι:=Nat) [0,1,4,5] (fun z=>[(5,.n z)]) (fun _=>[]) (fun z=>z) (l.length) (fun z=>(za1 (fun x=>decide (Sgn.id x=n)) (z:Int) (l.drop z)=za1 (fun x=>decide (Sgn.id x=n)) 0 l)) (0) ?_;rintro k ⟨hk,hg⟩;(try dsimp only at hk hg |-);rcases Nat.lt_or_ge k l.length with hlt|hge
 ·rw[zae hlt,za1]at hg
  by_cases e:(nth l k).id=n
  ·have e2:decide ((nth l k).id=n)=true:=decide_eq_true e
   rw[if_pos e2]at hg;skip
   (have hX:=@e2;(repeat' first|refine zaa kF fun K hK=>?_|exact wt|refine wA ?_|(refine wB ?_ ?_<;>intro h<;>first|exact wN h|subst (h:(_:Bool)=_)|skip)|(refine wQ ?_;clear hQ hR hE hM)|fail);all_goals clear hX)
   all_goals first|rfl|exact hg|exact congrArg AV.n hg|(exfalso;contradiction)|(rw[<-hg];done)|(rw[<-hg];rfl)|(simp[*];done)
  ·have e2:decide ((nth l k).id=n)=false:=decide_eq_false e
   rw[if_neg (by simp[e])]at hg
   (have hX:=@e2;(repeat' first|refine zaa kF fun K hK=>?_|exact wt|refine wA ?_|(refine wB ?_ ?_<;>intro h<;>first|exact wN h|subst (h:(_:Bool)=_)|skip)|(refine wQ ?_;clear hQ hR hE hM)|fail);all_goals clear hX)
   all_goals first|(exfalso;contradiction)|exact ⟨k+1,by omega,⟨by omega,hg⟩,by omega⟩
 ·rw[List.drop_eq_nil_of_le hge,za1]at hg
  (repeat' first|refine zaa kF fun K hK=>?_|exact wt|refine wA ?_|(refine wB ?_ ?_<;>intro h<;>first|exact wN h|subst (h:(_:Bool)=_)|skip)|(refine wQ ?_;clear hQ hR hE hM)|fail)
  all_goals first|exact hg|(rw[<-hg];done)
theorem zly (hH:HasAll P inv) (l:List Pnt) (hl:l.length<=1000000000) (n:Int):PC P inv 316 [.sl 2 (l.map Pnt.c),.n n] (·=.n (za1 (fun x=>decide (Pnt.id x=n)) 0 l)):=by
 refine wf hH cd316 fun w0 M Q hM hE hQ hR=>?_;refine wq ?_
 (repeat' first|refine zaa kF fun K hK=>?_|exact wt|refine wA ?_|(refine wB ?_ ?_<;>intro h<;>first|exact wN h|subst (h:(_:Bool)=_)|skip)|(refine wQ ?_;clear hQ hR hE hM)|fail)
 refine zaj (ι:=Nat) [0,1,4,5] (fun z=>[(5,.n z)]) (fun _=>[]) (fun z=>z) (l.length) (fun z=>(za1 (fun x=>decide (Pnt.id x=n)) (z:Int) (l.drop z)=za1 (fun x=>decide (Pnt.id x=n)) 0 l)) (0) ?_;rintro k ⟨hk,hg⟩;(try dsimp only at hk hg |-);rcases Nat.lt_or_ge k l.length with hlt|hge
 ·rw[zae hlt,za1]at hg
  by_cases e:(nth l k).id=n
  ·have e2:decide ((nth l k).id=n)=true:=decide_eq_true e
   rw[if_pos e2]at hg;skip
   (have hX:=@e2;(repeat' first|refine zaa kF fun K hK=>?_|exact wt|refine wA ?_|(refine wB ?_ ?_<;>intro h<;>first|exact wN h|subst (h:(_:Bool)=_)|skip)|(refine wQ ?_;clear hQ hR hE hM)|fail);all_goals clear hX)
   all_goals first|rfl|exact hg|exact congrArg AV.n hg|(exfalso;contradiction)|(rw[<-hg];done)|(rw[<-hg];rfl)|(simp[*];done)
  ·have e2:decide ((nth l k).id=n)=false:=decide_eq_false e
   rw[if_neg (by simp[e])]at hg
   (have hX:=@e2;(repeat' first|refine zaa kF fun K hK=>?_|exact wt|refine wA ?_|(refine wB ?_ ?_<;>intro h<;>first|exact wN h|subst (h:(_:Bool)=_)|skip)|(refine wQ ?_;clear hQ hR hE hM)|fail);all_goals clear hX)
   all_goals first|(exfalso;contradiction)|exact ⟨k+1,by omega,⟨by omega,hg⟩,by omega⟩
 ·rw[List.drop_eq_nil_of_le hge,za1]at hg
  (repeat' first|refine zaa kF fun K hK=>?_|exact wt|refine wA ?_|(refine wB ?_ ?_<;>intro h<;>first|exact wN h|subst (h:(_:Bool)=_)|skip)|(refine wQ ?_;clear hQ hR hE hM)|fail)
  all_goals first|exact hg|(rw[<-hg];done)
def znS (p:Pln) (a b:Int):Int:=match p.signals.find? (fun x=>decide (x.sec=a)&&decide (x.ed=b)) with|some x=>x.id|none=>0
theorem zoE (hH:HasAll P inv) (p:Pln) (hl:p.signals.length<=1000000000) (a b:Int):PC P inv 311 [.agg p.c,.n a,.n b] (·=.n (znS p a b)):=by
 unfold znS;refine wf hH cd311 fun w0 M Q hM hE hQ hR=>?_;refine wq ?_
 (repeat' first|refine zaa yK fun K hK=>?_|exact wt|refine wA ?_|(refine wB ?_ ?_<;>intro h<;>first|exact wN h|subst (h:(_:Bool)=_)|skip)|(refine wQ ?_;clear hQ hR hE hM)|fail)
 refine zaj (ι:=Nat) [1,2,3,6,7] (fun z=>[(7,.n z)]) (fun _=>[]) (fun z=>z) (p.signals.length) (fun z=>((p.signals.drop z).find? (fun x=>decide (x.sec=a)&&decide (x.ed=b))=p.signals.find? (fun x=>decide (x.sec=a)&&decide (x.ed=b)))) (0) ?_;rintro k ⟨hk,hg⟩;(try dsimp only at hk hg |-);rcases Nat.lt_or_ge k p.signals.length with hlt|hge
 ·rw[zae hlt,List.find?_cons]at hg
  by_cases e:(nth p.signals k).sec=a
  ·by_cases e3:(nth p.signals k).ed=b
   ·have e2:decide ((nth p.signals k).sec=a)=true:=decide_eq_true e
    have e4:decide ((nth p.signals k).ed=b)=true:=decide_eq_true e3;rw[e2,e4]at hg;skip
    (have hX:=zA @e2 @e4;(repeat' first|refine zaa yK fun K hK=>?_|exact wt|refine wA ?_|(refine wB ?_ ?_<;>intro h<;>first|exact wN h|subst (h:(_:Bool)=_)|skip)|(refine wQ ?_;clear hQ hR hE hM)|fail);all_goals clear hX)
    all_goals first|rfl|exact hg|exact congrArg AV.n hg|(exfalso;contradiction)|(rw[<-hg];done)|(rw[<-hg];rfl)|(simp[*];done)
   ·have e2:decide ((nth p.signals k).sec=a)=true:=decide_eq_true e
    have e4:decide ((nth p.signals k).ed=b)=false:=decide_eq_false e3;rw[e2,e4]at hg;(have hX:=zA @e2 @e4;(repeat' first|refine zaa yK fun K hK=>?_|exact wt|refine wA ?_|(refine wB ?_ ?_<;>intro h<;>first|exact wN h|subst (h:(_:Bool)=_)|skip)|(refine wQ ?_;clear hQ hR hE hM)|fail);all_goals clear hX)
    all_goals first|(exfalso;contradiction)|exact ⟨k+1,by omega,⟨by omega,hg⟩,by omega⟩
  ·have e2:decide ((nth p.signals k).sec=a)=false:=decide_eq_false e
   rw[e2]at hg;(have hX:=@e2;(repeat' first|refine zaa yK fun K hK=>?_|exact wt|refine wA ?_|(refine wB ?_ ?_<;>intro h<;>first|exact wN h|subst (h:(_:Bool)=_)|skip)|(refine wQ ?_;clear hQ hR hE hM)|fail);all_goals clear hX)
   all_goals first|(exfalso;contradiction)|exact ⟨k+1,by omega,⟨by omega,hg⟩,by omega⟩
 ·rw[List.drop_eq_nil_of_le hge,List.find?_nil]at hg
  (repeat' first|refine zaa yK fun K hK=>?_|exact wt|refine wA ?_|(refine wB ?_ ?_<;>intro h<;>first|exact wN h|subst (h:(_:Bool)=_)|skip)|(refine wQ ?_;clear hQ hR hE hM)|fail)
  all_goals first|exact hg|(rw[<-hg];done)
theorem zkb (hH:HasAll P inv) (r:Rte) (h1:r.path.length<=1000000) (h2:r.over.length<=1000000):PC P inv 315 [.agg r.c] (·=.sl 1 ((r.path++r.over).map zaJ)):=by
 have f0:(r.path.map zaJ).flatten++(r.over.map zaJ).flatten=((r.path++r.over).map zaJ).flatten:=by simp
 have f1:r.path.length+r.over.length=(r.path++r.over).length:=by simp
 generalize r.path++r.over=all at *;refine wf hH cd315 fun w0 M Q hM hE hQ hR=>?_;refine wq ?_
 (have hX:=zA @f0 @f1;(repeat' first|refine zaa kD fun K hK=>?_|exact wt|refine wA ?_|(refine wB ?_ ?_<;>intro h<;>first|exact wN h|subst (h:(_:Bool)=_)|skip)|(refine wQ ?_;clear hQ hR hE hM)|fail);all_goals clear hX)
 all_goals first|rfl
theorem zqN (hH:HasAll P inv) (l:Lock) (x:Rte) (h:x.path.length<=1000000):PC P inv 313 [.agg l.c,.n x.path.length,.n x.timer] (·=.b (zdK l x)):=by
 refine wf hH cd313 fun w0 M Q hM hE hQ hR=>?_;refine wq ?_
 (repeat' first|refine zaa [0,1,2,3,6,7,18,19,30,46,56] fun K hK=>?_|exact wt|refine wA ?_|(refine wB ?_ ?_<;>intro h<;>first|exact wN h|subst (h:(_:Bool)=_)|skip)|(refine wQ ?_;clear hQ hR hE hM)|fail)
 all_goals (unfold zdK;simp[*])
 all_goals first|omega
set_option maxHeartbeats 8000000
theorem zmK (f:Nat->Nat) (v:AV):∀ (xs:List AV) (p:Nat),rnL f (xs.set p v)=(rnL f xs).set p (rnV f v)
 |[],_=>by simp[rnL]
 |x::xs,0=>by simp[rnL]
 |x::xs,p+1=>by simp only[List.set_cons_succ,rnL,zmK f v xs p]
theorem zqc (f:Nat->Option (List AV)) (v:AV):∀ (xs:List AV) (p:Nat),zaT f (xs.set p v)=(zaT f xs).set p (zaR f v)
 |[],_=>by simp[zaT]
 |x::xs,0=>by simp[zaT]
 |x::xs,p+1=>by simp only[List.set_cons_succ,zaT,zqc f v xs p]
theorem sns_set (k:Nat) (σ:AS) (v:AV) (xs:List AV) (p:Nat):zbF k σ (xs.set p v)=(zbF k σ xs).set p (zfZ k σ v):=zqc _ v xs p
attribute [go_sem] zmK sns_set
theorem ziY (v:AV):∀ {xs:List AV} {p:Nat},zab xs=0->p<xs.length->zab (xs.set p v)=v.bound
 |[],p,_,h=>absurd h (by simp)
 |x::xs,0,h,_=>by
  simp only[zab]at h;have h1:=zaQ x.bound (zab xs);have h2:=zaq x.bound (zab xs);simp only[List.set_cons_zero,zab,show zab xs=0 by omega]
  unfold mx;split<;>omega
 |x::xs,p+1,h,hp=>by
  simp only[zab]at h;have h1:=zaQ x.bound (zab xs);have h2:=zaq x.bound (zab xs);simp only[List.set_cons_succ,zab,ziY v (show zab xs=0 by omega) (by simpa using hp),show x.bound=0 by omega]
  unfold mx;split<;>omega
theorem zlX {α:Type} {c:α->List AV} {sz:Nat} [Cells c sz] {l:List α} {p:Nat} (v:AV) (h:p<l.length*sz):zab ((l.map c).flatten.set p v)=v.bound :=
 ziY v (zd5 l) (by rw[zbo];exact h)
attribute [go_sem] List.length_set zlX AV.bound
theorem zni (hH:HasAll P inv) (l:List Int) (h:l.length<=1000000) (h0:0<l.length):PO P inv 108 [.sl 1 (l.map zaJ)] (.sm 0 l.length 0 l.length 1) [(0,.cells (l.map zaJ).flatten true)]:=by
 refine PO.fn hH cd108 fun w0 M Q hM hE hQ hR=>?_;dsimp only[cd108]at hQ |-;refine wq ?_
 (repeat' first|refine zaa [0,2,4] fun K hK=>?_|exact wt|refine wA ?_|(refine wB ?_ ?_<;>intro h<;>first|exact wN h|subst (h:(_:Bool)=_)|skip)|(refine wR ?_;clear hQ hR hE hM)|fail)
 all_goals first|(exfalso;omega)|skip
 all_goals (left;constructor)
 all_goals (refine wD ?_;try exact wt)
 all_goals rw[decide_eq_true h0]
end Go.Lev
namespace Go.Eng
open Go.RowKit
mutual
/-- Numbers,truth values,names: nothing that lies in memory nobody names. -/
def nmV:AV->Bool
 |.agg cs=>nmL cs
 |.tup cs=>nmL cs
 |.i _ _=>true|.b _=>true|.v _=>true|.u=>true|.s0 _=>true|.ptr _ _ _=>true|.sm _ _ _ _ _=>true
 |.sl _ _=>false|.ip _ _ _ _=>false|.fn _ _=>false|.mp _=>false|.top=>false
def nmL:List AV->Bool
 |[]=>true
 |x::xs=>nmV x&&nmL xs
end
mutual
theorem zqZ {c c':Ctx} (hS:c'.S=c.S):∀ (x:AV) (y:Value),nmV x=true->rel c x y->rel c' x y
 |.agg cs,y,s,r=>by
  simp only[rel]at r |-
  obtain ⟨xs,e,r⟩:=r;exact ⟨xs,e,zkB hS cs _ (by simpa only[nmV] using s) r⟩
 |.tup cs,y,s,r=>by
  simp only[rel]at r |-
  obtain ⟨xs,e,r⟩:=r;exact ⟨xs,e,zq1 hS cs _ (by simpa only[nmV] using s) r⟩
 |.i _ _,_,_,r=>by simpa only[rel] using r
 |.b _,_,_,r=>by simpa only[rel] using r
 |.v _,_,_,r=>by simpa only[rel] using r
 |.u,_,_,r=>by simpa only[rel] using r
 |.s0 _,_,_,r=>by simpa only[rel] using r
 |.ptr _ _ _,_,_,r=>by simpa only[rel,hS] using r
 |.sm _ _ _ _ _,_,_,r=>by simpa only[rel,hS] using r
 |.sl _ _,_,s,_=>by simp[nmV]at s
 |.ip _ _ _ _,_,s,_=>by simp[nmV]at s
 |.fn _ _,_,s,_=>by simp[nmV]at s
 |.mp _,_,s,_=>by simp[nmV]at s
 |.top,_,s,_=>by simp[nmV]at s
theorem zq1 {c c':Ctx} (hS:c'.S=c.S):∀ (xs:List AV) (ys:List Value),nmL xs=true->zcp c xs ys->zcp c' xs ys
 |[],ys,_,r=>by simpa only[zcp] using r
 |x::xs,ys,s,r=>by
  simp only[nmL,Bool.and_eq_true]at s;simp only[zcp]at r |-
  obtain ⟨y,ys',e,r1,r2⟩:=r;exact ⟨y,ys',e,zqZ hS x y s.1 r1,zq1 hS xs ys' s.2 r2⟩
theorem zkB {c c':Ctx} (hS:c'.S=c.S):∀ (xs:List AV) (ys:List Value),nmL xs=true->relCs c xs ys->relCs c' xs ys
 |[],ys,_,r=>by simpa only[relCs] using r
 |x::xs,ys,s,r=>by
  simp only[nmL,Bool.and_eq_true]at s;simp only[relCs]at r |-
  obtain ⟨y,ys',e,ho,r1,r2⟩:=r;exact ⟨y,ys',e,ho,zqZ hS x y s.1 r1,zkB hS xs ys' s.2 r2⟩
end
def nmR:List (Nat×AO)->Bool
 |[]=>true
 |(_,.cells cs _)::r=>nmL cs&&nmR r
 |_::r=>nmR r
theorem zq0:∀ {σ:List (Nat×AO)},nmR σ=true->∀ {l:Nat} {cs:List AV} {b:Bool},zah σ l=some (.cells cs b)->nmL cs=true
 |[],_,l,cs,b,e=>by simp[zah]at e
 |(k,o)::r,h,l,cs,b,e=>by
  have hr:nmR r=true:=by
   cases o with
   |cells cs' b'=>simp only[nmR,Bool.and_eq_true]at h;exact h.2
   |imap kvs=>exact h
   |rsv=>exact h
  unfold zah at e;split at e
  ·simp only[Option.some.injEq]at e
   subst e;simp only[nmR,Bool.and_eq_true]at h;exact h.1
  ·exact zq0 hr e
section
variable {P:Program} {inv:Nat->Option Nat} {w0:World} {M:Nat->Prop} {n N:Nat} {φ:AF} {σ:AS}
theorem PO.snapK (hM:∀ b,M b->b<w0.heap.size) (k:Nat) {j:Nat} {args args':List AV} {r:AV} {σ0:AS} (h:PO P inv j args' r σ0) (he:zbF k σ args=args') (hr:nmV r=true) (hs:nmR σ0=true) {K:AV->AS->Prop}
  (hk:K (shV (zaw N φ σ) r) (zg9 σ (shS (zaw N φ σ) σ0))):CallK P inv w0 M N φ σ j args K:=by
 obtain ⟨f1,f2,f3⟩:=zbw N φ σ;refine ⟨zaw N φ σ,f1,f2,fun g hg β w vs hm ha=>?_⟩
 have hf:=zec hm hM (A':=fun _=>False) (fun _ h=>h.elim) k
 have ha2:=zdQ hm hM (fun _ h=>h.elim) hf _ _ ha
 rw[show zaT (za5 k σ) args=args' from he]at ha2
 have hle:Ctx.Le ⟨inv,w,fun _=>False,fun _=>none⟩ (ctx inv (fun _=>False) [] (fun _=>0) w):=⟨rfl,Nat.le_refl _,fun _ _ _=>rfl,fun b _ hb=>by
  rcases hb with hb|⟨l,o,e,_⟩
  ·exact hb
  ·simp[zah]at e⟩
 have hS:(ctx inv (fun _=>False) [] (fun _=>0) w).S=fun _=>Option.none:=by funext l;simp[ctx,zai,zah]
 refine (h w (fun _=>False) (fun _ h=>h.elim) g hg (fun _=>0) w vs (Mem.none w) (zco (N:=0) hle _ _ (.inr hS) ha2)).mono ?_
 rintro e w' ⟨v,r',σ',β',rfl,⟨rfl,rfl⟩,hm',_,hr'⟩;have hm2:Mem inv w (avoid M σ β) σ' β' w':=⟨hm'.below,hm'.inj,hm'.own,fun l cs e=>by
  obtain ⟨xs,ty,q1,q2,q3⟩:=hm'.cells l cs e;exact ⟨xs,ty,q1,q2,zkB (c:=ctx inv (fun _=>False) σ' β' w') (c':=ctx inv (avoid M σ β) σ' β' w') rfl _ _ (zq0 hs e) q3⟩,hm'.ghost,hm'.maps⟩
 obtain ⟨j1,j2,j3⟩:=hm.join hm2 (zaw N φ σ) f3;exact ⟨v,_,_,_,rfl,hk,j1,j2,j3 _ _ (zqZ (c:=ctx inv (fun _=>False) σ' β' w') (c':=ctx inv (avoid M σ β) σ' β' w') rfl _ _ hr hr')⟩
end
end Go.Eng
namespace Go.Lev
open Go.Eng
def zmB:Sh:=.st [.i .i64,.i .u8]
def zj7:Sh:=.st [.i .i64,.i .i64,.i .i64]
def zqf:Sh:=.st [.i .i64,.i .u8,.i .i64,.i .i64]
def zmD:Sh:=.st [.s 2 zmB,.s 3 zj7,.s 4 zqf]
def U8 (x:Int):Prop:=0<=x/\x<=255
def Track.ok (t:Track):Prop:=I64 t.id/\U8 t.is
def Switch.ok (t:Switch):Prop:=I64 t.id/\I64 t.lie/\I64 t.call
def Lock.ok (t:Lock):Prop:=I64 t.id/\U8 t.phase/\I64 t.gone/\I64 t.left
def State.ok (s:State):Prop:=(s.tracks.length<=maxLen/\∀ t∈s.tracks,t.ok)/\(s.switches.length<=maxLen/\∀ t∈s.switches,t.ok)/\(s.locks.length<=maxLen/\∀ t∈s.locks,t.ok)
theorem of_track (d:D) (h:Sh.ok zmB d):∃ t:Track,Sh.av zmB d=t.c/\t.ok:=by
 obtain ⟨l,rfl,h⟩:=ziu h;obtain ⟨d1,l,rfl,h1,h⟩:=zaU h;obtain ⟨d2,l,rfl,h2,h⟩:=zaU h;obtain rfl:=zeO h;obtain ⟨a,rfl,ha⟩:=zbI h1;obtain ⟨b,rfl,hb⟩:=of_u8 h2;exact ⟨⟨a,b⟩,rfl,ha,hb⟩
theorem zqV (d:D) (h:Sh.ok zj7 d):∃ t:Switch,Sh.av zj7 d=t.c/\t.ok:=by
 obtain ⟨l,rfl,h⟩:=ziu h;obtain ⟨d1,l,rfl,h1,h⟩:=zaU h;obtain ⟨d2,l,rfl,h2,h⟩:=zaU h;obtain ⟨d3,l,rfl,h3,h⟩:=zaU h;obtain rfl:=zeO h;obtain ⟨a,rfl,ha⟩:=zbI h1;obtain ⟨b,rfl,hb⟩:=zbI h2;obtain ⟨c,rfl,hc⟩:=zbI h3;exact ⟨⟨a,b,c⟩,rfl,ha,hb,hc⟩
theorem of_lock (d:D) (h:Sh.ok zqf d):∃ t:Lock,Sh.av zqf d=t.c/\t.ok:=by
 obtain ⟨l,rfl,h⟩:=ziu h;obtain ⟨d1,l,rfl,h1,h⟩:=zaU h;obtain ⟨d2,l,rfl,h2,h⟩:=zaU h;obtain ⟨d3,l,rfl,h3,h⟩:=zaU h;obtain ⟨d4,l,rfl,h4,h⟩:=zaU h;obtain rfl:=zeO h;obtain ⟨a,rfl,ha⟩:=zbI h1;obtain ⟨b,rfl,hb⟩:=of_u8 h2;obtain ⟨c,rfl,hc⟩:=zbI h3;obtain ⟨e,rfl,he⟩:=zbI h4;exact ⟨⟨a,b,c,e⟩,rfl,ha,hb,hc,he⟩
theorem arg_state {d:D} (h:Sh.ok zmD d):∃ s:State,Sh.arg zmD d=.agg s.c/\s.ok:=by
 obtain ⟨l,rfl,h⟩:=ziu h;obtain ⟨d1,l,rfl,h1,h⟩:=zaU h;obtain ⟨d2,l,rfl,h2,h⟩:=zaU h;obtain ⟨d3,l,rfl,h3,h⟩:=zaU h;obtain rfl:=zeO h;obtain ⟨l1,rfl,m1,h1⟩:=of_s h1;obtain ⟨l2,rfl,m2,h2⟩:=of_s h2;obtain ⟨l3,rfl,m3,h3⟩:=of_s h3;obtain ⟨t1,e1,f1,g1⟩:=zfL of_track l1 h1;obtain ⟨t2,e2,f2,g2⟩:=zfL zqV l2 h2;obtain ⟨t3,e3,f3,g3⟩:=zfL of_lock l3 h3;refine ⟨⟨t1,t2,t3⟩, ?_,⟨by simpa [f1] using m1,g1⟩,⟨by simpa [f2] using m2,g2⟩,⟨by simpa [f3] using m3,g3⟩⟩
 simp only[Sh.arg,Sh.av,zdt,zmD,e1,e2,e3,State.c,List.cons_append,List.nil_append]
end Go.Lev
namespace Go.Eng
structure ActD where
 kind:Int
 id:Int
 value:Int
 data:List Int
 deriving DecidableEq,Inhabited
def byte1 (x:Int):List AV:=[.i .u8 x]
instance:Cells byte1 1:=⟨fun _=>rfl,fun _=>rfl⟩
def ActD.c (x:ActD):List AV:=[.i .u8 x.kind,.n x.id,.n x.value,.sl 1 (x.data.map byte1)]
instance:Cells ActD.c 4:=⟨fun _=>rfl,fun _=>rfl⟩
attribute [go_sem] byte1 ActD.c
end Go.Eng
namespace Go.Lev
open Go.Eng
set_option maxRecDepth 10000
set_option maxHeartbeats 2000000
variable {P:Program} {inv:Nat->Option Nat} {w0:World} {M:Nat->Prop}
set_option maxHeartbeats 4000000
def isTrk (s:State) (n:Int):Prop:=∃ t∈s.tracks,t.id=n
def isSwt (s:State) (n:Int):Prop:=∃ t∈s.switches,t.id=n
instance (s:State) (n:Int):Decidable (isTrk s n):=by unfold isTrk;infer_instance
instance (s:State) (n:Int):Decidable (isSwt s n):=by unfold isSwt;infer_instance
end Go.Lev
