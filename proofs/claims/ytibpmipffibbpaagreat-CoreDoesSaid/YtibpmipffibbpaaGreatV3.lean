/-
  A part of the engine that walks the functions' codes, and of the functions' contracts. Conditions: those that each theorem names.
-/
import Derived.Test.YtibpmipffibbpaaGreatV2
import Derived.IntWalk
set_option linter.unusedSimpArgs false
set_option linter.unusedVariables false
set_option linter.unusedSectionVars false
namespace Go.Lev
open Go.Eng
def okAt (l:List Section) (j:Nat):Prop:=1<=(nth l j).id/\(nth l j).id<=99/\zbD (nth l j)=true/\(0<j->(nth l (j-1)).id<(nth l j).id)/\∀ i,i<j->(nth l j).pt≠0->(nth l i).pt≠(nth l j).pt
def okAt' (l:List Section) (j:Nat):Prop:=1<=(nth l j).id/\(nth l j).id<=99/\zbD (nth l j)=true/\∀ i,i<j->(nth l i).id<(nth l j).id/\((nth l j).pt≠0->(nth l i).pt≠(nth l j).pt)
theorem zeJ (s:Section):zcO s=zbD s:=by
 unfold zcO zbD zcp
 by_cases h:s.pt=0<;>simp[h]
def Marks (l:List Section) (pts:List Bool) (k:Nat):Prop:=pts.length=100/\∀ p,p<100->(nth pts p=true↔0<p/\∃ i,i<k/\(nth l i).pt=(p:Int))
theorem za7 {α:Type} [Inhabited α] (l:List α) (i j:Nat) (x:α) (h:i<l.length):nth (l.set i x) j=if j=i then x else nth l j:=by
 unfold nth
 by_cases e:j=i
 ·subst e;simp[h]
 ·simp[e,List.getElem?_set,Ne.symm e]
theorem zkL (l:List Section):∀ (r:List Section) (k:Nat) (pts:List Bool),l.drop k=r->Marks l pts k->(ck1 l k pts r=true↔∀ j,k<=j->j<l.length->okAt l j)
 |[],k,pts,hr,_=>by
  have:l.length<=k:=by simpa using hr
  simp[ck1];intro j h1 h2;omega
 |s::r,k,pts,hr,hm=>by
  have hk:k<l.length:=by
   rcases Nat.lt_or_ge k l.length with h|h
   ·exact h
   ·rw[List.drop_eq_nil_of_le h]at hr;cases hr
  rw[zaf hk,List.cons.injEq]at hr
  obtain ⟨rfl,hr⟩:=hr
  simp only[ck1,Bool.and_eq_true,Bool.not_eq_true']
  have hb:zjE l k pts (nth l k)=false↔okAt l k:=by
   unfold zjE okAt zcp
   rw[zeJ]
   cases hs:zbD (nth l k) with
   |false=>simp
   |true =>
    have hbd:=zfH (by rw[zeJ];exact hs)
    have hp:=hm.2 (nth l k).pt.toNat (by omega)
    have e1:(((k:Int)-1).toNat)=k-1:=by omega
    rw[e1]
    have hpf:nth pts (nth l k).pt.toNat=false↔∀ i,i<k->(nth l k).pt≠0->(nth l i).pt≠(nth l k).pt:=by
     rw[<-Bool.not_eq_true,hp]
     constructor
     ·intro h i hi h0 he
      exact h ⟨by omega,i,hi,by omega⟩
     ·rintro h ⟨h0,i,hi,he⟩
      exact h i hi (by omega) (by omega)
    simp only[Bool.or_eq_false_iff,Bool.and_eq_false_iff,Bool.not_eq_false',Bool.and_eq_true,decide_eq_true_eq,decide_eq_false_iff_not,hpf]
    constructor
    ·rintro ⟨⟨⟨⟨h1,h2⟩,_⟩,h3⟩,h4⟩
     exact ⟨h1,h2,trivial,fun h0=>by rcases h3 with h3|h3<;>omega,h4⟩
    ·rintro ⟨h1,h2,_,h3,h4⟩
     refine ⟨⟨⟨⟨h1,h2⟩,trivial⟩, ?_⟩,h4⟩
     rcases Nat.eq_zero_or_pos k with h0|h0
     ·left;omega
     ·right;have:=h3 h0;omega
  rw[hb]
  constructor
  ·rintro ⟨h1,h2⟩ j hj hlt
   have hbd:=zfH (by rw[zeJ];exact h1.2.2.1)
   have hm':Marks l (pts.set (nth l k).pt.toNat (decide (0<(nth l k).pt))) (k+1):=by
    refine ⟨by simp[hm.1],fun p hp=>?_⟩
    rw[za7 _ _ _ _ (by rw[hm.1];omega)]
    split
    ·rename_i e
     constructor
     ·intro h;simp at h;exact ⟨by omega,k,by omega,by omega⟩
     ·rintro ⟨h0,_⟩;simp;omega
    ·rename_i e
     rw[hm.2 p hp]
     constructor
     ·rintro ⟨h0,i,hi,he⟩;exact ⟨h0,i,by omega,he⟩
     ·rintro ⟨h0,i,hi,he⟩
      refine ⟨h0,i, ?_,he⟩
      rcases Nat.lt_or_ge i k with h|h
      ·exact h
      ·obtain rfl:i=k:=by omega
       omega
   rcases Nat.lt_or_ge k j with h|h
   ·exact (zkL l r (k+1) _ hr hm').1 h2 j (by omega) hlt
   ·obtain rfl:j=k:=by omega
    exact h1
  ·intro h
   have h1:=h k (Nat.le_refl _) hk
   refine ⟨h1, ?_⟩
   have hbd:=zfH (by rw[zeJ];exact h1.2.2.1)
   have hm':Marks l (pts.set (nth l k).pt.toNat (decide (0<(nth l k).pt))) (k+1):=by
    refine ⟨by simp[hm.1],fun p hp=>?_⟩
    rw[za7 _ _ _ _ (by rw[hm.1];omega)]
    split
    ·rename_i e
     constructor
     ·intro h;simp at h;exact ⟨by omega,k,by omega,by omega⟩
     ·rintro ⟨h0,_⟩;simp;omega
    ·rename_i e
     rw[hm.2 p hp]
     constructor
     ·rintro ⟨h0,i,hi,he⟩;exact ⟨h0,i,by omega,he⟩
     ·rintro ⟨h0,i,hi,he⟩
      refine ⟨h0,i, ?_,he⟩
      rcases Nat.lt_or_ge i k with h|h
      ·exact h
      ·obtain rfl:i=k:=by omega
       omega
   exact (zkL l r (k+1) _ hr hm').2 fun j hj hlt=>h j (by omega) hlt
theorem marks0 (l:List Section):Marks l (List.replicate 100 false) 0:=by
 refine ⟨by simp,fun p hp=>?_⟩
 rw[zaK (by simpa using hp),List.getElem_replicate]
 constructor
 ·intro h;cases h
 ·rintro ⟨_,i,h,_⟩;exact absurd h (Nat.not_lt_zero _)
theorem zh3 (l:List Section):∀ (r:List Section) (k:Nat),l.drop k=r->(zhc (l.take k) r=true↔∀ j,k<=j->j<l.length->okAt' l j)
 |[],k,hr=>by
  have:l.length<=k:=by simpa using hr
  simp[zhc];intro j h1 h2;omega
 |s::r,k,hr=>by
  have hk:k<l.length:=by
   rcases Nat.lt_or_ge k l.length with h|h
   ·exact h
   ·rw[List.drop_eq_nil_of_le h]at hr;cases hr
  rw[zaf hk,List.cons.injEq]at hr
  obtain ⟨rfl,hr⟩:=hr
  rw[zhc,zhA hk,Bool.and_eq_true,zh3 l r (k+1) hr]
  have hb:rOk (l.take k) (nth l k)=true↔okAt' l k:=by
   unfold rOk okAt' zjk
   simp only[Bool.and_eq_true,Bool.not_eq_true',Bool.or_eq_false_iff,decide_eq_false_iff_not,Bool.not_eq_false',List.all_eq_true,Bool.and_eq_false_iff,decide_eq_true_eq]
   constructor
   ·rintro ⟨⟨⟨h1,h2⟩,h3⟩,h4⟩
    refine ⟨by omega,by omega,h3,fun i hi=>?_⟩
    have:=h4 (nth l i) (by rw[<-zjS hi];exact zab (by simp;omega))
    refine ⟨by omega,fun h0 he=>?_⟩
    rcases this.2 with h|h
    ·exact h0 h
    ·exact h he
   ·rintro ⟨h1,h2,h3,h4⟩
    refine ⟨⟨⟨by omega,by omega⟩,h3⟩,fun x hx=>?_⟩
    obtain ⟨i,hi,rfl⟩:=List.mem_iff_getElem.1 hx
    have hik:i<k:=by simp at hi;omega
    have:=h4 i hik
    have e:(l.take k)[i]=nth l i:=by rw[<-zaK hi,zjS hik]
    rw[e]
    refine ⟨by omega, ?_⟩
    by_cases h0:(nth l k).pt=0
    ·exact .inl h0
    ·exact .inr (this.2 h0)
  rw[hb]
  constructor
  ·rintro ⟨h1,h2⟩ j hj hlt
   rcases Nat.lt_or_ge k j with h|h
   ·exact h2 j (by omega) hlt
   ·obtain rfl:j=k:=by omega
    exact h1
  ·intro h
   exact ⟨h k (Nat.le_refl _) hk,fun j hj hlt=>h j (by omega) hlt⟩
def zeb (l:List Section):Prop:=∀ i j,i<j->j<l.length->(nth l i).id<(nth l j).id
theorem zie {l:List Section} (h:∀ j,j<l.length->okAt l j):zeb l:=by
 intro i j hij hj
 obtain ⟨d,rfl⟩:=Nat.exists_eq_add_of_lt hij
 clear hij
 induction d with
 |zero=>exact (h (i+0+1) hj).2.2.2.1 (by omega)
 |succ d ih =>
  have h1:=ih (by omega)
  have h2:=(h (i+(d+1)+1) hj).2.2.2.1 (by omega)
  have e:i+(d+1)+1-1=i+d+1:=by omega
  rw[e]at h2
  omega
theorem zhv (l:List Section):ck1 l 0 (List.replicate 100 false) l=zhc [] l:=by
 have h1:=zkL l l 0 _ rfl (marks0 l)
 have h2:=zh3 l l 0 rfl
 rw[List.take_zero]at h2
 rw[Bool.eq_iff_iff,h1,h2]
 constructor
 ·intro h j _ hj
  have hs:=zie fun j hj=>h j (Nat.zero_le _) hj
  have:=h j (Nat.zero_le _) hj
  exact ⟨this.1,this.2.1,this.2.2.1,fun i hi=>⟨hs i j hi hj,this.2.2.2.2 i hi⟩⟩
 ·intro h j _ hj
  have:=h j (Nat.zero_le _) hj
  exact ⟨this.1,this.2.1,this.2.2.1,fun h0=>(this.2.2.2 (j-1) (by omega)).1,fun i hi=>(this.2.2.2 i hi).2⟩
theorem zhE {l:List Section} (h:ck1 l 0 (List.replicate 100 false) l=true):zeb l :=
 zie fun j hj=>(zkL l l 0 _ rfl (marks0 l)).1 h j (Nat.zero_le _) hj
theorem zrp {a b:Int}:zlV a b<0↔a<b:=by unfold zlV;split<;>(try split)<;>omega
theorem zrq {a b:Int}:zlV a b=0↔a=b:=by unfold zlV;split<;>(try split)<;>omega
theorem ziK {l:List Section} {id:Int} (hs:zeb l):∀ (n i j:Nat),j-i<=n->i<=j->j<=l.length->(∀ x,x<i->(nth l x).id<id)->(∀ x,j<=x->x<l.length->id<=(nth l x).id) ->
  (∀ x,x<zhx l id i j->(nth l x).id<id)/\(∀ x,zhx l id i j<=x->x<l.length->id<=(nth l x).id)
 |0,i,j,hn,hij,hj,h1,h2=>by
  obtain rfl:i=j:=by omega
  rw[zkO];exact ⟨h1,h2⟩
 |n+1,i,j,hn,hij,hj,h1,h2=>by
  rcases Nat.lt_or_ge i j with hlt|hge
  ·rw[zlZ hlt]
   split
   ·rename_i hc
    rw[zrp]at hc
    refine ziK hs n _ _ (by omega) (by omega) hj (fun x hx=>?_) h2
    rcases Nat.lt_or_ge x ((i+j) / 2) with h|h
    ·have:=hs x ((i+j) / 2) h (by omega);omega
    ·obtain rfl:x=(i+j) / 2:=by omega
     exact hc
   ·rename_i hc
    rw[zrp]at hc
    refine ziK hs n _ _ (by omega) (by omega) (by omega) h1 (fun x hx hxl=>?_)
    rcases Nat.lt_or_ge ((i+j) / 2) x with h|h
    ·have:=hs ((i+j) / 2) x h hxl;omega
    ·obtain rfl:x=(i+j) / 2:=by omega
     omega
  ·obtain rfl:i=j:=by omega
   rw[zkO];exact ⟨h1,h2⟩
theorem zcW (id:Int):∀ (l:List Section) (k:Nat),(zdR id k l=-1/\∀ i,i<l.length->(nth l i).id≠id)\/∃ p,p<l.length/\zdR id k l=(k:Int)+p/\(nth l p).id=id
 |[],k=>.inl ⟨rfl,fun i h=>by simp at h⟩
 |x::r,k=>by
  unfold zdR
  split
  ·rename_i h
   exact .inr ⟨0,by simp,by simp,by simpa [nth] using h⟩
  ·rename_i h
   rcases zcW id r (k+1) with ⟨h1,h2⟩|⟨p,h1,h2,h3⟩
   ·refine .inl ⟨h1,fun i hi=>?_⟩
    cases i with
    |zero=>simpa [nth] using h
    |succ i=>simpa [nth] using h2 i (by simpa using hi)
   ·exact .inr ⟨p+1,by simpa using h1,by rw[h2];omega,by simpa [nth] using h3⟩
theorem place_at {l:List Section} (hs:zeb l) (id:Int):((zan l id).2=false/\zdR id 0 l=-1)\/((zan l id).2=true/\zdR id 0 l=(zan l id).1):=by
 have hb:=ziK (id:=id) hs l.length 0 l.length (by omega) (by omega) (Nat.le_refl _) (fun x h=>absurd h (Nat.not_lt_zero _)) (fun x h1 h2=>absurd h1 (by omega))
 have hle:=zrC l id l.length 0 l.length (by omega) (by omega)
 unfold zan
 rcases zcW id l 0 with ⟨h1,h2⟩|⟨p,h1,h2,h3⟩
 ·left
  refine ⟨?_,h1⟩
  simp only[Bool.and_eq_false_iff,decide_eq_false_iff_not]
  rcases Nat.lt_or_ge (zhx l id 0 l.length) l.length with h|h
  ·right;rw[zrq];exact h2 _ h
  ·left;omega
 ·right
  have hp:zhx l id 0 l.length=p:=by
   rcases Nat.lt_trichotomy (zhx l id 0 l.length) p with h|h|h
   ·have a:=hb.2 _ (Nat.le_refl _) (by omega)
    have b:=hs _ _ h h1
    omega
   ·exact h
   ·have:=hb.1 p h;omega
  rw[hp]
  refine ⟨?_,by rw[h2];omega⟩
  simp only[Bool.and_eq_true,decide_eq_true_eq,zrq]
  exact ⟨h1,h3⟩
theorem end_eq {l:List Section} (hs:zeb l) (s:Section) (e:Nat):zi7 l s e=zcD l s e:=by
 unfold zi7 zcD
 split
 ·rfl
 ·rcases place_at hs (nth s.ends e).to with ⟨h1,h2⟩|⟨h1,h2⟩
  ·rw[h1,h2];simp
  ·have h3:=znG h1
   rw[h1,h2]
   simp only[Int.toNat_natCast]
   split
   ·rename_i h
    rcases h with h|h|h|h
    ·omega
    ·simp[h]
    ·simp[h]
    ·simp[h.1,h.2]
   ·rename_i h
    simp only[not_or]at h
    obtain ⟨_,h4,h5,h6⟩:=h
    simp only[h4,h5,decide_false,Bool.not_true,Bool.false_or,Bool.or_false]
    by_cases h7:(nth s.ends e).to=s.id
    ·by_cases h8:(nth s.ends e).ed=(e:Int)
     ·exact absurd ⟨h7,h8⟩ h6
     ·simp[h8]
    ·simp[h7]
theorem check_eq (l:List Section):zef l=zh5 l:=by
 unfold zef zh5 zcg
 by_cases h16:16<(l.length:Int)
 ·simp[h16]
 ·rw[if_neg h16,zhv]
  cases h1:zhc [] l with
  |false=>simp
  |true =>
   have hs:=zhE ((zhv l).trans h1)
   have e2:ck2 l=zoF l:=by
    unfold ck2 zoF
    congr 1
    funext s
    congr 1
    funext e
    exact end_eq hs s e
   simp[h16,e2]
theorem zdG {l:List Section} (h:zcg l=true):zeb l:=by
 unfold zcg at h
 simp only[Bool.and_eq_true]at h
 exact zhE ((zhv l).trans h.1.2)
set_option maxRecDepth 10000
set_option maxHeartbeats 4000000
variable {P:Program} {inv:Nat->Option Nat}
def SecOK (l:List Section):Prop:=∀ s∈l,1<=s.id/\s.id<=99/\0<=s.pt/\s.pt<=99/\s.ends.length<=3
theorem zrb {φ:AF} {σ:AS} {t l ver:Nat} {cs:List AV} {b:Bool} (hf:zbs φ t=.ptr l ver 0) (hs:zaF σ l=some (.cells cs b)) (hl:cs.length=ver) (hv:0<ver):zed φ σ [.cell t (some ver)]=some (.agg cs):=by
 subst hl
 have h:zcx cs 0 (some cs.length)=some (.agg cs):=by
  rw[al_s,if_pos (by omega)]
  simp[seg]
 simp[zed,ziQ,ares,hf,zdC,hs,h]
def ziB:List Int->List Section->List Int
 |a,[]=>a
 |a,s::r=>ziB (a.set s.id.toNat s.ends.length) r
theorem zlO:∀ (l:List Section) (a:List Int),(ziB a l).length=a.length
 |[],a=>rfl
 |s::r,a=>by rw[ziB,zlO r];simp
def ends (l:List Section):List Int:=ziB (List.replicate 100 0) l
theorem zn8 (l:List Section):(ends l).length=100:=by rw[ends,zlO];simp
theorem ends_pc (hH:HasAll P inv) (l:List Section) (hl:l.length<=1000000000) (hs:SecOK l):PC P inv 122 [.sl 3 (l.map Section.c)] (·=.agg ((ends l).map AV.n)):=by
 refine PC.fn hH cd122 fun w0 M Q hM hE hQ hR=>?_;dsimp only[cd122,qm,ql,qf,qi,qb,qc,qN,qt]at hQ |-
 (repeat' first|refine zaa [0,2,4,5,6,7,8] fun K hK=>?_|(refine hK.go ?_;clear hK K)|with_reducible exact wT|refine wA ?_|(refine wB (fun h=>?_) (fun h=>?_)<;>first|exact wN h|subst (h:(_:Bool)=_)|skip)|(refine wQ ?_;clear hQ hR hE hM)|fail)
 refine zam (ι:=Nat×(List Int)) [2,5,6,7] (fun z=>[(7,.n z.1)]) (fun z=>[(0,.cells (z.2.map AV.n) true)]) (fun z=>z.1) (l.length) (fun z=>(z.2.length=100)/\(ziB z.2 (l.drop z.1)=ends l)) (0,List.replicate 100 0) ?_;rintro ⟨k,a⟩ ⟨hk,hp,hg⟩;(try dsimp only at hk hp hg |-);rcases Nat.lt_or_ge k l.length with hlt|hge
 ·rw[zaf hlt]at hg
  rw[ziB]at hg
  have hb:=hs _ (zab hlt)
  (have hX:=@hp;(repeat' first|refine zaa [0,2,4,5,6,7,8] fun K hK=>?_|(refine hK.go ?_;clear hK K)|with_reducible exact wT|refine wA ?_|(refine wB (fun h=>?_) (fun h=>?_)<;>first|exact wN h|subst (h:(_:Bool)=_)|skip)|(refine wQ ?_;clear hQ hR hE hM)|fail);all_goals clear hX)
  exact nY (k+1,a.set (nth l k).id.toNat (nth l k).ends.length) ⟨by (try dsimp only);omega,by (try dsimp only);simp[hp],hg⟩
 ·rw[List.drop_eq_nil_of_le hge,ziB]at hg
  (have hX:=@hp;(repeat' first|refine zaa [0,2,4,5,6,7,8] fun K hK=>?_|(refine hK.go ?_;clear hK K)|with_reducible exact wT|refine wA ?_|(refine wB (fun h=>?_) (fun h=>?_)<;>first|exact wN h|subst (h:(_:Bool)=_)|skip)|(refine wQ ?_;clear hQ hR hE hM)|fail);all_goals clear hX)
  subst hg
  refine hQ _ _ (.agg ((ends l).map AV.n)) (zrb (l:=0) (b:=true) rfl rfl (by simp[hp]) (by omega)) ?_
  simp only[zfF,zjW]
def zma:List Int->Int->List Section->List Int×Int
 |a,m,[]=>(a,m)
 |a,m,s::r=>if 0<s.pt then zma (a.set s.pt.toNat s.id) (m+1) r else zma a m r
def zki (a:List Int) (x:Pnt):Bool:=decide (x.sec=0)||!decide (nth a x.id.toNat=x.sec)
def pts (l:List Section):List Int×Int:=zma (List.replicate 100 0) 0 l
def points (p:Pln):Bool:=rise (p.points.map Pnt.id) 6&&(decide ((pts p.sections).2=p.points.length)&&!p.points.any (zki (pts p.sections).1))
theorem ptBad_pc (hH:HasAll P inv) (a:List Int) (ha:a.length=100) (x:Pnt) (hx:0<=x.id/\x.id<=99):PC P inv 132 ([.agg x.c]++[.ip 100 [a.map AV.n] 0 0]) (·=.b (zki a x)):=by
 refine PC.fn hH cd132 fun w0 M Q hM hE hQ hR=>?_;dsimp only[cd132,qm,ql,qf,qb,qc,qv,qN,qF,qt]at hQ |-
 (have hX:=@ha;(repeat' first|refine zaa [0,1,2,3] fun K hK=>?_|(refine hK.go ?_;clear hK K)|with_reducible exact wT|refine wA ?_|(refine wB (fun h=>?_) (fun h=>?_)<;>first|exact wN h|subst (h:(_:Bool)=_)|skip)|(refine wQ ?_;clear hQ hR hE hM)|fail);all_goals clear hX)
 all_goals (first|rfl|(grind[zki])|(simp[zki, *];done)|(simp_all [zki];done)|(simp_all [zki]<;>first|omega|((repeat' split)<;>first|rfl|(exfalso;omega))))
theorem zny:∀ {l:List Int} {p:Option Int},zdY p l=true->∀ x∈l,1<=x/\x<=99
 |[],_,_,_,h=>by cases h
 |y::r,p,hr,x,hx=>by
  simp only[zdY,Bool.and_eq_true,Bool.not_eq_true',decide_eq_false_iff_not]at hr
  rcases List.mem_cons.1 hx with rfl|hx
  ·omega
  ·exact zny hr.2 x hx
theorem zqc (hH:HasAll P inv) (hI:HasIds P inv) (p:Pln) (h1:p.sections.length<=1000000000) (h2:p.points.length<=1000000000) (hs:SecOK p.sections):PC P inv 123 [.agg p.c] (·=.b (points p)):=by
 have c1:=zoD hH hI p.points 6 h2
 cases hr:rise (p.points.map Pnt.id) 6 with
 |false =>
  rw[hr]at c1
  refine PC.fn hH cd123 fun w0 M Q hM hE hQ hR=>?_;dsimp only[cd123,qm,ql,qf,qi,qb,qc,qp,qN,qT,qt]at hQ |-
  (repeat' first|refine zaa [0,1,2,3,4,6,10,12,13,14,15,20] fun K hK=>?_|(refine hK.go ?_;clear hK K)|with_reducible exact wT|refine wA ?_|(refine wB (fun h=>?_) (fun h=>?_)<;>first|exact wN h|subst (h:(_:Bool)=_)|skip)|(refine wQ ?_;clear hQ hR hE hM)|refine wC c1 ?_|fail)
  all_goals simp[points,hr]
 |true =>
  rw[hr]at c1
  have hid:∀ x∈p.points,0<=x.id/\x.id<=99:=fun x hx=>by
   simp only[rise,Bool.and_eq_true]at hr
   have:=zny hr.1 x.id (List.mem_map_of_mem hx)
   omega
  refine PC.fn hH cd123 fun w0 M Q hM hE hQ hR=>?_;dsimp only[cd123,qm,ql,qf,qi,qb,qc,qp,qN,qT,qt]at hQ |-
  (repeat' first|refine zaa [0,1,2,3,4,6,10,12,13,14,15,20] fun K hK=>?_|(refine hK.go ?_;clear hK K)|with_reducible exact wT|refine wA ?_|(refine wB (fun h=>?_) (fun h=>?_)<;>first|exact wN h|subst (h:(_:Bool)=_)|skip)|(refine wQ ?_;clear hQ hR hE hM)|refine wC c1 ?_|fail)
  refine zam (ι:=Nat×(List Int)×Int) [1,2,3,4,12,13,14] (fun z=>[(4,.n z.2.2),(14,.n z.1)]) (fun z=>[(1,.cells (z.2.1.map AV.n) true)]) (fun z=>z.1) (p.sections.length) (fun z=>(z.2.1.length=100)/\(0<=z.2.2/\z.2.2<=z.1)/\(zma z.2.1 z.2.2 (p.sections.drop z.1)=pts p.sections)) (0,List.replicate 100 0,0) ?_;rintro ⟨k,a,m⟩ ⟨hk,hp,hm,hg⟩;(try dsimp only at hk hp hm hg |-);rcases Nat.lt_or_ge k p.sections.length with hlt|hge
  ·rw[zaf hlt]at hg
   rw[zma]at hg
   have hb:=hs _ (zab hlt)
   (have hX:=@hp;(repeat' first|refine zaa [0,1,2,3,4,6,10,12,13,14,15,20] fun K hK=>?_|(refine hK.go ?_;clear hK K)|with_reducible exact wT|refine wA ?_|(refine wB (fun h=>?_) (fun h=>?_)<;>first|exact wN h|subst (h:(_:Bool)=_)|skip)|(refine wQ ?_;clear hQ hR hE hM)|fail);all_goals clear hX)
   ·rw[if_pos (by assumption)]at hg
    exact nY (k+1,a.set (nth p.sections k).pt.toNat (nth p.sections k).id,m+1) ⟨by (try dsimp only);omega,by (try dsimp only);simp[hp],by (try dsimp only);omega,hg⟩
   ·rw[if_neg (by assumption)]at hg
    exact nY (k+1,a,m) ⟨by (try dsimp only);omega,hp,by (try dsimp only);omega,hg⟩
  ·rw[List.drop_eq_nil_of_le hge,zma]at hg
   have c2:=any_pnt hH p.points (fun x hx=>ptBad_pc hH a hp x (hid x hx)) h2
   (have hX:=@hp;(repeat' first|refine zaa [0,1,2,3,4,6,10,12,13,14,15,20] fun K hK=>?_|(refine hK.go ?_;clear hK K)|with_reducible exact wT|refine wA ?_|(refine wB (fun h=>?_) (fun h=>?_)<;>first|exact wN h|subst (h:(_:Bool)=_)|skip)|(refine wQ ?_;clear hQ hR hE hM)|refine wS c2 ?_|fail);all_goals clear hX)
   all_goals (simp only[points,hr,<-hg];clear hg hr;simp[*])
theorem runs300:zeg ((3,.b false)::(3,.b false)::(3,.b false)::(3,.b false)::(3,.b false)::(3,.b false)::(3,.b false)::(3,.b false)::(3,.b false)::(3,.b false)::(3,.b false)::(3,.b false)::(3,.b false)::(3,.b false)::(3,.b false)::(3,.b false)::(3,.b false)::(3,.b false)::(3,.b false)::(3,.b false)::(3,.b false)::(3,.b false)::(3,.b false)::(3,.b false)::(3,.b false)::(3,.b false)::(3,.b false)::(3,.b false)::(3,.b false)::(3,.b false)::(3,.b false)::(3,.b false)::(3,.b false)::(3,.b false)::(3,.b false)::(3,.b false)::(3,.b false)::(3,.b false)::(3,.b false)::(3,.b false)::(3,.b false)::(3,.b false)::(3,.b false)::(3,.b false)::(3,.b false)::(3,.b false)::(3,.b false)::(3,.b false)::(3,.b false)::(3,.b false)::(3,.b false)::(3,.b false)::(3,.b false)::(3,.b false)::(3,.b false)::(3,.b false)::(3,.b false)::(3,.b false)::(3,.b false)::(3,.b false)::(3,.b false)::(3,.b false)::(3,.b false)::(3,.b false)::(3,.b false)::(3,.b false)::(3,.b false)::(3,.b false)::(3,.b false)::(3,.b false)::(3,.b false)::(3,.b false)::(3,.b false)::(3,.b false)::(3,.b false)::(3,.b false)::(3,.b false)::(3,.b false)::(3,.b false)::(3,.b false)::(3,.b false)::(3,.b false)::(3,.b false)::(3,.b false)::(3,.b false)::(3,.b false)::(3,.b false)::(3,.b false)::(3,.b false)::(3,.b false)::(3,.b false)::(3,.b false)::(3,.b false)::(3,.b false)::(3,.b false)::(3,.b false)::(3,.b false)::(3,.b false)::(3,.b false)::(3,.b false)::[])=(List.replicate 300 false).map AV.b:=rfl
attribute [go_sem high] runs300
def zcP (x:Sgn):Nat:=x.sec.toNat*3+x.ed.toNat
def zdp (sec:List Int) (at_:List Bool) (x:Sgn):Bool:=!zb5 sec x.sec||(decide (x.ed<0)||(decide (nth sec x.sec.toNat<=x.ed)||nth at_ (zcP x)))
def zhG (sec:List Int):List Bool->List Sgn->Bool
 |_,[]=>true
 |a,x::r=>!zdp sec a x&&zhG sec (a.set (zcP x) true) r
def signals (p:Pln) (sec:List Int):Bool:=rise (p.signals.map Sgn.id) 10&&zhG sec (List.replicate 300 false) p.signals
theorem zoo (hH:HasAll P inv) (hI:HasIds P inv) (p:Pln) (h2:p.signals.length<=1000000000) (sec:List Int) (hs:sec.length=100) (hs3:∀ i,nth sec i<=3):PC P inv 124 [.agg p.c,.agg (sec.map AV.n)] (·=.b (signals p sec)):=by
 have c1:=zoB hH hI p.signals 10 h2
 have ht:(sec.map AV.n).take 100=sec.map AV.n:=List.take_of_length_le (by simp[hs])
 cases hr:rise (p.signals.map Sgn.id) 10 with
 |false =>
  rw[hr]at c1
  refine PC.fn hH cd124 fun w0 M Q hM hE hQ hR=>?_;dsimp only[cd124,qm,ql,qf,qi,qb,qc,qv,qN,qF,qt]at hQ |-
  (repeat' first|refine zaa [0,1,2,3,4,5,7,11,13,14,15,16,22,46] fun K hK=>?_|(refine hK.go ?_;clear hK K)|with_reducible exact wT|refine wA ?_|(refine wB (fun h=>?_) (fun h=>?_)<;>first|exact wN h|subst (h:(_:Bool)=_)|skip)|(refine wQ ?_;clear hQ hR hE hM)|refine wC c1 ?_|fail)
  all_goals simp[signals,hr]
 |true =>
  rw[hr]at c1
  refine PC.fn hH cd124 fun w0 M Q hM hE hQ hR=>?_;dsimp only[cd124,qm,ql,qf,qi,qb,qc,qv,qN,qF,qt]at hQ |-
  (have hX:=zA @hs @ht;(repeat' first|refine zaa [0,1,2,3,4,5,7,11,13,14,15,16,22,46] fun K hK=>?_|(refine hK.go ?_;clear hK K)|with_reducible exact wT|refine wA ?_|(refine wB (fun h=>?_) (fun h=>?_)<;>first|exact wN h|subst (h:(_:Bool)=_)|skip)|(refine wQ ?_;clear hQ hR hE hM)|refine wC c1 ?_|fail);all_goals clear hX)
  refine zam (ι:=Nat×(List Bool)) [3,4,5,13,14,15] (fun z=>[(15,.n z.1)]) (fun z=>[(2,.cells (z.2.map AV.b) true)]) (fun z=>z.1) (p.signals.length) (fun z=>(z.2.length=300)/\(zhG sec z.2 (p.signals.drop z.1)=zhG sec (List.replicate 300 false) p.signals)) (0,List.replicate 300 false) ?_;rintro ⟨k,a⟩ ⟨hk,hp,hg⟩;(try dsimp only at hk hp hg |-);rcases Nat.lt_or_ge k p.signals.length with hlt|hge
  ·rw[zaf hlt]at hg
   rw[zhG]at hg
   have c2:=zni hH sec hs (nth p.signals k).sec
   have hb:=hs3 (nth p.signals k).sec.toNat
   cases hth:zb5 sec (nth p.signals k).sec with
   |false =>
    rw[hth]at c2
    rw[show zdp sec a (nth p.signals k)=true by simp[zdp,hth]]at hg
    (have hX:=zA @hp (zA @hs @ht);(repeat' first|refine zaa [0,1,2,3,4,5,7,11,13,14,15,16,22,46] fun K hK=>?_|(refine hK.go ?_;clear hK K)|with_reducible exact wT|refine wA ?_|(refine wB (fun h=>?_) (fun h=>?_)<;>first|exact wN h|subst (h:(_:Bool)=_)|skip)|(refine wQ ?_;clear hQ hR hE hM)|refine wC c2 ?_|fail);all_goals clear hX)
    all_goals simp only[signals,hr,<-hg,Bool.and_false,Bool.not_true,Bool.false_and]
   |true =>
    rw[hth]at c2
    have h0:0<=(nth p.signals k).sec/\(nth p.signals k).sec<=99:=by simp only[zb5,Bool.and_eq_true,decide_eq_true_eq]at hth;omega
    (have hX:=zA @hp (zA @hs @ht);(repeat' first|refine zaa [0,1,2,3,4,5,7,11,13,14,15,16,22,46] fun K hK=>?_|(refine hK.go ?_;clear hK K)|with_reducible exact wT|refine wA ?_|(refine wB (fun h=>?_) (fun h=>?_)<;>first|exact wN h|subst (h:(_:Bool)=_)|skip)|(refine wQ ?_;clear hQ hR hE hM)|refine wC c2 ?_|fail);all_goals clear hX)
    ·rw[show zdp sec a (nth p.signals k)=true by simp[zdp,zcP,hth, *]]at hg
     simp only[signals,hr,<-hg,Bool.and_false,Bool.not_true,Bool.false_and]
    ·rw[show zdp sec a (nth p.signals k)=true by simp[zdp,zcP,hth, *]]at hg
     simp only[signals,hr,<-hg,Bool.and_false,Bool.not_true,Bool.false_and]
    ·rw[show zdp sec a (nth p.signals k)=true by simp[zdp,zcP,hth, *]]at hg
     simp only[signals,hr,<-hg,Bool.and_false,Bool.not_true,Bool.false_and]
    ·rw[show zdp sec a (nth p.signals k)=false by simp[zdp,zcP,hth, *]]at hg
     exact nY (k+1,a.set (zcP (nth p.signals k)) true) ⟨by (try dsimp only);omega,by (try dsimp only);simp[hp],hg⟩
  ·rw[List.drop_eq_nil_of_le hge,zhG]at hg
   (have hX:=@hp;(repeat' first|refine zaa [0,1,2,3,4,5,7,11,13,14,15,16,22,46] fun K hK=>?_|(refine hK.go ?_;clear hK K)|with_reducible exact wT|refine wA ?_|(refine wB (fun h=>?_) (fun h=>?_)<;>first|exact wN h|subst (h:(_:Bool)=_)|skip)|(refine wQ ?_;clear hQ hR hE hM)|fail);all_goals clear hX)
   all_goals simp only[signals,hr,<-hg,Bool.and_self]
def zpj (sec:List Int):List Bool->List Int->Bool
 |_,[]=>true
 |m,x::r=>!(!zb5 sec x||nth m x.toNat)&&zpj sec (m.set x.toNat true) r
def zlG (pts:List Pnt) (pr:Option Int) (f:Flk):Bool:=!(pts.find? fun x=>decide (x.id=f.pnt)).isSome||((match pr with|some y=>decide (f.pnt<=y)|none=>false)||(!decide (f.lie=1)&&!decide (f.lie=2)))
def zo2 (pts:List Pnt):Option Int->List Flk->Bool
 |_,[]=>true
 |pr,f::r=>!zlG pts pr f&&zo2 pts (some f.pnt) r
def zj6 (p:Pln) (r:Rte):Bool:=(p.signals.find? fun x=>decide (x.id=r.entry)).isSome&&(!(!decide (r.exit=0)&&(!(p.signals.find? fun x=>decide (x.id=r.exit)).isSome||decide (r.exit=r.entry)))&&!(decide (r.exit=0)&&decide (0<(r.over.length:Int))))
def zgs (r:Rte):Bool:=!decide ((r.path.length:Int)<1)&&(!decide (6<(r.path.length:Int))&&(!decide (2<(r.over.length:Int))&&!decide (3<(r.flanks.length:Int))))
def zeH (r:Rte):Bool:=!decide (r.timer<1)&&!decide (9<r.timer)
def zhQ (p:Pln) (r:Rte) (sec:List Int):Bool:=zpj sec ((List.replicate 100 false).set ((p.signals.find? fun x=>decide (x.id=r.entry)).getD Sgn.z).sec.toNat true) (r.path++r.over)
def zcR (p:Pln) (r:Rte) (sec:List Int):Bool:=zj6 p r&&(zgs r&&(zeH r&&(zhQ p r sec&&zo2 p.points none r.flanks)))
def lst (l:List Int):List AV:=[.sl 1 (l.map zcG)]
theorem find_mem {α:Type} {q:α->Bool} {l:List α} {x:α} (h:l.find? q=some x):x∈l:=List.mem_of_find?_eq_some h
theorem route_pc (hH:HasAll P inv) (hI:HasIds P inv) (p:Pln) (r:Rte) (h1:p.signals.length<=1000000000) (h2:p.points.length<=1000000000) (hf:r.flanks.length<=9223372036854775807) (hpa:r.path.length<=9223372036854775807) (hov:r.over.length<=9223372036854775807) (sec:List Int) (hs:sec.length=100) (hsig:∀ x∈p.signals,0<=x.sec/\x.sec<=99):PC P inv 126 [.agg p.c,.agg r.c,.agg (sec.map AV.n)] (·=.b (zcR p r sec)):=by
 have c1:=zn4 hH hI p.signals h1 r.entry
 have c2:=zn4 hH hI p.signals h1 r.exit
 have ht:(sec.map AV.n).take 100=sec.map AV.n:=List.take_of_length_le (by simp[hs])
 have he:0<=((p.signals.find? fun x=>decide (x.id=r.entry)).getD Sgn.z).sec/\((p.signals.find? fun x=>decide (x.id=r.entry)).getD Sgn.z).sec<=99:=by
  cases ha:(p.signals.find? fun x=>decide (x.id=r.entry)) with
  |none=>simp[Sgn.z]
  |some x=>exact hsig x (find_mem ha)
 have hr:zcR p r sec=(zj6 p r&&(zgs r&&(zeH r&&(zhQ p r sec&&zo2 p.points none r.flanks)))):=rfl
 revert hr
 generalize zcR p r sec=ans
 unfold zhQ zj6
 revert c1 c2 he
 generalize (p.signals.find? fun x=>decide (x.id=r.entry)).isSome=ia
 generalize (p.signals.find? fun x=>decide (x.id=r.entry)).getD Sgn.z=e
 generalize (p.signals.find? fun x=>decide (x.id=r.exit)).isSome=ib
 generalize (p.signals.find? fun x=>decide (x.id=r.exit)).getD Sgn.z=e'
 intro c1 c2 he hr
 refine PC.fn hH cd126 fun w0 M Q hM hE hQ hR=>?_;dsimp only[cd126,qm,ql,qf,qi,qb,qc,qp,qv,qN,qT,qF,qt]at hQ |-
 repeat' (first|(refine zaa [0,1,2,3,4,5,6,7,8,10,11,13,15,16,17,19,36,62,79,93,94,95,96,99,100,101,102,113,119,120,121,122,161] fun K hK=>cnd2 rfl (fun h=>?_) (fun h=>?_)<;>(try first|exact h.elim|obtain rfl:(_:Bool)=_:=h)<;>first|(exfalso;omega)|skip)|refine AWp.block ?_|(refine hK.go ?_;clear hK K)|refine Cont.go (by assumption) ?_|(refine cnd2 rfl (fun h=>?_) (fun h=>?_)<;>(try first|exact h.elim|obtain rfl:(_:Bool)=_:=h)<;>first|(exfalso;omega)|skip)|((first|refine zaa [0,1,2,3,4,5,6,7,8,10,11,13,15,16,17,19,36,62,79,93,94,95,96,99,100,101,102,113,119,120,121,122,161] fun K hK=>AWp.reg hE hM ?_|refine zaa [0,1,2,3,4,5,6,7,8,10,11,13,15,16,17,19,36,62,79,93,94,95,96,99,100,101,102,113,119,120,121,122,161] fun K hK=>AWp.regd hE hM ?_|refine AWp.reg hE hM ?_|refine AWp.regd hE hM ?_|refine AWp.ret ?_|refine AWp.skip ?_|refine AWp.exit ?_|(refine pk2 (fun h=>?_) (fun h=>?_)<;>(try first|exact h.elim|obtain rfl:(_:Bool)=_:=h))|refine zkm (fun h=>?_) ?_|refine zay hM (c1) ?_|refine zay hM (c2) ?_|(refine hQ _ _ _ rfl ?_;clear hQ hR hE hM)|(refine hR _ _ (hQ _ _ _ rfl ?_);clear hQ hR hE hM)|(refine ob_mk ?_ ?_;focus first|omega|(refine zrU ?_;(refine wD ?_;try with_reducible exact wT);done)))<;>try simp -dsimp -implicitDefEqProofs (disch:=omega) only[go_sem,reduceIte,↓reduceIte,Nat.reduceEqDiff,Nat.reduceLT,Nat.reduceLeDiff,Nat.reduceAdd,Nat.reduceSub,Nat.reduceMul,Int.reduceToNat,Int.reduceLT,Int.reduceLE,Int.reduceEq,Int.reduceNeg,Int.reduceNe,reduceCtorEq,ht]))
 refine AWp.mid [0,1,2,3,4,5,6,7] (ans=(zpj sec ((List.replicate 100 false).set e.sec.toNat true) (r.path++r.over)&&zo2 p.points none r.flanks)) ?_ fun hr=>?_
 ·(repeat' first|refine zaa [0,1,2,3,4,5,6,7,8,10,11,13,15,16,17,19,36,62,79,93,94,95,96,99,100,101,102,113,119,120,121,122,161] fun K hK=>?_|(refine hK.go ?_;clear hK K)|with_reducible exact wT|refine wA ?_|(refine wB (fun h=>?_) (fun h=>?_)<;>first|exact wN h|subst (h:(_:Bool)=_)|skip)|(refine wQ ?_;clear hQ hR hE hM)|fail)
  all_goals (first|(grind[zgs,zeH])|(refine ⟨?_, ?_⟩<;>first|(grind[zgs,zeH])|(simp;done)))
 ·clear c1 c2
  (have hX:=@ht;(repeat' first|refine zaa [0,1,2,3,4,5,6,7,8,10,11,13,15,16,17,19,36,62,79,93,94,95,96,99,100,101,102,113,119,120,121,122,161] fun K hK=>?_|(refine hK.go ?_;clear hK K)|with_reducible exact wT|refine wA ?_|(refine wB (fun h=>?_) (fun h=>?_)<;>first|exact wN h|subst (h:(_:Bool)=_)|skip)|(refine wQ ?_;clear hQ hR hE hM)|fail);all_goals clear hX)
  obtain ⟨L,hL⟩:∃ L,L=[r.path,r.over]:=⟨_,rfl⟩
  have hLl:L.length=2:=by rw[hL];rfl
  have hLf:L.flatten=r.path++r.over:=by rw[hL];simp
  rw[show [[AV.sl 1 (r.path.map zcG)],[AV.sl 1 (r.over.map zcG)]]=L.map lst by rw[hL];rfl]
  rw[<-hLf]at hr
  have hLb:∀ i,i<2->(nth L i).length<=9223372036854775807:=by
   intro i hi
   rcases (show i=0\/i=1 by omega) with rfl|rfl<;>(rw[hL];simpa [nth] using by omega)
  clear hL hLf
  rw[show (List.replicate 100 (AV.b false)).set e.sec.toNat (AV.b true)=((List.replicate 100 false).set e.sec.toNat true).map AV.b by rw[List.map_set,List.map_replicate]]
  have hp0:((List.replicate 100 false).set e.sec.toNat true).length=100:=by simp
  revert hr hp0
  generalize (List.replicate 100 false).set e.sec.toNat true=m0
  intro hr hp0
  refine zam (ι:=Nat×(List Bool)) [3,4,5,6,11,93,94,95] (fun z=>[(95,.n z.1)]) (fun z=>[(5,.cells (z.2.map AV.b) true)]) (fun z=>z.1) (2) (fun z=>(z.2.length=100)/\(zpj sec z.2 (L.drop z.1).flatten=zpj sec m0 L.flatten)) (0,m0) ?_;rintro ⟨k,m⟩ ⟨hk,hp,hg⟩;(try dsimp only at hk hp hg |-);rcases Nat.lt_or_ge k 2 with hlt|hge
  ·rw[zaf (by omega),List.flatten_cons]at hg
   have hb:=hLb k hlt
   (have hX:=zA @ht @lst.eq_1;(repeat' first|refine zaa [0,1,2,3,4,5,6,7,8,10,11,13,15,16,17,19,36,62,79,93,94,95,96,99,100,101,102,113,119,120,121,122,161] fun K hK=>?_|(refine hK.go ?_;clear hK K)|with_reducible exact wT|refine wA ?_|(refine wB (fun h=>?_) (fun h=>?_)<;>first|exact wN h|subst (h:(_:Bool)=_)|skip)|(refine wQ ?_;clear hQ hR hE hM)|fail);all_goals clear hX)
   refine zam (ι:=Nat×(List Bool)) [3,4,5,6,11,93,94,95,99,100,101] (fun z=>[(101,.n z.1)]) (fun z=>[(5,.cells (z.2.map AV.b) true)]) (fun z=>z.1) ((nth L k).length) (fun z=>(z.2.length=100)/\(zpj sec z.2 ((nth L k).drop z.1++(L.drop (k+1)).flatten)=zpj sec m0 L.flatten)) (0,m) ?_;rintro ⟨i,q⟩ ⟨hk,hq,hf'⟩;(try dsimp only at hk hq hf' |-);rcases Nat.lt_or_ge i (nth L k).length with hlt|hge
   ·rw[zaf (by assumption),List.cons_append,zpj]at hf'
    have c2:=zni hH sec hs (nth (nth L k) i)
    cases hth:zb5 sec (nth (nth L k) i) with
    |false =>
     rw[hth]at c2 hf'
     (have hX:=zA @hs (zA @ht @hq);(repeat' first|refine zaa [0,1,2,3,4,5,6,7,8,10,11,13,15,16,17,19,36,62,79,93,94,95,96,99,100,101,102,113,119,120,121,122,161] fun K hK=>?_|(refine hK.go ?_;clear hK K)|with_reducible exact wT|refine wA ?_|(refine wB (fun h=>?_) (fun h=>?_)<;>first|exact wN h|subst (h:(_:Bool)=_)|skip)|(refine wQ ?_;clear hQ hR hE hM)|refine wC c2 ?_|fail);all_goals clear hX)
     all_goals (rw[hr,<-hf'];simp)
    |true =>
     rw[hth]at c2 hf'
     have h0:0<=nth (nth L k) i/\nth (nth L k) i<=99:=by simp only[zb5,Bool.and_eq_true,decide_eq_true_eq]at hth;omega
     (have hX:=zA @hs (zA @ht @hq);(repeat' first|refine zaa [0,1,2,3,4,5,6,7,8,10,11,13,15,16,17,19,36,62,79,93,94,95,96,99,100,101,102,113,119,120,121,122,161] fun K hK=>?_|(refine hK.go ?_;clear hK K)|with_reducible exact wT|refine wA ?_|(refine wB (fun h=>?_) (fun h=>?_)<;>first|exact wN h|subst (h:(_:Bool)=_)|skip)|(refine wQ ?_;clear hQ hR hE hM)|refine wC c2 ?_|fail);all_goals clear hX)
     ·rw[hr,<-hf'];simp[*]
     ·exact nY (i+1,q.set (nth (nth L k) i).toNat true) ⟨by (try dsimp only);omega,by (try dsimp only);simp[hq],by (try dsimp only);rw[<-hf'];simp[*]⟩
   ·rw[List.drop_eq_nil_of_le (by assumption),List.nil_append]at hf'
    (have hX:=zA @hs (zA @ht @hq);(repeat' first|refine zaa [0,1,2,3,4,5,6,7,8,10,11,13,15,16,17,19,36,62,79,93,94,95,96,99,100,101,102,113,119,120,121,122,161] fun K hK=>?_|(refine hK.go ?_;clear hK K)|with_reducible exact wT|refine wA ?_|(refine wB (fun h=>?_) (fun h=>?_)<;>first|exact wN h|subst (h:(_:Bool)=_)|skip)|(refine wQ ?_;clear hQ hR hE hM)|fail);all_goals clear hX)
    exact nY (k+1,q) ⟨by (try dsimp only);omega,hq,hf'⟩
  ·rw[List.drop_eq_nil_of_le (by omega)]at hg
   rw[<-hg]at hr
   clear hg hp0
   simp only[List.flatten_nil,zpj,Bool.true_and]at hr
   (repeat' first|refine zaa [0,1,2,3,4,5,6,7,8,10,11,13,15,16,17,19,36,62,79,93,94,95,96,99,100,101,102,113,119,120,121,122,161] fun K hK=>?_|(refine hK.go ?_;clear hK K)|with_reducible exact wT|refine wA ?_|(refine wB (fun h=>?_) (fun h=>?_)<;>first|exact wN h|subst (h:(_:Bool)=_)|skip)|(refine wQ ?_;clear hQ hR hE hM)|fail)
   refine zam (ι:=Nat) [3,4,6,119,120,121] (fun z=>[(121,.n z)]) (fun _=>[]) (fun z=>z) (r.flanks.length) (fun z=>(zo2 p.points (zlj (r.flanks.map Flk.pnt) z) (r.flanks.drop z)=zo2 p.points none r.flanks)) (0) ?_;rintro k2 ⟨hk,hf'⟩;(try dsimp only at hk hf' |-);rcases Nat.lt_or_ge k2 r.flanks.length with hlt|hge
   ·rw[zaf (by assumption),zo2,<-zli Flk.pnt (by assumption)]at hf'
    have c3:=find_pnt hH hI p.points h2 (nth r.flanks k2).pnt
    unfold zlG at hf'
    rw[zqb Flk.pnt (by assumption)]at hf'
    revert c3 hf'
    generalize (p.points.find? fun x=>decide (x.id=(nth r.flanks k2).pnt)).isSome=ic
    generalize (p.points.find? fun x=>decide (x.id=(nth r.flanks k2).pnt)).getD Pnt.z=y
    intro hf' c3
    (repeat' first|refine zaa [0,1,2,3,4,5,6,7,8,10,11,13,15,16,17,19,36,62,79,93,94,95,96,99,100,101,102,113,119,120,121,122,161] fun K hK=>?_|(refine hK.go ?_;clear hK K)|with_reducible exact wT|refine wA ?_|(refine wB (fun h=>?_) (fun h=>?_)<;>first|exact wN h|subst (h:(_:Bool)=_)|skip)|(refine wQ ?_;clear hQ hR hE hM)|refine wC c3 ?_|fail)
    all_goals first|(first|rw[if_pos (show 0<(k2:Int) by assumption)]at hf'|rw[if_neg (show ¬0<(k2:Int) by assumption)]at hf'|skip)
    all_goals (clear c3;(try clear hQ hR);(try generalize (nth r.flanks ((k2:Int)-1).toNat).pnt=y0 at *))
    all_goals first|(rw[hr,<-hf'];clear hr hf';simp[*];done)|(refine ⟨k2+1,by omega,⟨by omega, ?_⟩,by omega⟩;rw[<-hf'];clear hf' hr;simp[*];done)
   ·rw[List.drop_eq_nil_of_le (by assumption),zo2]at hf'
    (repeat' first|refine zaa [0,1,2,3,4,5,6,7,8,10,11,13,15,16,17,19,36,62,79,93,94,95,96,99,100,101,102,113,119,120,121,122,161] fun K hK=>?_|(refine hK.go ?_;clear hK K)|with_reducible exact wT|refine wA ?_|(refine wB (fun h=>?_) (fun h=>?_)<;>first|exact wN h|subst (h:(_:Bool)=_)|skip)|(refine wQ ?_;clear hQ hR hE hM)|fail)
    rw[hr,<-hf']
theorem at_self {l:List Section} (hs:zeb l) {i:Nat} (hi:i<l.length):zdR (nth l i).id 0 l=i:=by
 rcases zcW (nth l i).id l 0 with ⟨_,h⟩|⟨p,h1,h2,h3⟩
 ·exact absurd rfl (h i hi)
 ·rcases Nat.lt_trichotomy p i with h|h|h
  ·have:=hs p i h hi;omega
  ·omega
  ·have:=hs i p h h1;omega
def Pw (x s:Section):Prop:=x.id<s.id/\(s.pt≠0->x.pt≠s.pt)
def One (s:Section):Prop:=1<=s.id/\s.id<=99/\zbD s=true
def zrY (l:List Section) (s:Section) (e:Nat):Prop :=
 ((nth s.ends e).to=0/\(nth s.ends e).ed=0)\/(¬((nth s.ends e).to=s.id/\(nth s.ends e).ed=(e:Int))/\0<=(nth s.ends e).ed/\∃ s'∈l,s'.id=(nth s.ends e).to/\(nth s.ends e).ed<s'.ends.length/\nth s'.ends (nth s.ends e).ed.toNat=⟨s.id,e⟩)
structure MayP (l:List Section):Prop where
 len:l.length<=16
 one:∀ s∈l,One s
 pw:l.Pairwise Pw
 join:∀ s∈l,∀ e,e<s.ends.length->zrY l s e
theorem zp8 (l:List Section):zhc [] l=true↔(∀ s∈l,One s)/\l.Pairwise Pw:=by
 have h2:=zh3 l l 0 rfl
 rw[List.take_zero]at h2
 rw[h2]
 constructor
 ·intro h
  refine ⟨fun s hs=>?_, ?_⟩
  ·obtain ⟨i,hi,rfl⟩:=List.mem_iff_getElem.1 hs
   have:=h i (Nat.zero_le _) hi
   rw[<-zaK hi]
   exact ⟨this.1,this.2.1,this.2.2.1⟩
  ·rw[List.pairwise_iff_getElem]
   intro i j hi hj hij
   rw[<-zaK hi,<-zaK hj]
   exact (h j (Nat.zero_le _) hj).2.2.2 i hij
 ·rintro ⟨h1,h3⟩ j _ hj
  have h4:=h1 _ (zab hj)
  refine ⟨h4.1,h4.2.1,h4.2.2,fun i hi=>?_⟩
  rw[List.pairwise_iff_getElem]at h3
  have:=h3 i j (by omega) hj hi
  rw[<-zaK (show i<l.length by omega),<-zaK hj]at this
  exact this
theorem zdF {l:List Section} (hs:zeb l) {s:Section} (h:s∈l):nth l (zdR s.id 0 l).toNat=s/\0<=zdR s.id 0 l:=by
 obtain ⟨i,hi,rfl⟩:=List.mem_iff_getElem.1 h
 rw[<-zaK hi,at_self hs hi]
 simp
theorem zlh {l:List Section} (hs:zeb l) (s:Section) (e:Nat):zcD l s e=true↔zrY l s e:=by
 unfold zcD zrY
 by_cases h0:(nth s.ends e).to=0/\(nth s.ends e).ed=0
 ·simp[h0]
 ·rw[if_neg h0]
  simp only[h0,false_or]
  constructor
  ·intro h
   split at h
   ·cases h
   ·rename_i hn
    simp only[not_or]at hn
    obtain ⟨h1,h2,h3,h4⟩:=hn
    simp only[Bool.and_eq_true,decide_eq_true_eq]at h
    rcases zcW (nth s.ends e).to l 0 with ⟨g1,_⟩|⟨p,g1,g2,g3⟩
    ·omega
    ·have ep:(zdR (nth s.ends e).to 0 l).toNat=p:=by rw[g2];omega
     rw[ep]at h h3
     refine ⟨h4,by omega,nth l p,zab g1,g3,by omega, ?_⟩
     rw[zqJ]
     exact h
  ·rintro ⟨h4,h2,s',hs',h5,h6,h7⟩
   obtain ⟨g1,g2⟩:=zdF hs hs'
   rw[h5]at g1 g2
   rw[if_neg (by rw[g1];omega),g1,h7]
   simp
theorem zgX (l:List Section):zcg l=true↔MayP l:=by
 constructor
 ·intro h
  have hs:=zdG h
  have h':=h
  unfold zcg zoF at h'
  simp only[Bool.and_eq_true,Bool.not_eq_true',decide_eq_false_iff_not,List.all_eq_true,zp8]at h'
  obtain ⟨⟨h1,h2,h3⟩,h4⟩:=h'
  refine ⟨by omega,h2,h3,fun s hsm e he=>?_⟩
  exact (zlh hs s e).1 ((zfr _ _ _).1 (h4 s hsm) e (Nat.zero_le _) (by omega))
 ·rintro ⟨h1,h2,h3,h4⟩
  have hm1:=(zp8 l).2 ⟨h2,h3⟩
  have hs:=zhE ((zhv l).trans hm1)
  unfold zcg zoF
  simp only[Bool.and_eq_true,Bool.not_eq_true',decide_eq_false_iff_not,List.all_eq_true]
  exact ⟨⟨by omega,hm1⟩,fun s hsm=>(zfr _ _ _).2 fun e _ he=>(zlh hs s e).2 (h4 s hsm e (by omega))⟩
theorem zlc:∀ (l:List Int) (p:Option Int),zdY p l=true↔(∀ x∈l,1<=x/\x<=99)/\l.Pairwise (· < ·)/\∀ y,p=some y->∀ x∈l,y<x
 |[],p=>by simp[zdY]
 |x::r,p=>by
  simp only[zdY,Bool.and_eq_true,Bool.not_eq_true',decide_eq_false_iff_not,zlc r (some x),List.pairwise_cons,List.mem_cons,forall_eq_or_imp,Option.some.injEq,forall_eq']
  constructor
  ·rintro ⟨⟨⟨h1,h2⟩,h3⟩,h4,h5,h6⟩
   refine ⟨⟨by omega,h4⟩,⟨h6,h5⟩,fun y hy=>?_⟩
   subst hy
   simp only[decide_eq_false_iff_not]at h3
   exact ⟨by omega,fun z hz=>by have:=h6 z hz;omega⟩
  ·rintro ⟨⟨h1,h4⟩,⟨h6,h5⟩,h7⟩
   refine ⟨⟨⟨by omega,by omega⟩, ?_⟩,h4,h5,h6⟩
   cases p with
   |none=>rfl
   |some y=>simp only[decide_eq_false_iff_not];have:=(h7 y rfl).1;omega
theorem zdq (l:List Int) (most:Int):rise l most=true↔(∀ x∈l,1<=x/\x<=99)/\l.Pairwise (· < ·)/\(l.length:Int)<=most:=by
 simp only[rise,Bool.and_eq_true,zlc,decide_eq_true_eq]
 constructor
 ·rintro ⟨⟨h1,h2,_⟩,h3⟩;exact ⟨h1,h2,h3⟩
 ·rintro ⟨h1,h2,h3⟩;exact ⟨⟨h1,h2,fun y hy=>by cases hy⟩,h3⟩
theorem zeQ {l:List Int} (h:l.Pairwise (· < ·)):l.Nodup:=h.imp fun {a b} hab=>by omega
theorem zkC {α:Type} (f:α->Int):∀ {l:List α},(l.map f).Nodup->∀ {x:α},x∈l->l.find? (fun y=>decide (f y=f x))=some x
 |[],_,x,h=>by cases h
 |y::r,hn,x,h=>by
  simp only[List.map_cons,List.nodup_cons]at hn
  simp only[List.find?_cons]
  rcases List.mem_cons.1 h with rfl|h
  ·simp
  ·have:f y≠f x:=fun e=>hn.1 (e▸List.mem_map_of_mem h)
   simp only[this,decide_false]
   exact zkC f hn.2 h
theorem zf6 {α:Type} {f:α->Int} {l:List α} {n:Int} {x:α} (h:l.find? (fun y=>decide (f y=n))=some x):x∈l/\f x=n:=by
 refine ⟨List.mem_of_find?_eq_some h, ?_⟩
 have:=List.find?_some h
 simpa using this
theorem zrd {α:Type} {f:α->Int} {l:List α} {n:Int} (h:l.find? (fun y=>decide (f y=n))=none):∀ x∈l,f x≠n:=by
 simpa using h
theorem zdz {α:Type} [Inhabited α] (n:Nat) (x:α) (i:Nat) (h:i<n):nth (List.replicate n x) i=x:=by
 rw[zaK (by simpa using h)];simp
theorem zd4:∀ (l:List Section) (a:List Int) (i:Nat),(∀ s∈l,0<=s.id/\s.id.toNat<a.length)->(∀ s∈l,s.id.toNat≠i)->nth (ziB a l) i=nth a i
 |[],a,i,_,_=>rfl
 |s::r,a,i,h,hi=>by
  rw[ziB,zd4 r _ i (fun t ht=>by have:=h t (by simp[ht]);simpa using this) (fun t ht=>hi t (by simp[ht])),za7 _ _ _ _ (h s (by simp)).2,if_neg (fun e=>hi s (by simp) e.symm)]
theorem zn9:∀ (l:List Section) (a:List Int),(∀ s∈l,0<=s.id/\s.id.toNat<a.length)->(l.map Section.id).Nodup->∀ s∈l,nth (ziB a l) s.id.toNat=s.ends.length
 |[],_,_,_,s,h=>by cases h
 |t::r,a,h,hn,s,hs=>by
  simp only[List.map_cons,List.nodup_cons]at hn
  have h':∀ u∈r,0<=u.id/\u.id.toNat<(a.set t.id.toNat t.ends.length).length:=fun u hu=>by have:=h u (by simp[hu]);simpa using this
  rw[ziB]
  rcases List.mem_cons.1 hs with rfl|hs
  ·rw[zd4 r _ _ h' fun u hu e=>hn.1 ?_,za7 _ _ _ _ (h s (by simp)).2,if_pos rfl]
   have h1:=(h s (by simp)).1
   have h2:=(h u (by simp[hu])).1
   rw[show s.id=u.id by omega]
   exact List.mem_map_of_mem hu
  ·exact zn9 r _ h' hn.2 s hs
def zb1 (p:Pln):Bool:=(!decide (p.version<1)&&(!decide (2147483647<p.version)&&(!decide (p.parent<0)&&(!decide (p.version<=p.parent)&&zcg p.sections))))&&(points p&&(signals p (ends p.sections)&&(rise (p.routes.map Rte.id) 16&&p.routes.all fun r=>zcR p r (ends p.sections))))
theorem zbh {l:List Section} (h:zcg l=true):SecOK l:=fun s hs=>by
 have h1:=(zgX l).1 h
 obtain ⟨h2,h3,h4⟩:=h1.one s hs
 unfold zbD at h4
 refine ⟨h2,h3, ?_⟩
 split at h4<;>simp at h4<;>omega
theorem zk7 {l:List Section} (h:zcg l=true):(l.map Section.id).Pairwise (· < ·):=by
 rw[List.pairwise_map]
 exact ((zgX l).1 h).pw.imp fun {a b} hab=>hab.1
theorem ziA {l:List Section} (h:zcg l=true) {s:Section} (hs:s∈l):nth (ends l) s.id.toNat=s.ends.length:=by
 have h1:=zbh h
 exact zn9 l _ (fun t ht=>by have:=h1 t ht;simp;omega) (zeQ (zk7 h)) s hs
theorem zem {l:List Section} (h:zcg l=true) (n:Int):zb5 (ends l) n=true↔∃ s∈l,s.id=n:=by
 have h1:=zbh h
 simp only[zb5,Bool.and_eq_true,decide_eq_true_eq]
 constructor
 ·rintro ⟨⟨h2,h3⟩,h4⟩
  rcases Classical.em (∃ s∈l,s.id=n) with h5|h5
  ·exact h5
  ·exfalso
   rw[ends,zd4 l _ _ (fun t ht=>by have:=h1 t ht;simp;omega) (fun s hs e=>h5 ⟨s,hs,by have:=h1 s hs;omega⟩),zdz _ _ _ (by omega)]at h4
   omega
 ·rintro ⟨s,hs,rfl⟩
  have h2:=h1 s hs
  have h3:=((zgX l).1 h).one s hs
  rw[ziA h hs]
  refine ⟨⟨by omega,by omega⟩, ?_⟩
  obtain ⟨_,_,h4⟩:=h3
  unfold zbD at h4
  split at h4<;>simp at h4<;>omega
theorem zrh {l:List Section} (h:zcg l=true) (i:Nat):nth (ends l) i<=3:=by
 rcases Classical.em (∃ s∈l,s.id.toNat=i) with ⟨s,hs,rfl⟩|h5
 ·rw[ziA h hs];have:=zbh h s hs;omega
 ·have h1:=zbh h
  rw[ends,zd4 l _ _ (fun t ht=>by have:=h1 t ht;simp;omega) (fun s hs e=>h5 ⟨s,hs,e⟩)]
  rcases Nat.lt_or_ge i 100 with hi|hi
  ·rw[zdz _ _ _ hi];omega
  ·simp[nth,hi]
theorem zhF (sec:List Int):∀ (l:List Sgn) (a:List Bool),zhG sec a l=true->∀ x∈l,zb5 sec x.sec=true/\0<=x.ed/\x.ed<nth sec x.sec.toNat
 |[],_,_,x,h=>by cases h
 |y::r,a,h,x,hx=>by
  simp only[zhG,zdp,Bool.and_eq_true,Bool.not_eq_true',Bool.or_eq_false_iff,Bool.not_eq_false',decide_eq_false_iff_not]at h
  rcases List.mem_cons.1 hx with rfl|hx
  ·exact ⟨h.1.1,by omega,by omega⟩
  ·exact zhF sec r _ h.2 x hx
theorem zkn (sec:List Int):∀ (l:List Int) (m:List Bool),m.length=100->(zpj sec m l=true↔(∀ x∈l,zb5 sec x=true/\nth m x.toNat=false)/\l.Nodup)
 |[],m,_=>by simp[zpj]
 |x::r,m,hm=>by
  simp only[zpj,Bool.and_eq_true,Bool.not_eq_true',Bool.or_eq_false_iff,Bool.not_eq_false',zkn sec r (m.set x.toNat true) (by simpa using hm),List.mem_cons,forall_eq_or_imp,List.nodup_cons]
  constructor
  ·rintro ⟨⟨h1,h2⟩,h3,h4⟩
   have h0:0<=x/\x<=99:=by simp only[zb5,Bool.and_eq_true,decide_eq_true_eq]at h1;omega
   have hne:∀ y∈r,y≠x:=fun y hy e=>by
    have:=(h3 y hy).2
    rw[e,za7 _ _ _ _ (by omega),if_pos rfl]at this
    cases this
   refine ⟨⟨⟨h1,h2⟩,fun y hy=>⟨(h3 y hy).1, ?_⟩⟩,fun hx=>hne x hx rfl,h4⟩
   have h5:=h3 y hy
   have h6:0<=y/\y<=99:=by simp only[zb5,Bool.and_eq_true,decide_eq_true_eq]at h5;omega
   rw[za7 _ _ _ _ (by omega),if_neg (by have:=hne y hy;omega)]at h5
   exact h5.2
  ·rintro ⟨⟨⟨h1,h2⟩,h3⟩,h4,h5⟩
   have h0:0<=x/\x<=99:=by simp only[zb5,Bool.and_eq_true,decide_eq_true_eq]at h1;omega
   refine ⟨⟨h1,h2⟩,fun y hy=>⟨(h3 y hy).1, ?_⟩,h5⟩
   have h6:0<=y/\y<=99:=by have:=(h3 y hy).1;simp only[zb5,Bool.and_eq_true,decide_eq_true_eq]at this;omega
   rw[za7 _ _ _ _ (by omega),if_neg (fun e=>h4 (by rw[show x=y by omega];exact hy))]
   exact (h3 y hy).2
theorem zn1 (pts:List Pnt):∀ (l:List Flk) (pr:Option Int),zo2 pts pr l=true->∀ f∈l,(∃ x∈pts,x.id=f.pnt)/\(f.lie=1\/f.lie=2)
 |[],_,_,f,h=>by cases h
 |y::r,pr,h,f,hf=>by
  simp only[zo2,zlG,Bool.and_eq_true,Bool.not_eq_true',Bool.or_eq_false_iff,Bool.not_eq_false',Bool.and_eq_false_imp,decide_eq_false_iff_not,decide_eq_true_eq]at h
  rcases List.mem_cons.1 hf with rfl|hf
  ·obtain ⟨⟨h1,h2,h3⟩,_⟩:=h
   obtain ⟨x,hx⟩:=Option.isSome_iff_exists.1 h1
   refine ⟨⟨x,(zf6 hx).1,(zf6 hx).2⟩, ?_⟩
   rcases Classical.em (f.lie=1) with h4|h4
   ·exact .inl h4
   ·exact .inr (by have:=h3;simp[h4]at this;exact this)
  ·exact zn1 pts r _ h.2 f hf
def nextS (x:Section×Int) (e:Int):Join×Int:=if x.2=0 then (if e<0\/(x.1.ends.length:Int)<=e then (⟨0,0⟩,2) else (nth x.1.ends e.toNat,0)) else (⟨0,0⟩,x.2)
def za5 (l:List Section) (id e:Int):Join×Int:=nextS (rFind l id) e
def threeL:List Section:=[⟨1,0,[⟨2,0⟩,⟨0,0⟩]⟩,⟨2,5,[⟨1,0⟩,⟨3,0⟩,⟨3,1⟩]⟩,⟨3,0,[⟨2,1⟩,⟨2,2⟩]⟩]
structure Sm (p:Pln):Prop where
 sec:p.sections.length<=1000000
 ends:∀ s∈p.sections,s.ends.length<=9223372036854775807
 pts:p.points.length<=1000000
 sgn:p.signals.length<=1000000
 rte:p.routes.length<=1000000
 rtes:∀ r∈p.routes,r.path.length<=9223372036854775807/\r.over.length<=9223372036854775807/\r.flanks.length<=9223372036854775807
theorem zrr (hH:HasAll P inv) (l:List Section) (hl:l.length<=1000000000) (he:∀ s∈l,s.ends.length<=9223372036854775807):PC P inv 26 [.sl 3 (l.map Section.c)] (·=.n (zh5 l)):=check_eq l▸check_pc hH l hl he
def zds (p:Pln):Int:=if zb1 p=true then 0 else 8
theorem sgn_sec {p:Pln} (hm:zcg p.sections=true) (h:signals p (ends p.sections)=true):∀ x∈p.signals,0<=x.sec/\x.sec<=99:=fun x hx=>by
 simp only[signals,Bool.and_eq_true]at h
 have:=(zhF _ _ _ h.2 x hx).1
 simp only[zb5,Bool.and_eq_true,decide_eq_true_eq]at this
 omega
theorem zll (hH:HasAll P inv) (hI:HasIds P inv) (p:Pln) (hp:Sm p):PC P inv 95 [.agg p.c] (·=.n (zds p)):=by
 have hlr:=hp.rte
 have c0:=zrr hH p.sections (Nat.le_trans hp.sec (by omega)) hp.ends
 cases hm:zcg p.sections with
 |false =>
  rw[show zh5 p.sections=8 by simp[zh5,hm]]at c0
  rw[show zds p=8 by simp[zds,zb1,hm]]
  refine PC.fn hH cd95 fun w0 M Q hM hE hQ hR=>?_;dsimp only[cd95,qm,ql,qf,qi,qb,qc,qv,qN,qF,qt]at hQ |-
  (repeat' first|refine zaa [0,1,2,3,5,31,49,51,52,53,54,61] fun K hK=>?_|(refine hK.go ?_;clear hK K)|with_reducible exact wT|refine wA ?_|(refine wB (fun h=>?_) (fun h=>?_)<;>first|exact wN h|subst (h:(_:Bool)=_)|skip)|(refine wQ ?_;clear hQ hR hE hM)|refine wC c0 ?_|fail)
  all_goals (first|rfl|omega)
 |true =>
  rw[show zh5 p.sections=0 by simp[zh5,hm]]at c0
  have c1:=ends_pc hH p.sections (Nat.le_trans hp.sec (by omega)) (zbh hm)
  have c2:=zqc hH hI p (Nat.le_trans hp.sec (by omega)) (Nat.le_trans hp.pts (by omega)) (zbh hm)
  have c3:=zoo hH hI p (Nat.le_trans hp.sgn (by omega)) (ends p.sections) (zn8 _) (zrh hm)
  have c4:=zoC hH hI p.routes 16 (Nat.le_trans hp.rte (by omega))
  have hlen:=zn8 p.sections
  have ht:((ends p.sections).map AV.n).take 100=(ends p.sections).map AV.n:=List.take_of_length_le (by simp[hlen])
  have hov:ovl (List.replicate 100 (AV.i .i64 0)) 0 ((ends p.sections).map AV.n)=(ends p.sections).map AV.n:=by
   rw[znH _ _ _ (by simp[hlen]),List.take_zero,List.nil_append,List.drop_eq_nil_of_le (by simp[hlen]),List.append_nil]
  cases hv:(points p&&(signals p (ends p.sections)&&rise (p.routes.map Rte.id) 16)) with
  |false =>
   rw[show zds p=8 by
    unfold zds
    rw[if_neg]
    intro h
    simp only[zb1,Bool.and_eq_true]at h
    rw[h.2.1,h.2.2.1,h.2.2.2.1]at hv
    cases hv]
   refine PC.fn hH cd95 fun w0 M Q hM hE hQ hR=>?_;dsimp only[cd95,qm,ql,qf,qi,qb,qc,qv,qN,qF,qt]at hQ |-
   (have hX:=zA @hlen (zA @ht @hov);(repeat' first|refine zaa [0,1,2,3,5,31,49,51,52,53,54,61] fun K hK=>?_|(refine hK.go ?_;clear hK K)|with_reducible exact wT|refine wA ?_|(refine wB (fun h=>?_) (fun h=>?_)<;>first|exact wN h|subst (h:(_:Bool)=_)|skip)|(refine wQ ?_;clear hQ hR hE hM)|refine wC c0 ?_|refine wC c1 ?_|refine wC c2 ?_|refine wC c3 ?_|refine wC c4 ?_|fail);all_goals clear hX)
   all_goals (first|rfl|omega|(simp_all;done))
  |true =>
   simp only[Bool.and_eq_true]at hv
   rw[hv.1]at c2
   rw[hv.2.1]at c3
   rw[hv.2.2]at c4
   have hsg:=sgn_sec hm hv.2.1
   have h0:zds p=if (decide (p.version<1)||(decide (2147483647<p.version)||(decide (p.parent<0)||decide (p.version<=p.parent))))=true then 8 else if (p.routes.all fun r=>zcR p r (ends p.sections))=true then 0 else 8:=by
    simp only[zds,zb1,hm,hv.1,hv.2.1,hv.2.2]
    cases decide (p.version<1)<;>cases decide (2147483647<p.version)<;>cases decide (p.parent<0)<;>cases decide (p.version<=p.parent)<;>simp
   refine PC.fn hH cd95 fun w0 M Q hM hE hQ hR=>?_;dsimp only[cd95,qm,ql,qf,qi,qb,qc,qv,qN,qF,qt]at hQ |-
   (have hX:=zA @hlen (zA @ht @hov);(repeat' first|refine zaa [0,1,2,3,5,31,49,51,52,53,54,61] fun K hK=>?_|(refine hK.go ?_;clear hK K)|with_reducible exact wT|refine wA ?_|(refine wB (fun h=>?_) (fun h=>?_)<;>first|exact wN h|subst (h:(_:Bool)=_)|skip)|(refine wQ ?_;clear hQ hR hE hM)|refine wC c0 ?_|refine wC c1 ?_|refine wC c2 ?_|refine wC c3 ?_|refine wC c4 ?_|fail);all_goals clear hX)
   all_goals try (rw[h0,if_pos (by simp[*])];done)
   refine zam (ι:=Nat) [1,2,3,51,52,53] (fun z=>[(53,.n z)]) (fun _=>[]) (fun z=>z) (p.routes.length) (fun z=>(((p.routes.drop z).all fun r=>zcR p r (ends p.sections))=(p.routes.all fun r=>zcR p r (ends p.sections)))) (0) ?_;rintro k ⟨hk,hg⟩;(try dsimp only at hk hg |-);rcases Nat.lt_or_ge k p.routes.length with hlt|hge
   ·rw[zaf hlt]at hg
    rw[List.all_cons]at hg
    (have hX:=zA @hlen (zA @ht @hov);(repeat' first|refine zaa [0,1,2,3,5,31,49,51,52,53,54,61] fun K hK=>?_|(refine hK.go ?_;clear hK K)|with_reducible exact wT|refine wA ?_|(refine wB (fun h=>?_) (fun h=>?_)<;>first|exact wN h|subst (h:(_:Bool)=_)|skip)|(refine wQ ?_;clear hQ hR hE hM)|(refine zay hM (route_pc hH hI p (nth p.routes k) (Nat.le_trans hp.sgn (by omega)) (Nat.le_trans hp.pts (by omega)) (Nat.le_trans (hp.rtes _ (zab hlt)).2.2 (by omega)) (Nat.le_trans (hp.rtes _ (zab hlt)).1 (by omega)) (Nat.le_trans (hp.rtes _ (zab hlt)).2.1 (by omega)) _ hlen hsg) ?_;try refine wD ?_)|fail);all_goals clear hX)
    ·rw[h0,<-hg];simp[*]
    ·exact nY (k+1) ⟨by (try dsimp only);omega,by (try dsimp only);rw[<-hg];simp[*]⟩
   ·rw[List.drop_eq_nil_of_le hge]at hg
    (repeat' first|refine zaa [0,1,2,3,5,31,49,51,52,53,54,61] fun K hK=>?_|(refine hK.go ?_;clear hK K)|with_reducible exact wT|refine wA ?_|(refine wB (fun h=>?_) (fun h=>?_)<;>first|exact wN h|subst (h:(_:Bool)=_)|skip)|(refine wQ ?_;clear hQ hR hE hM)|fail)
    rw[h0,<-hg,if_neg (by simp[*])];rfl
theorem ziG (hH:HasAll P inv) (l:List Int) (h:l.length<=1000000):PC P inv 108 [.sl 1 (l.map zcG)] (·=.sl 1 (l.map zcG)):=by
 refine PC.fn hH cd108 fun w0 M Q hM hE hQ hR=>?_;dsimp only[cd108,qm,qN,qt]at hQ |-
 (repeat' first|refine zaa [0,2,4] fun K hK=>?_|(refine hK.go ?_;clear hK K)|with_reducible exact wT|refine wA ?_|(refine wB (fun h=>?_) (fun h=>?_)<;>first|exact wN h|subst (h:(_:Bool)=_)|skip)|(refine wQ ?_;clear hQ hR hE hM)|fail)
 ·have h0:l.length=0:=by assumption
  obtain rfl:=List.length_eq_zero_iff.1 h0
  rfl
def rteOf (p:Pln) (n:Int):Rte×Int:=if zb1 p=true then (match p.routes.find? fun x=>decide (x.id=n) with|some r=>(r,0)|none=>(Rte.z,6)) else (Rte.z,8)
end Go.Lev
namespace Go.Eng
section
variable {φ:List (Nat×AV)} {σ:List (Nat×AO)} {K:AV->Prop} {tk:Tok K}
def cpT (x:AV) (K:AV->Prop) (_:Tok K):Prop:=match x with|.s0 _=>K (.i .i64 0)|_=>False
theorem av_cap (x:Opd):avT φ σ (.cap x) K tk=cpT (ev φ x) K .mk:=rfl
theorem cp_0 (sz:Nat):cpT (.s0 sz) K tk=K (.i .i64 0):=rfl
theorem av_look (m k:Opd):avT φ σ (.look m k) K tk=zcT (zl4 σ (ev φ m) (ev φ k)) K:=rfl
def lkR (o:Option AO) (a:Int):Option AV:=match o with|some (.imap kvs)=>some (.i .i64 (zgj kvs a))|_=>none
theorem lk_m (l:Nat) (a:Int):zl4 σ (.mp l) (.i .i64 a)=lkR (zaF σ l) a:=by unfold zl4 lkR;rfl
theorem lkR_m (kvs:List (Int×Int)) (a:Int):lkR (some (.imap kvs)) a=some (.i .i64 (zgj kvs a)):=rfl
theorem s0_01 (sz sz':Nat) (k:IntKind) (h:Int):scT σ (.s0 sz') none (some (.i k h)) none sz K tk=ob (h=0) (K (.s0 sz)):=rfl
theorem s0_00 (sz sz':Nat):scT σ (.s0 sz') none none none sz K tk=K (.s0 sz):=rfl
theorem ze1:∀ (xs ys:List AV),zae (xs++ys)=mx (zae xs) (zae ys)
 |[],ys=>by
  simp only[List.nil_append,zae]
  unfold mx
  split<;>omega
 |x::xs,ys=>by
  simp only[List.cons_append,zae,ze1 xs ys]
  unfold mx
  split<;>split<;>(try split)<;>(try split)<;>omega
attribute [go_sem] ze1 av_cap cp_0 av_look lk_m lkR_m s0_01 s0_00
end
end Go.Eng
namespace Go.Lev
open Go.Eng
set_option maxRecDepth 10000
set_option maxHeartbeats 4000000
variable {P:Program} {inv:Nat->Option Nat}
def zbc (s:Section) (f t:Int):Int×Int:=if zbD s=true then (if zh4 s f t<0 then (0,2) else (zh4 s f t,0)) else (0,8)
def zhz (s:Section) (f t:Int):Int×Int:=if zcO s=true then (if f<0\/2<f\/t<0\/2<t\/zdk s.pt f t=0 then (0,2) else ((zdk s.pt f t).tmod 3,0)) else (0,8)
def outR (s:Section) (f lie:Int):Int×Int:=if zcO s=true then (if f<0\/2<f\/lie<0\/2<lie then (0,2) else if (¬s.pt=0/\lie=0)\/outL s f lie<0 then (0,2) else (outL s f lie,0)) else (0,8)
def routP (s:Section) (f lie:Int):Nat->Nat->Int×Int
 |_,0=>(0,2)
 |k,m+1=>if zh4 s f k=lie then (k,0) else routP s f lie (k+1) m
def rout (s:Section) (f lie:Int):Int×Int:=if zbD s=true then (if lie<0 then (0,2) else routP s f lie 0 s.ends.length) else (0,8)
def two (x:Int×Int):AV:=.tup [.n x.1,.n x.2]
theorem zmc (hH:HasAll P inv) (s:Section) (f t:Int):PC P inv 16 [.agg s.c,.n f,.n t] (·=.tup [.n (zhz s f t).1,.n (zhz s f t).2]) :=
 (zol hH s f t).mono fun r e=>by (rw[e];unfold zjQ zhz;(repeat' split)<;>rfl)
theorem zpE (s:Section):zcO s=zbD s:=by
 unfold zcO zbD zcp
 by_cases h:s.pt=0
 ·simp[h]
 ·simp[h]
theorem zom (s:Section) (f t:Int):zhz s f t=zbc s f t:=by
 unfold zhz zbc
 rw[zpE]
 split
 ·by_cases hf:0<=f/\f<=2
  ·by_cases ht:0<=t/\t<=2
   ·rcases zdV hf with rfl|rfl|rfl<;>rcases zdV ht with rfl|rfl|rfl<;>by_cases hp:s.pt=0<;>simp[zdk,zh4,hp]
   ·rw[if_pos (by omega),if_pos (by unfold zh4;(repeat' split)<;>omega)]
  ·rw[if_pos (by omega),if_pos (by unfold zh4;(repeat' split)<;>omega)]
 ·rfl
theorem zcz (hH:HasAll P inv) (s:Section) (f t:Int):PC P inv 16 [.agg s.c,.n f,.n t] (·=.tup [.n (zbc s f t).1,.n (zbc s f t).2]):=zom s f t▸zmc hH s f t
def zop (n:Int):Sgn->List Sgn->Sgn
 |o,[]=>o
 |o,x::r=>if x.id=n then zop n x r else zop n o r
def sig (p:Pln) (n:Int):Sgn:=zop n Sgn.z p.signals
theorem zk0 (hH:HasAll P inv) (p:Pln) (hp:Sm p) (n:Int):PC P inv 100 [.agg p.c,.n n] (·=.agg (sig p n).c):=by
 have hl:=hp.sgn
 refine PC.fn hH cd100 fun w0 M Q hM hE hQ hR=>?_;dsimp only[cd100,qm,ql,qf,qi,qb,qc,qN,qt]at hQ |-
 (repeat' first|refine zaa [0,1,2,4,6,8,9,10,11,17] fun K hK=>?_|(refine hK.go ?_;clear hK K)|with_reducible exact wT|refine wA ?_|(refine wB (fun h=>?_) (fun h=>?_)<;>first|exact wN h|subst (h:(_:Bool)=_)|skip)|(refine wQ ?_;clear hQ hR hE hM)|fail)
 refine zam (ι:=Nat×Sgn) [1,4,8,9,10] (fun z=>[(10,.n z.1)]) (fun z=>[(1,.cells z.2.c true)]) (fun z=>z.1) (p.signals.length) (fun z=>(zop n z.2 (p.signals.drop z.1)=sig p n)) (0,(⟨0,0,0⟩:Sgn)) ?_;rintro ⟨k,o⟩ ⟨hk,hg⟩;(try dsimp only at hk hg |-);rcases Nat.lt_or_ge k p.signals.length with hlt|hge
 ·rw[zaf hlt]at hg
  rw[zop]at hg
  (repeat' first|refine zaa [0,1,2,4,6,8,9,10,11,17] fun K hK=>?_|(refine hK.go ?_;clear hK K)|with_reducible exact wT|refine wA ?_|(refine wB (fun h=>?_) (fun h=>?_)<;>first|exact wN h|subst (h:(_:Bool)=_)|skip)|(refine wQ ?_;clear hQ hR hE hM)|fail)
  ·rw[if_pos (by assumption)]at hg
   exact nY (k+1,nth p.signals k) ⟨by (try dsimp only);omega,hg⟩
  ·rw[if_neg (by assumption)]at hg
   exact nY (k+1,o) ⟨by (try dsimp only);omega,hg⟩
 ·rw[List.drop_eq_nil_of_le hge,zop]at hg
  subst hg
  (repeat' first|refine zaa [0,1,2,4,6,8,9,10,11,17] fun K hK=>?_|(refine hK.go ?_;clear hK K)|with_reducible exact wT|refine wA ?_|(refine wB (fun h=>?_) (fun h=>?_)<;>first|exact wN h|subst (h:(_:Bool)=_)|skip)|(refine wQ ?_;clear hQ hR hE hM)|fail)
theorem grow_po0 (hH:HasAll P inv) (n:Int) (h:0<n) (h9:n<=1000000000):PO P inv 129 [.s0 1,.n n] (.sm 0 n.toNat 0 0 1) [(0,.cells (List.replicate n.toNat (.n 0)) true)]:=by
 refine PO.fn hH cd129 fun w0 M Q hM hE hQ hR=>?_;dsimp only[cd129,qm,qb,qc,qN,qt]at hQ |-
 (have hX:=zA @Int.sub_zero (zA @Int.sub_self (zA @List.flatten_replicate_singleton.{0} @List.length_replicate.{0}));(repeat' first|refine zaa [0,1,4,6,16,22] fun K hK=>?_|(refine hK.go ?_;clear hK K)|with_reducible exact wT|refine wA ?_|(refine wB (fun h=>?_) (fun h=>?_)<;>first|exact wN h|subst (h:(_:Bool)=_)|skip)|(refine wR ?_;clear hQ hR hE hM)|fail);all_goals clear hX)
 left
 constructor
 ·(refine wD ?_;try with_reducible exact wT)
 ·(refine wD ?_;try with_reducible exact wT)
  simp
  omega
theorem grow_po' (hH:HasAll P inv):PO P inv 129 [.s0 1,.n 0] (.sm 0 0 0 0 1) [(0,.cells [] false)]:=by
 refine PO.fn hH cd129 fun w0 M Q hM hE hQ hR=>?_;dsimp only[cd129,qm,qb,qc,qN,qt]at hQ |-
 (have hX:=zA @Int.sub_zero (zA @Int.sub_self (zA @List.flatten_replicate_singleton.{0} @List.length_replicate.{0}));(repeat' first|refine zaa [0,1,4,6,16,22] fun K hK=>?_|(refine hK.go ?_;clear hK K)|with_reducible exact wT|refine wA ?_|(refine wB (fun h=>?_) (fun h=>?_)<;>first|exact wN h|subst (h:(_:Bool)=_)|skip)|(refine wR ?_;clear hQ hR hE hM)|fail);all_goals clear hX)
 right
 exact ⟨1,rfl,rfl,rfl⟩
theorem grow_po (hH:HasAll P inv) (n:Int) (h:0<n) (h9:n<=1000000000):PO P inv 129 [.s0 1,.n n] (.sm 1 0 0 0 1) [(1,.cells [] true)]:=by
 have:=(grow_po0 hH n h h9).trunc (by rw[show List.replicate n.toNat (AV.n 0)=(List.replicate n.toNat (0:Int)).map AV.n by simp];exact zeT .i64 _) (by simp) (by omega)
 simpa using this
theorem zf0 (l:List Int):(l.map zcG).flatten=l.map AV.n:=zqV l
def lens:List (List Int)->Int
 |[]=>0
 |l::r=>l.length+lens r
theorem zkt:∀ L:List (List Int),0<=lens L
 |[]=>Int.le_refl _
 |l::r=>by have:=zkt r;simp only[lens];omega
theorem zlT (hH:HasAll P inv) (L:List (List Int)) (h0:L.length<=1000000) (hL:lens L<=1000000000):PC P inv 101 [.sl 1 (L.map lst)] (·=.sl 1 (L.flatten.map zcG)):=by
 refine PC.fn hH cd101 fun w0 M Q hM hE hQ hR=>?_;dsimp only[cd101,qm,ql,qi,qb,qc,qN,qt]at hQ |-
 (repeat' first|refine zaa [0,2,3,5,6,8,9,10,11,12,20,25,26,27,28] fun K hK=>?_|(refine hK.go ?_;clear hK K)|with_reducible exact wT|refine wA ?_|(refine wB (fun h=>?_) (fun h=>?_)<;>first|exact wN h|subst (h:(_:Bool)=_)|skip)|(refine wQ ?_;clear hQ hR hE hM)|fail)
 refine zam (ι:=Nat×Int) [0,2,3,9,10,11] (fun z=>[(3,.n z.2),(11,.n z.1)]) (fun _=>[]) (fun z=>z.1) (L.length) (fun z=>(0<=z.2)/\(z.2+lens (L.drop z.1)=lens L)) (0,0) ?_;rintro ⟨k,t⟩ ⟨hk,ht,hg⟩;(try dsimp only at hk ht hg |-);rcases Nat.lt_or_ge k L.length with hlt|hge
 ·rw[zaf hlt]at hg
  rw[lens]at hg
  have h1:=zkt (L.drop (k+1))
  (have hX:=@lst.eq_1;(repeat' first|refine zaa [0,2,3,5,6,8,9,10,11,12,20,25,26,27,28] fun K hK=>?_|(refine hK.go ?_;clear hK K)|with_reducible exact wT|refine wA ?_|(refine wB (fun h=>?_) (fun h=>?_)<;>first|exact wN h|subst (h:(_:Bool)=_)|skip)|(refine wQ ?_;clear hQ hR hE hM)|fail);all_goals clear hX)
  exact nY (k+1,t+(nth L k).length) ⟨by (try dsimp only);omega,by (try dsimp only);omega,by (try dsimp only);omega⟩
 ·rw[List.drop_eq_nil_of_le hge,lens,Int.add_zero]at hg
  subst hg
  rcases Int.lt_or_le 0 (lens L) with hp|hz
  ·(repeat' first|refine zaa [0,2,3,5,6,8,9,10,11,12,20,25,26,27,28] fun K hK=>?_|(refine hK.go ?_;clear hK K)|with_reducible exact wT|refine wA ?_|(refine wB (fun h=>?_) (fun h=>?_)<;>first|exact wN h|subst (h:(_:Bool)=_)|skip)|(refine wQ ?_;clear hQ hR hE hM)|refine wO (grow_po hH (lens L) hp hL) ?_|fail)
   refine zam (ι:=Nat×(List Int)×Bool) [2,6,25,26,27] (fun z=>[(6,.sm 1 z.2.1.length 0 z.2.1.length 1),(27,.n z.1)]) (fun z=>[(1,.cells (z.2.1.map AV.n) z.2.2)]) (fun z=>z.1) (L.length) (fun z=>(z.2.1++(L.drop z.1).flatten=L.flatten)/\((z.2.1.length:Int)+lens (L.drop z.1)=lens L)) (0,[],true) ?_;rintro ⟨k,acc,b⟩ ⟨hk,hg,hx⟩;(try dsimp only at hk hg hx |-);rcases Nat.lt_or_ge k L.length with hlt|hge
   ·rw[zaf hlt,lens]at hx
    rw[zaf hlt,List.flatten_cons,<-List.append_assoc]at hg
    have h1:=zkt (L.drop (k+1))
    (have hX:=zA @lst.eq_1 (zA @zf0 (zA @List.length_map.{0,0} @List.length_append.{0}));(repeat' first|refine zaa [0,2,3,5,6,8,9,10,11,12,20,25,26,27,28] fun K hK=>?_|(refine hK.go ?_;clear hK K)|with_reducible exact wT|refine wA ?_|(refine wB (fun h=>?_) (fun h=>?_)<;>first|exact wN h|subst (h:(_:Bool)=_)|skip)|(refine wQ ?_;clear hQ hR hE hM)|fail);all_goals clear hX)
    exact nY (k+1,acc++nth L k,(b||decide (0<(nth L k).length))) ⟨by (try dsimp only);omega,hg,by (try dsimp only);simp;omega⟩
   ·rw[List.drop_eq_nil_of_le hge,List.flatten_nil,List.append_nil]at hg
    subst hg
    (have hX:=@List.length_map.{0,0};(repeat' first|refine zaa [0,2,3,5,6,8,9,10,11,12,20,25,26,27,28] fun K hK=>?_|(refine hK.go ?_;clear hK K)|with_reducible exact wT|refine wA ?_|(refine wB (fun h=>?_) (fun h=>?_)<;>first|exact wN h|subst (h:(_:Bool)=_)|skip)|(refine wQ ?_;clear hQ hR hE hM)|fail);all_goals clear hX)
    rw[show L.flatten.map (AV.i .i64)=(L.flatten.map zcG).flatten from (zf0 _).symm,zcI]
  ·have hz0:lens L=0:=by omega
   rw[hz0]
   (repeat' first|refine zaa [0,2,3,5,6,8,9,10,11,12,20,25,26,27,28] fun K hK=>?_|(refine hK.go ?_;clear hK K)|with_reducible exact wT|refine wA ?_|(refine wB (fun h=>?_) (fun h=>?_)<;>first|exact wN h|subst (h:(_:Bool)=_)|skip)|(refine wQ ?_;clear hQ hR hE hM)|refine wO (grow_po' hH) ?_|fail)
   refine AWp.swap [(0,1)] ⟨⟨by omega,by omega⟩,trivial⟩ ?_
   (refine wD ?_;try with_reducible exact wT)
   refine zam (ι:=Nat×(List Int)×Bool) [2,6,25,26,27] (fun z=>[(6,.sm 1 z.2.1.length 0 z.2.1.length 1),(27,.n z.1)]) (fun z=>[(1,.cells (z.2.1.map AV.n) z.2.2)]) (fun z=>z.1) (L.length) (fun z=>(z.2.1++(L.drop z.1).flatten=L.flatten)/\((z.2.1.length:Int)+lens (L.drop z.1)=lens L)) (0,[],false) ?_;rintro ⟨k,acc,b⟩ ⟨hk,hg,hx⟩;(try dsimp only at hk hg hx |-);rcases Nat.lt_or_ge k L.length with hlt|hge
   ·rw[zaf hlt,lens]at hx
    rw[zaf hlt,List.flatten_cons,<-List.append_assoc]at hg
    have h1:=zkt (L.drop (k+1))
    (have hX:=zA @lst.eq_1 (zA @zf0 (zA @List.length_map.{0,0} @List.length_append.{0}));(repeat' first|refine zaa [0,2,3,5,6,8,9,10,11,12,20,25,26,27,28] fun K hK=>?_|(refine hK.go ?_;clear hK K)|with_reducible exact wT|refine wA ?_|(refine wB (fun h=>?_) (fun h=>?_)<;>first|exact wN h|subst (h:(_:Bool)=_)|skip)|(refine wQ ?_;clear hQ hR hE hM)|fail);all_goals clear hX)
    exact nY (k+1,acc++nth L k,(b||decide (0<(nth L k).length))) ⟨by (try dsimp only);omega,hg,by (try dsimp only);simp;omega⟩
   ·rw[List.drop_eq_nil_of_le hge,List.flatten_nil,List.append_nil]at hg
    subst hg
    (have hX:=@List.length_map.{0,0};(repeat' first|refine zaa [0,2,3,5,6,8,9,10,11,12,20,25,26,27,28] fun K hK=>?_|(refine hK.go ?_;clear hK K)|with_reducible exact wT|refine wA ?_|(refine wB (fun h=>?_) (fun h=>?_)<;>first|exact wN h|subst (h:(_:Bool)=_)|skip)|(refine wQ ?_;clear hQ hR hE hM)|fail);all_goals clear hX)
    rw[show L.flatten.map (AV.i .i64)=(L.flatten.map zcG).flatten from (zf0 _).symm,zcI]
variable {w0:World} {M:Nat->Prop}
structure Wk where
 inn:Join
 asks:List AskR
 outs:List Join
 lost:Bool
def Wk.c (p:Pln) (w:Wk):List AV:=[.n p.version,.n p.parent,.sl 3 (p.sections.map Section.c),.sl 2 (p.points.map Pnt.c),.sl 3 (p.signals.map Sgn.c),.sl 7 (p.routes.map Rte.c),.n w.inn.to,.n w.inn.ed,.sm 20 (w.asks.length*3) 0 w.asks.length 3,.sm 21 (w.outs.length*2) 0 w.outs.length 2,.b w.lost]
attribute [go_sem] Wk.c
def zhb (p:Pln) (w:Wk) (id:Int):Option Section:=if w.inn.to=id then p.sections.find? fun s=>decide (s.id=id) else none
def zi9 (pt lie pos:Int) (l:List AskR):List AskR:=if 0<pt/\0<lie then l++[⟨pt,lie,pos⟩] else l
def zaV (s:Section) (frm:Int) (right:Int->Join->Bool):Nat->List Join->Option (Nat×Join×Int)
 |_,[]=>none
 |e,j::r=>if (zbc s frm e).2=0/\right e j=true then some (e,j,(zbc s frm e).1) else zaV s frm right (e+1) r
def zaD (p:Pln) (w:Wk) (id pos:Int) (right:Int->Join->Bool):Wk :=
 if w.lost=true then w else match zhb p w id with
 |none=>{ w with lost:=true }
 |some s=>match zaV s w.inn.ed right 0 s.ends with
  |none=>{ w with lost:=true }
  |some (e,j,lie)=>⟨j,zi9 s.pt lie pos w.asks,w.outs++[⟨id,e⟩],false⟩
def zec (p:Pln) (w:Wk) (id pos:Int):Wk :=
 match zhb p w id with
 |none=>{ w with lost:=true }
 |some s=>if w.lost=false/\0<w.inn.ed then { w with asks:=zi9 s.pt w.inn.ed pos w.asks } else w
theorem zhs (hH:HasAll P inv) (n:Int) (x:Section):PC P inv 140 ([.agg x.c]++[.ip 1 [[.n n]] 0 0]) (·=.b (decide (x.id=n))):=by
 refine PC.fn hH cd140 fun w0 M Q hM hE hQ hR=>?_;dsimp only[cd140,qm,ql,qf,qb,qN,qt]at hQ |-
 (repeat' first|refine zaa [0,1,2,3] fun K hK=>?_|(refine hK.go ?_;clear hK K)|with_reducible exact wT|refine wA ?_|(refine wB (fun h=>?_) (fun h=>?_)<;>first|exact wN h|subst (h:(_:Bool)=_)|skip)|(refine wQ ?_;clear hQ hR hE hM)|fail)
theorem zp4 (hH:HasAll P inv) (e:Int) (j:Join):PC P inv 103 [.n e,.agg j.c] (·=.b (decide (j=⟨0,0⟩))):=by
 refine PC.fn hH cd103 fun w0 M Q hM hE hQ hR=>?_;dsimp only[cd103,qm,qN,qt]at hQ |-
 (repeat' first|refine zaa [1,3,4] fun K hK=>?_|(refine hK.go ?_;clear hK K)|with_reducible exact wT|refine wA ?_|(refine wB (fun h=>?_) (fun h=>?_)<;>first|exact wN h|subst (h:(_:Bool)=_)|skip)|(refine wQ ?_;clear hQ hR hE hM)|fail)
 simp[zqJ]
theorem zp3 (hH:HasAll P inv) (e:Int) (j:Join) (s:Int) (x:Sgn):PC P inv 104 ([.n e,.agg j.c]++[.ip 1 [[.n s]] 0 0,.ip 3 [x.c] 0 0]) (·=.b (decide (s=x.sec)&&decide (e=x.ed))):=by
 refine PC.fn hH cd104 fun w0 M Q hM hE hQ hR=>?_;dsimp only[cd104,qm,ql,qf,qb,qp,qN,qT,qt]at hQ |-
 (repeat' first|refine zaa [0,1,2,3,6] fun K hK=>?_|(refine hK.go ?_;clear hK K)|with_reducible exact wT|refine wA ?_|(refine wB (fun h=>?_) (fun h=>?_)<;>first|exact wN h|subst (h:(_:Bool)=_)|skip)|(refine wQ ?_;clear hQ hR hE hM)|fail)
 all_goals simp[*]
theorem zp2 (hH:HasAll P inv) (e:Int) (j:Join) (all:List Int) (i:Nat) (hi:i+1<all.length) (ha:all.length<=1000000000):PC P inv 106 ([.n e,.agg j.c]++[.ip 1 [[.sl 1 (all.map zcG)]] 0 0,.ip 1 [[.n i]] 0 0]) (·=.b (decide (j.to=nth all (i+1)))):=by
 refine PC.fn hH cd106 fun w0 M Q hM hE hQ hR=>?_;dsimp only[cd106,qm,ql,qf,qi,qb,qc,qN,qt]at hQ |-
 (repeat' first|refine zaa [1,2,3,5,6] fun K hK=>?_|(refine hK.go ?_;clear hK K)|with_reducible exact wT|refine wA ?_|(refine wB (fun h=>?_) (fun h=>?_)<;>first|exact wN h|subst (h:(_:Bool)=_)|skip)|(refine wQ ?_;clear hQ hR hE hM)|fail)
 rw[show ((i:Int)+1).toNat=i+1 by omega]
def stW (p:Pln) (r:Rte) (x y:Sgn) (w:Wk) (all:List Int) (i s:Int) (ba bo:Bool):List (Nat×AO):=[(1,.cells r.c true),(2,.cells [.s0 1,.s0 1,.s0 3,.n 0] true),(3,.cells x.c true),(4,.cells y.c true),(5,.cells (w.c p) true),(6,.cells [.sl 1 (all.map zcG)] true),(20,.cells (w.asks.map AskR.c).flatten ba),(21,.cells (w.outs.map Join.c).flatten bo),(22,.cells [.n i] true),(23,.cells [.n s] true)]
theorem stay_ac (hH:HasAll P inv) (hM:∀ b,M b->b<w0.heap.size) (p:Pln) (hp:Sm p) (r:Rte) (x y:Sgn) (w:Wk) (all:List Int) (i s:Int) (ba bo:Bool) (hw:w.asks.length<=1000000) :
  AC P inv w0 M 30 105 [.ptr 5 11 0,.n s,.n i] (stW p r x y w all i s ba bo) fun r0 σ'=>r0=.tup []/\σ'=stW p r x y (zec p w s i) all i s (ba||decide (w.asks.length<(zec p w s i).asks.length)) bo:=by
 have hs:=zb7 (fun t:Section=>decide (t.id=s)) p.sections 0
 have c0:=zim hH p.sections (fun t _=>zhs hH s t) (Nat.le_trans hp.sec (by omega))
 have hl:=hp.sec
 obtain ⟨inn,asks,outs,lost⟩:=w
 dsimp only at hw
 generalize hW:zec p ⟨inn,asks,outs,lost⟩ s i=W
 unfold zec zhb zi9 at hW
 dsimp only at hW
 rcases hs with ⟨h1,h2⟩|⟨k,hk,h1,h2⟩
 ·rw[h1]at c0
  rw[h2,ite_self]at hW
  subst hW
  refine za4 (F:=cd105) (hH.has _ _ rfl) rfl (Nat.le_of_ble_eq_true rfl) fun Q hQ hR=>?_;have hE:=hH.callable;dsimp only[cd105,qm,ql,qf,qc,qp,qN,qT,qt]at hQ |-
  skip
  unfold stW
  (refine wD ?_;try with_reducible exact wT)
  (repeat' first|refine zaa [0,1,2,3,4,5,6,13,22,23] fun K hK=>?_|(refine hK.go ?_;clear hK K)|with_reducible exact wT|refine wA ?_|(refine wB (fun h=>?_) (fun h=>?_)<;>first|exact wN h|subst (h:(_:Bool)=_)|skip)|(refine wQ ?_;clear hQ hR)|(refine AC.callK 30 (by omega) (by first|omega|exact wF|((refine wD ?_;try with_reducible exact wT);omega)) (zao (F:=cd130) (hH.has _ _ rfl) (Nat.le_of_ble_eq_true rfl) fun Q hQ hR=>?_);dsimp only[cd130,qm,ql,qf,qi,qb,qc,qv,qN,qF,qt]at hQ |-;try refine wD ?_)|(refine AC.callK 40 (by omega) (by first|omega|exact wF|((refine wD ?_;try with_reducible exact wT);omega)) (zao (F:=cd107) (hH.has _ _ rfl) (Nat.le_of_ble_eq_true rfl) fun Q hQ hR=>?_);dsimp only[cd107,qm,ql,qf,qc,qp,qN,qT,qt]at hQ |-;try refine wD ?_)|refine wS c0 ?_|fail)
  all_goals (refine ⟨[],trivial, ?_⟩;simp only[swS,stW,Wk.c];(refine wD ?_;try with_reducible exact wT);(try simp))
 ·rw[h1,Int.zero_add]at c0
  rw[h2]at hW
  refine za4 (F:=cd105) (hH.has _ _ rfl) rfl (Nat.le_of_ble_eq_true rfl) fun Q hQ hR=>?_;have hE:=hH.callable;dsimp only[cd105,qm,ql,qf,qc,qp,qN,qT,qt]at hQ |-
  skip
  unfold stW
  (refine wD ?_;try with_reducible exact wT)
  (repeat' first|refine zaa [0,1,2,3,4,5,6,13,22,23] fun K hK=>?_|(refine hK.go ?_;clear hK K)|with_reducible exact wT|refine wA ?_|(refine wB (fun h=>?_) (fun h=>?_)<;>first|exact wN h|subst (h:(_:Bool)=_)|skip)|(refine wQ ?_;clear hQ hR)|(refine AC.callK 30 (by omega) (by first|omega|exact wF|((refine wD ?_;try with_reducible exact wT);omega)) (zao (F:=cd130) (hH.has _ _ rfl) (Nat.le_of_ble_eq_true rfl) fun Q hQ hR=>?_);dsimp only[cd130,qm,ql,qf,qi,qb,qc,qv,qN,qF,qt]at hQ |-;try refine wD ?_)|(refine AC.callK 40 (by omega) (by first|omega|exact wF|((refine wD ?_;try with_reducible exact wT);omega)) (zao (F:=cd107) (hH.has _ _ rfl) (Nat.le_of_ble_eq_true rfl) fun Q hQ hR=>?_);dsimp only[cd107,qm,ql,qf,qc,qp,qN,qT,qt]at hQ |-;try refine wD ?_)|refine wS c0 ?_|fail)
  all_goals (simp only[*,true_and,and_true,and_self,if_true,if_false,false_and,and_false,reduceCtorEq,Bool.true_eq_false,Bool.false_eq_true]at hW)
  all_goals (try subst hW)
  all_goals (refine ⟨[],trivial, ?_⟩;simp only[swS,stW,Wk.c];(refine wD ?_;try with_reducible exact wT))
  all_goals simp[AskR.c]
end Go.Lev
