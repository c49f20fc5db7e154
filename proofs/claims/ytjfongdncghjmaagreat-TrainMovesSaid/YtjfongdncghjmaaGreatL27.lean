/-
  Contracts of functions. Conditions: those that each theorem names.
-/
import Derived.Test.YtjfongdncghjmaaGreatL22
import Derived.Test.YtjfongdncghjmaaGreatL23
set_option linter.unusedSimpArgs false
set_option linter.unusedVariables false
set_option linter.unusedSectionVars false
namespace Go.Lev
open Go.Eng
def zjP (r:MvR):AV:=zbJ r.1 r.2.1 r.2.2
theorem putF_eq (p:Pln) (s:State) (l:List TrainD) (m:MoveD):putF p s l m=zjP (zpK p s l m):=by
 unfold putF putG zpK zjP;by_cases h8:8<=l.length
 ·rw[if_pos h8,decide_eq_true (by omega)];rfl
 rw[if_neg h8,decide_eq_false (by omega)]
 by_cases h1:m.tr<1
 ·rw[if_pos (Or.inl h1),decide_eq_true h1];rfl
 by_cases h2:99<m.tr
 ·rw[if_pos (Or.inr (Or.inl h2)),decide_eq_false h1,decide_eq_true h2];rfl
 by_cases h3:zcB l m.tr<0
 ·rw[if_neg (by omega),decide_eq_false h1,decide_eq_false h2,decide_eq_true h3]
  by_cases h4:(zaz p.sections m.sec).2=0
  ·rw[if_pos h4,decide_eq_true h4]
   generalize (zaz p.sections m.sec).1=S;by_cases h5:0<S.pt
   ·rw[if_pos (Or.inl h5),decide_eq_true h5];rfl
   by_cases h6:m.ed<0
   ·rw[if_pos (Or.inr (Or.inl h6)),decide_eq_false h5,decide_eq_true h6];rfl
   by_cases h7:1<m.ed
   ·rw[if_pos (Or.inr (Or.inr h7)),decide_eq_false h5,decide_eq_false h6,decide_eq_true h7];rfl
   rw[if_neg (by omega),decide_eq_false h5,decide_eq_false h6,decide_eq_false h7]
   by_cases a1:nth (zbz p s).1 S.id.toNat=0
   ·by_cases a2:zp4 l S.id=true
    ·rw[if_pos (Or.inr (Or.inl a2)),decide_eq_true a1,a2];rfl
    ·by_cases a3:zd2 s S.id=0
     ·rw[if_neg (fun h=>h.elim (fun h=>h a1) fun h=>h.elim (fun h=>a2 h) (fun h=>h a3)),decide_eq_true a1,eq_false_of_ne_true a2,decide_eq_true a3];rfl
     ·rw[if_pos (Or.inr (Or.inr a3)),decide_eq_true a1,eq_false_of_ne_true a2,decide_eq_false a3];rfl
   ·rw[if_pos (Or.inl a1),decide_eq_false a1];rfl
  ·rw[if_neg h4,decide_eq_false h4];rfl
 ·rw[if_pos (Or.inr (Or.inr (by omega))),decide_eq_false h1,decide_eq_false h2,decide_eq_false h3];rfl
theorem zok (p:Pln) (s:State) (l:List TrainD) (k:Nat) (t:TrainD):headF p s l k t=zjP (zhq p s l k t):=by
 unfold headF zhq zjP;by_cases h4:4<=t.secs.length
 ·rw[if_pos h4,decide_eq_true (by omega)];rfl
 rw[if_neg h4,decide_eq_false (by omega)]
 cases h1:(goT p s t).2.2 with
 |false=>rw[if_pos (Or.inl rfl)];rfl
 |true =>
  by_cases h2:(nxJ p t).2=0
  ·by_cases h3:(nxJ p t).1.to=0
   ·rw[if_pos (Or.inr (Or.inr h3)),decide_eq_true h2,decide_eq_true h3];rfl
   ·rw[if_neg (fun h=>h.elim (fun h=>absurd h (by decide)) fun h=>h.elim (fun h=>h h2) (fun h=>h3 h)),decide_eq_true h2,decide_eq_false h3]
    by_cases h5:(nxS p t).2=0
    ·rw[if_pos h5,decide_eq_true h5]
     by_cases h6:(nxE p s t).2=0
     ·rw[if_pos h6,decide_eq_true h6];rfl
     ·rw[if_neg h6,decide_eq_false h6];rfl
    ·rw[if_neg h5,decide_eq_false h5];rfl
  ·rw[if_pos (Or.inr (Or.inl h2)),decide_eq_false h2];rfl
set_option maxRecDepth 10000
set_option maxHeartbeats 8000000
variable {P:Program} {inv:Nat->Option Nat} {w0:World} {M:Nat->Prop}
theorem find4_ac {N:Nat} {l:List TrainD} {v:Int} {mc:List AV} (hM:∀ b,M b->b<w0.heap.size) (c2:PC P inv 271 [.sl 8 (l.map TrainD.c),.fn 264 [.ip 4 [mc] 0 0]] (·=.n v)) {σ:AS} {T q b:Nat} (h0:0<l.length) (h4:mc.length=4) (hsn:∀ f,zaT f mc=mc)
  (hr:∀ i,i<l.length->zah σ (b+i)=some (.cells ((nth l i).secs.map zaJ).flatten true))
  (hT:zah σ T=some (.cells (zbC b l.length l).flatten true)) (hq:zah σ q=some (.cells mc true)) :
  AC P inv w0 M N 271 [.sm T (l.length*8) 0 l.length 8,.fn 264 [.ptr q 4 0]] σ fun r' σ'=>r'=.n v/\σ'=σ:=by
 refine zdu hM c2 ?_ rfl;have h1:za5 4 σ T=some (l.map TrainD.c).flatten:=by
  simp only[za5,hT];exact congrArg some (zgb (k:=2) hr)
 have h2:za5 4 σ q=some mc:=by simp only[za5,hq,hsn]
 have h3:zbd 8 l.length (l.map TrainD.c).flatten=l.map TrainD.c:=zbi (c:=TrainD.c) l;have h5:(l.map TrainD.c).flatten.length=l.length*8:=zbo (c:=TrainD.c) l;simp only[zbF,zaT,zaR,h1,h2];rw[if_pos ⟨h5,by omega⟩,List.drop_zero,h3,if_pos ⟨h4,by omega⟩]
theorem is4_ac {N:Nat} {t:TrainD} {v:Bool} {mc:List AV} {m:Nat} (hM:∀ b,M b->b<w0.heap.size) (c5:PC P inv 264 ([.agg t.c]++[.ip 4 [mc] 0 0]) (·=.b v)) {σ:AS} {q:Nat} (h0:0<t.secs.length) (h4:mc.length=4) (hsn:∀ f,zaT f mc=mc)
  (hr:zah σ m=some (.cells (t.secs.map zaJ).flatten true)) (hq:zah σ q=some (.cells mc true)) :
  AC P inv w0 M N 264 [.agg (tX t (sX m t)),.ptr q 4 0] σ fun r' σ'=>r'=.b v/\σ'=σ:=by
 refine zdu hM c5 ?_ rfl;have h2:za5 4 σ q=some mc:=by simp only[za5,hq,hsn]
 have hF:za5 4 σ m=some (t.secs.map zaJ).flatten:=by
  simp only[za5,hr];rw[zd4 (c:=zaJ)]
 have hlen:(t.secs.map zaJ).flatten.length=t.secs.length:=by rw[zbo (c:=zaJ),Nat.mul_one]
 have hch:zbd 1 t.secs.length (t.secs.map zaJ).flatten=t.secs.map zaJ:=zbi (c:=zaJ) t.secs;unfold tX sX TrainD.c;simp only[zbF,zaT,zaR,h2,hF,List.cons_append,List.nil_append];rw[if_pos ⟨hlen,by omega⟩,List.drop_zero,hch,if_pos ⟨h4,by omega⟩]
theorem zh8 {n b N:Nat} {X:List TrainD} (hb:b+X.length<=N):∀ c∈zbC b n X,zab c<=N:=fun c hc=>by
 obtain ⟨i,hi,rfl⟩:=List.getElem_of_mem hc;have hi2:i<X.length:=by rw[zaF]at hi;exact hi
 rw[zbn hi2,zmw];split
 ·unfold sX;simp only[AV.bound];omega
 ·simp[AV.bound]
theorem znl {N:Nat}:∀ {CL:List (List AV)},(∀ c∈CL,zab c<=N)->zab CL.flatten<=N
 |[],_=>Nat.zero_le _
 |c::r,h=>by
  rw[List.flatten_cons,zd8];have h1:=h c (by simp)
  have h2:=znl (CL:=r) fun x hx=>h x (by simp[hx])
  unfold mx;split<;>assumption
section
variable {α:Type}
def zhv (l:List α) (k j:Nat):List α:=(l.eraseIdx k).take (j-1)++l.drop (j-1)
theorem zkX {l:List α} {k j:Nat} (hk:k<l.length) (h1:k<j) (h2:j<=l.length):(zhv l k j).length=l.length:=by
 unfold zhv;rw[List.length_append,List.length_take,List.length_eraseIdx_of_lt hk,List.length_drop];omega
theorem zpy {l:List α} {k:Nat} (hk:k<l.length):zhv l k (k+1)=l:=by
 unfold zhv;rw[Nat.add_sub_cancel,List.eraseIdx_eq_take_drop_succ,List.take_append_of_le_length (by rw[List.length_take];omega),List.take_take,Nat.min_self,List.take_append_drop]
theorem delG_at {l:List α} {k j:Nat} (hk:k<l.length) (h1:k<j) (h2:j<l.length):(zhv l k j)[j]'(by rw[zkX hk h1 (by omega)];exact h2)=l[j]:=by
 have hl:((l.eraseIdx k).take (j-1)).length=j-1:=by rw[List.length_take,List.length_eraseIdx_of_lt hk];omega
 unfold zhv;rw[List.getElem_append_right (by omega)]
 simp only[List.getElem_drop,hl]
 congr 1
 omega
theorem zr6 {l:List α} {k j:Nat} (hk:k<l.length) (h1:k<j) (h2:j<l.length):(zhv l k j).set (j-1) l[j]=zhv l k (j+1):=by
 have hl:((l.eraseIdx k).take (j-1)).length=j-1:=by rw[List.length_take,List.length_eraseIdx_of_lt hk];omega
 unfold zhv;rw[List.set_append_right _ _ (by omega),hl,Nat.sub_self,Nat.add_sub_cancel]
 rw[show l.drop (j-1)=l[j-1]::l.drop j by rw[List.drop_eq_getElem_cons (by omega)];congr 2;omega]
 rw[List.set_cons_zero];have e:(l.eraseIdx k).take j=(l.eraseIdx k).take (j-1)++[l[j]]:=by
  conv=>lhs;rw[show j=j-1+1 by omega]
  rw[List.take_add_one,List.getElem?_eraseIdx,if_neg (by omega),show j-1+1=j by omega,List.getElem?_eq_getElem h2]
  rfl
 rw[e,List.append_assoc];rfl
theorem delG_end {l:List α} {k:Nat} (hk:k<l.length) (z:α):(zhv l k l.length).set (l.length-1) z=l.eraseIdx k++[z]:=by
 unfold zhv;have h1:=List.length_eraseIdx_of_lt hk;rw[List.take_of_length_le (by rw[h1];omega),List.set_append_right _ _ (by omega),h1,Nat.sub_self,List.drop_eq_getElem_cons (by omega),List.set_cons_zero,List.drop_of_length_le (by omega)]
theorem zhG {l:List α} {k j:Nat} {x:α} (h:x∈zhv l k j):x∈l:=by
 unfold zhv at h;rcases List.mem_append.1 h with h|h
 ·exact List.mem_of_mem_eraseIdx (List.mem_of_mem_take h)
 ·exact List.mem_of_mem_drop h
end
theorem znK:∀ (τ r σ:List (Nat×AO)),zdG (tl τ r) σ=(zdG τ σ/\zdG r σ)
 |[],r,σ=>by simp only[tl,List.nil_append,zdG,true_and]
 |(j,o)::τ,r,σ=>by
  have:=znK τ r σ;simp only[tl]at this;simp only[tl,List.cons_append,zdG,this,and_assoc]
theorem zlf {lo:Nat} {j:Nat} {o:AO} {σ:List (Nat×AO)} (hj:j<lo):∀ (τ:List (Nat×AO)),(∀ p∈τ,lo<=p.1)->zdG τ ((j,o)::σ)=zdG τ σ
 |[],_=>by simp only[zdG]
 |(i,x)::τ,h=>by
  have h1:=h (i,x) (by simp)
  simp only at h1;simp only[zdG,zlf hj τ fun p hp=>h p (by simp[hp])]
  rw[zah,if_neg (by omega)]
theorem rowU (l:List TrainD) (h8:l.length<=8):(∀ r σ,zdG (tl (zbv 112 l l.length) r) σ=(zdG (zbv 112 l l.length) σ/\zdG r σ))/\(∀ j o σ,j<112->zdG (zbv 112 l l.length) ((j,o)::σ)=zdG (zbv 112 l l.length) σ)/\(∀ r,zdG (zbv 112 l l.length) (tl (zbv 112 l l.length) r)=True) :=
 ⟨fun r σ=>znK _ r σ,fun j o σ hj=>zlf hj _ fun p hp=>((rowM l h8).keys p hp).1,fun r=>eq_true (zfE fun p hp=>by
  obtain ⟨i,hi,rfl⟩:=zeA hp;exact zbK (zaX hi) _)⟩
theorem xr0_del {l:List TrainD} {k:Nat} {A:List (Int×Int)} {σ:AS} {r:AV} (hk:k<l.length) (h8:l.length<=8) (hr:r=.tup [.agg [.sm 104 (l.length*8) 0 (l.length-1) 8],zpO A,.n 0])
  (hg:zah σ 104=some (.cells ((zbC 112 l.length l).eraseIdx k++[zjT]).flatten true)) (hs:∀ i,i<l.length->zah σ (112+i)=some (.cells ((nth l i).secs.map zaJ).flatten true)):XR0 (l.eraseIdx k) A r σ:=by
 have hrl:=zaF (b:=112) (l:=l) l.length;have h1:((zbC 112 l.length l).eraseIdx k).length=l.length-1:=by rw[List.length_eraseIdx_of_lt (by rw[hrl];exact hk),hrl]
 have h2:=List.length_eraseIdx_of_lt hk;have hl:((zbC 112 l.length l).eraseIdx k++[zjT]).length=l.length:=by rw[List.length_append,h1,List.length_singleton];omega
 refine ⟨_,by rw[hl,h2];exact hr,hg,by rw[hl,h2];omega,fun c hc=>?_,fun c hc=>?_,fun i hi=>?_⟩
 ·rcases List.mem_append.1 hc with hc|hc
  ·exact zbL _ c (List.mem_of_mem_eraseIdx hc)
  ·rw[List.mem_singleton.1 hc];rfl
 ·rcases List.mem_append.1 hc with hc|hc
  ·exact zlq (by omega) c (List.mem_of_mem_eraseIdx hc)
  ·rw[List.mem_singleton.1 hc];exact Nat.zero_le _
 ·have key:∀ q,q<l.length->nth (l.eraseIdx k) i=nth l q->((zbC 112 l.length l).eraseIdx k)[i]?=(zbC 112 l.length l)[q]?->∃ (m:Nat) (R:List Int),((zbC 112 l.length l).eraseIdx k++[zjT])[i]?=some (tX (nth (l.eraseIdx k) i) (.sm m R.length 0 (nth (l.eraseIdx k) i).secs.length 1))/\zah σ m=some (.cells (R.map zaJ).flatten true)/\(105<=m/\m<2000)/\(nth (l.eraseIdx k) i).secs=R.take (nth (l.eraseIdx k) i).secs.length/\(nth (l.eraseIdx k) i).secs.length<=R.length:=fun q hq e1 e2=>by
   rw[e1,List.getElem?_append_left (by rw[h1,<-h2];exact hi),e2,List.getElem?_eq_getElem (by rw[hrl];exact hq),zbn hq,if_pos hq]
   exact ⟨112+q,(nth l q).secs,rfl,hs q hq,by omega,(List.take_length ..).symm,Nat.le_refl _⟩
  have hi2:=hi;rw[h2]at hi2;by_cases h:i<k
  ·exact key i (by omega) (by rw[zay hi,zay (by omega),List.getElem_eraseIdx,dif_pos h]) (by rw[List.getElem?_eraseIdx,if_pos h])
  ·exact key (i+1) (by omega) (by rw[zay hi,zay (by omega),List.getElem_eraseIdx,dif_neg h]) (by rw[List.getElem?_eraseIdx,if_neg h])
theorem goneA (hH:HasAll P inv) (hI:HasIds P inv) (p:Pln) (hp:Sm p) (s:State) (hs:SmS s) (l:List TrainD) (hl:l.length<=1000) (hls:∀ t∈l,t.secs.length<=1000) (hc:ckC p s l=0) (tr se ed:Int) {k:Nat} (hk7:k<l.length) (ha:zcB l tr=(k:Int)) (h1:zlR p (nth l k)=0) (hid:(nth l k).id=tr) (hM:∀ b,M b->b<w0.heap.size) :
  AC P inv w0 M 0 210 [.agg p.c,.agg s.c,.agg (wld l),.agg [.i .u8 5,.n tr,.n se,.n ed]] [] (XR0 (l.eraseIdx k) [(nth (nth l k).secs 0,0)]):=by
 have c0:=zbj hH hI p hp s hs l hl hls;have hT:=((zbH p s l).1 hc).2;have h8:=hT.len;have h0:0<l.length:=by omega
 have c1:=zfX hH l h0 (by omega) (fun t ht=>⟨(zcE.1 (hT.may t ht)).one,hls t ht⟩)
 have c2:=zb0 hH l hl tr;have hk8:=(zcE.1 (hT.may _ (zac hk7))).one;have hso:∀ j,j<l.length->0<(nth l j).secs.length:=fun j hj=>(zcE.1 (hT.may _ (zac hj))).one
 have ho:=zar ((zbH p s l).1 hc).1;have hen:∀ x∈p.sections,x.ends.length<=3:=fun x hx=>(zaP ho.sec x hx).2.2.2.2
 have hup:=hT.up;have c3:=ziw hH p.sections (nth (nth l k).secs 0) (nth l k).ed (Nat.le_trans hp.sec (by omega)) (fun x hx=>Nat.le_trans (hen x hx) (by omega))
 have c4:=del31_pc hH l hl ⟨5,tr,se,ed⟩;rw[show zcB l (⟨5,tr,se,ed⟩:MoveD).tr=(k:Int) from ha]at c4
 have c5:∀ j,j<l.length->PC P inv 264 ([.agg (nth l j).c]++[.ip 4 [[.i .u8 5,.n tr,.n se,.n ed]] 0 0]) (·=.b (decide ((nth l j).id=tr))):=fun j _=>zob hH ⟨5,tr,se,ed⟩ (nth l j)
 have c6:=zex hH (nth (nth l k).secs 0) 0 (by omega)
 have hno:∀ j,k<j->j<l.length->¬(nth l j).id=tr:=fun j h1 h2 h3=>by
  have:=zrD hup h1 h2;omega
 rw[hc]at c0;rw[ha]at c2;have hk9:=hls _ (zac hk7);clear hT hc ho hen hup;have hm:=rowM l h8;have w:=rowW l h8;have u:=rowU l h8;have wk:=zqr hk7 h8;have hkr:k<(zbC 112 l.length l).length:=by rw[zaF];exact hk7
 have x0:=zcq hk8;unfold MoveD.c at c4;unfold zlR nxJ at h1;generalize za0 p.sections (nth (nth l k).secs 0) (nth l k).ed=J at *;have a1:¬1<(nth l k).secs.length:=fun h=>by rw[if_pos (.inl h)]at h1;exact absurd h1 (by decide)
 have a2:J.2=0:=Decidable.byContradiction fun h=>by rw[if_pos (.inr (.inl h))]at h1;exact absurd h1 (by decide)
 have a3:J.1.to=0:=Decidable.byContradiction fun h=>by rw[if_pos (.inr (.inr h))]at h1;exact absurd h1 (by decide)
 clear h1;unfold wld at *;have hX:=u;refine zad (F:=cd210) (hH.has _ _ rfl) (Nat.le_of_ble_eq_true rfl) fun Q hQ hR=>?_;have hE:=hH.callable;dsimp only[cd210]at hQ |-;refine wq ?_
 skip
 (have hX:=zA @w (zA @wk (zA @x0 (zA @a2 @a3)));(repeat' first|refine zaa xE fun K hK=>?_|exact wt|refine wA ?_|(refine wB ?_ ?_<;>intro h<;>first|exact wN h|subst (h:(_:Bool)=_)|skip)|(refine wQ ?_;clear hQ hR)|refine wC c0 ?_|refine wO c1 ?_|(refine wI hH cd226 100 fun Q hQ hR=>?_;refine wq ?_;try refine wD ?_)|(refine wI hH cd234 1200 fun Q hQ hR=>?_;refine wq ?_;try refine wD ?_)|(refine wI hH cd252 1300 fun Q hQ hR=>?_;refine wq ?_;try refine wD ?_)|(refine wI hH cd263 1500 fun Q hQ hR=>?_;refine wq ?_;try refine wD ?_)|(refine wJ 1400 ((ziK hM c2 h0 (by intro i hi;(repeat rw[zal (by omega)]);exact zbK (zaX hi) _) rfl (by (repeat rw[zal (by omega)]);(rw[hm.get _ (by omega)]);rfl))) ?_;try refine wD ?_)|(refine wJ 1600 ((find4_ac hM c4 h0 rfl (fun _=>rfl) (by intro i hi;(repeat rw[zal (by omega)]);exact zbK (zaX hi) _) rfl (by (repeat rw[zal (by omega)]);(rw[hm.get _ (by omega)]);rfl))) ?_;try refine wD ?_)|refine wU c3 ?_|fail);all_goals clear hX)
 skip
 have hkw:k<(zbC 112 l.length l).length:=hkr;have hrl:=zaF (b:=112) (l:=l) l.length;have hX:=zA @w @u;refine zaj (ι:=Nat) [0,1,4,5,6] (fun z=>[(5,.n ((z:Int)-1)),(6,.n z)]) (fun z=>[(104,.cells (zhv (zbC 112 l.length l) k z).flatten true)]) (fun z=>z) (l.length) (fun z=>(k<z)) (k+1) ?_ (hi:=by (try dsimp only);omega) (h2:=by (try dsimp only);rw[zpy hkw];refine wD ?_;first|exact wt|omega|(simp;done));rintro j ⟨hk,hj⟩;(try dsimp only at hk hj |-);rcases Nat.lt_or_ge j l.length with hlt|hge
 ·have d1:(zhv (zbC 112 l.length l) k j).length=l.length:=by rw[zkX hkw hj (by rw[hrl];omega),hrl]
  have dc:∀ c∈zhv (zbC 112 l.length l) k j,c.length=8:=fun c hc=>zbL _ c (zhG hc)
  have hjr:j<(zbC 112 l.length l).length:=by rw[hrl];exact hlt
  have hjg:=zbn (b:=112) (j:=l.length) hlt;rw[if_pos hlt]at hjg;have d2:=delG_at hkw hj hjr;have d3:=zr6 hkw hj hjr;rw[hjg]at d2 d3;have fl:(zhv (zbC 112 l.length l) k j).flatten.length=l.length*8:=by rw[zdp dc,d1]
  have fa:=zoB dc (by omega) (show j<(zhv (zbC 112 l.length l) k j).length by rw[d1];exact hlt)
  rw[d2]at fa;have d7:=zoA dc (k:=j-1) (by rw[d1];omega) (c:=tX (nth l j) (sX (112+j) (nth l j))) rfl
  rw[d3]at d7;have wb:∀ N,120<=N->(zab (zhv (zbC 112 l.length l) k j).flatten<=N)=True:=fun N h=>eq_true (znl fun c hc=>zh8 (by omega) c (zhG hc))
  have wj:=zqr hlt h8;have d4:=c5 j hlt;have d5:=hno j hj hlt;have d6:((j:Int)-1).toNat=j-1:=by omega
  have h0j:=hso j hlt;clear d2 d3 hjg;generalize zhv (zbC 112 l.length l) k j=D at *;unfold tX sX at d7 fa;unfold ovl ovl ovl ovl ovl ovl ovl ovl ovl at d7;(try dsimp only at d7)
  have hX:=u;(have hX:=zA @w (zA @u (zA @wj (zA @fl (zA @fa (zA @wb (zA @d6 @d7))))));(repeat' first|refine zaa xE fun K hK=>?_|exact wt|refine wA ?_|(refine wB ?_ ?_<;>intro h<;>first|exact wN h|subst (h:(_:Bool)=_)|skip)|(refine wQ ?_;clear hQ hR)|(refine wJ 1700 ((is4_ac hM d4 h0j rfl (fun _=>rfl) (by (repeat rw[zal (by omega)]);exact zbK (zaX hlt) _) (by (repeat rw[zal (by omega)]);(rw[hm.get _ (by omega)]);rfl))) ?_;try refine wD ?_)|fail);all_goals clear hX)
  exact ⟨j+1,by omega,⟨by omega,by omega⟩,⟨by omega,by omega⟩,rfl⟩
 ·have hj2:j=l.length:=by omega
  subst hj2;have d1:(zhv (zbC 112 l.length l) k l.length).length=l.length:=by rw[zkX hkw hj (by rw[hrl];omega),hrl]
  have dc:∀ c∈zhv (zbC 112 l.length l) k l.length,c.length=8:=fun c hc=>zbL _ c (zhG hc)
  have fl:(zhv (zbC 112 l.length l) k l.length).flatten.length=l.length*8:=by rw[zdp dc,d1]
  have wb:∀ N,120<=N->(zab (zhv (zbC 112 l.length l) k l.length).flatten<=N)=True:=fun N h=>eq_true (znl fun c hc=>zh8 (by omega) c (zhG hc))
  have d6:((l.length:Int)-1).toNat=l.length-1:=by omega
  have d7:=zoA dc (k:=l.length-1) (by rw[d1];omega) (c:=zjT) rfl
  have d8:=delG_end hkw zjT;rw[hrl]at d8;rw[d8]at d7;have fe:(((zbC 112 l.length l).eraseIdx k)++[zjT]).flatten.length=l.length*8:=by
   rw[zdp (sz:=8) fun c hc=>?_,List.length_append,List.length_eraseIdx_of_lt hkw,hrl,List.length_singleton]
   ·omega
   ·rcases List.mem_append.1 hc with hc|hc
    ·exact zbL _ c (List.mem_of_mem_eraseIdx hc)
    ·rw[List.mem_singleton.1 hc];rfl
  have we:∀ N,120<=N->(zab (((zbC 112 l.length l).eraseIdx k)++[zjT]).flatten<=N)=True:=fun N h=>eq_true (znl fun c hc=>by
   rcases List.mem_append.1 hc with hc|hc
   ·exact zh8 (by omega) c (List.mem_of_mem_eraseIdx hc)
   ·rw[List.mem_singleton.1 hc];exact Nat.zero_le _)
  have d9:(l.length-(l.length-1))=1:=by omega
  have d11:zjT.length=8:=rfl;have d12:((l.length-1)*8+8=l.length*8/\(l.length-1)*8<=l.length*8)=True:=by simp only[eq_iff_iff,iff_true];omega
  generalize hEE:(((zbC 112 l.length l).eraseIdx k)++[zjT])=E at *;clear d8;generalize zhv (zbC 112 l.length l) k l.length=D at *;unfold zjT ovl ovl ovl ovl ovl ovl ovl ovl ovl at d7;(have hX:=zA @w (zA @wk (zA @fl (zA @wb (zA @fe (zA @we (zA @d6 (zA @d7 (zA @d9 (zA @d11 @d12)))))))));(repeat' first|refine zaa xE fun K hK=>?_|exact wt|refine wA ?_|(refine wB ?_ ?_<;>intro h<;>first|exact wN h|subst (h:(_:Bool)=_)|skip)|(refine wQ ?_;clear hQ hR)|refine wC c6 ?_|fail);all_goals clear hX)
  subst hEE;refine xr0_del hk7 h8 rfl ?_ fun i hi=>?_
  ·(repeat rw[zal (by omega)])
   rfl
  ·(repeat rw[zal (by omega)])
   exact zbK (zaX hi) _
theorem xr0_ins {l:List TrainD} {t:TrainD} {j q:Nat} {A:List (Int×Int)} {σ:AS} {r:AV} {D:List AV} (h8:l.length<8) (hj:j<=l.length) (hins:zfe l t=l.take j++t::l.drop j) (hr:r=.tup [.agg [.sm 104 ((l.length+1)*8) 0 (l.length+1) 8],zpO A,.n 0])
  (hg:zah σ 104=some (.cells D true)) (hD:D=((zbC 112 l.length l).take j++tX t (.sm q 1 0 1 1)::(zbC 112 l.length l).drop j).flatten) (hs:∀ i,i<l.length->zah σ (112+i)=some (.cells ((nth l i).secs.map zaJ).flatten true))
  (hq:zah σ q=some (.cells (t.secs.map zaJ).flatten true)) (hq2:105<=q/\q<2000) (ht:t.secs.length=1):XR0 (zfe l t) A r σ:=by
 have hrl:=zaF (b:=112) (l:=l) l.length;have hl:((zbC 112 l.length l).take j++tX t (.sm q 1 0 1 1)::(zbC 112 l.length l).drop j).length=l.length+1:=by
  rw[List.length_append,List.length_cons,List.length_take,List.length_drop,hrl];omega
 have hx:(zfe l t).length=l.length+1:=by
  rw[hins,List.length_append,List.length_cons,List.length_take,List.length_drop];omega
 subst hD;refine ⟨_,by rw[hl,hx];exact hr,hg,by rw[hl,hx];omega,fun c hc=>?_,fun c hc=>?_,fun i hi=>?_⟩
 ·rcases List.mem_append.1 hc with h|h
  ·exact zbL _ c (List.mem_of_mem_take h)
  ·rcases List.mem_cons.1 h with h|h
   ·rw[h];rfl
   ·exact zbL _ c (List.mem_of_mem_drop h)
 ·rcases List.mem_append.1 hc with h|h
  ·exact zlq (by omega) c (List.mem_of_mem_take h)
  ·rcases List.mem_cons.1 h with h|h
   ·rw[h,zmw];simp only[AV.bound];omega
   ·exact zlq (by omega) c (List.mem_of_mem_drop h)
 ·have key:∀ k,k<l.length->nth (zfe l t) i=nth l k->((zbC 112 l.length l).take j++tX t (.sm q 1 0 1 1)::(zbC 112 l.length l).drop j)[i]?=(zbC 112 l.length l)[k]?->∃ (m:Nat) (R:List Int),((zbC 112 l.length l).take j++tX t (.sm q 1 0 1 1)::(zbC 112 l.length l).drop j)[i]?=some (tX (nth (zfe l t) i) (.sm m R.length 0 (nth (zfe l t) i).secs.length 1))/\zah σ m=some (.cells (R.map zaJ).flatten true)/\(105<=m/\m<2000)/\(nth (zfe l t) i).secs=R.take (nth (zfe l t) i).secs.length/\(nth (zfe l t) i).secs.length<=R.length:=fun k hk e1 e2=>by
   rw[e1,e2,List.getElem?_eq_getElem (by rw[hrl];exact hk),zbn hk,if_pos hk]
   exact ⟨112+k,(nth l k).secs,rfl,hs k hk,by omega,(List.take_length ..).symm,Nat.le_refl _⟩
  have hlt:(l.take j).length=j:=by rw[List.length_take];omega
  have hlr:((zbC 112 l.length l).take j).length=j:=by rw[List.length_take,hrl];omega
  have en:nth (zfe l t) i=(zfe l t)[i]:=zay hi;rw[hx]at hi;rcases Nat.lt_trichotomy i j with h|h|h
  ·refine key i (by omega) ?_ ?_
   ·rw[en,zay (by omega)]
    apply Option.some.inj;rw[<-List.getElem?_eq_getElem,<-List.getElem?_eq_getElem,hins,List.getElem?_append_left (by omega),List.getElem?_take,if_pos h]
   ·rw[List.getElem?_append_left (by omega),List.getElem?_take,if_pos h]
  ·subst h
   have e1:nth (zfe l t) i=t:=by
    rw[en];apply Option.some.inj;rw[<-List.getElem?_eq_getElem,hins,List.getElem?_append_right (by omega),hlt,Nat.sub_self,List.getElem?_cons_zero]
   rw[e1,List.getElem?_append_right (by omega),hlr,Nat.sub_self,List.getElem?_cons_zero,ht]
   exact ⟨q,t.secs,by rw[ht],hq,hq2,by rw[<-ht,List.take_length],by omega⟩
  ·obtain ⟨k,rfl⟩:∃ k,i=k+1:=⟨i-1,by omega⟩
   have e3:k+1-j=(k-j)+1:=by omega
   have e4:j+(k-j)=k:=by omega
   refine key k (by omega) ?_ ?_
   ·rw[en,zay (by omega)]
    apply Option.some.inj;rw[<-List.getElem?_eq_getElem,<-List.getElem?_eq_getElem,hins,List.getElem?_append_right (by omega),hlt,e3,List.getElem?_cons_succ,List.getElem?_drop,e4]
   ·rw[List.getElem?_append_right (by omega),hlr,e3,List.getElem?_cons_succ,List.getElem?_drop,e4]
section
variable {N:Nat} {l:List TrainD} {σ:AS} {T q b:Nat}
theorem zqp (h0:0<l.length) (hr:∀ i,i<l.length->zah σ (b+i)=some (.cells ((nth l i).secs.map zaJ).flatten true)) (hT:zah σ T=some (.cells (zbC b l.length l).flatten true)):zaR (za5 4 σ) (.sm T (l.length*8) 0 l.length 8)=.sl 8 (l.map TrainD.c):=by
 have h1:za5 4 σ T=some (l.map TrainD.c).flatten:=by
  simp only[za5,hT];exact congrArg some (zgb (k:=2) hr)
 have h3:zbd 8 l.length (l.map TrainD.c).flatten=l.map TrainD.c:=zbi (c:=TrainD.c) l;have h5:(l.map TrainD.c).flatten.length=l.length*8:=zbo (c:=TrainD.c) l;simp only[zaR,h1];rw[if_pos ⟨h5,by omega⟩,List.drop_zero,h3]
theorem zp7 {v:Bool} {sc:List AV} (hM:∀ b,M b->b<w0.heap.size) (c:PC P inv 253 [.sl 8 (l.map TrainD.c),.fn 254 [.ip 3 [sc] 0 0]] (·=.b v)) (h0:0<l.length) (h3:sc.length=3) (hsn:∀ f,zaT f sc=sc)
  (hr:∀ i,i<l.length->zah σ (b+i)=some (.cells ((nth l i).secs.map zaJ).flatten true)) (hT:zah σ T=some (.cells (zbC b l.length l).flatten true)) (hq:zah σ q=some (.cells sc true)) :
  AC P inv w0 M N 253 [.sm T (l.length*8) 0 l.length 8,.fn 254 [.ptr q 3 0]] σ fun r' σ'=>r'=.b v/\σ'=σ:=by
 refine zdu hM c ?_ rfl;have h2:za5 4 σ q=some sc:=by simp only[za5,hq,hsn]
 simp only[zbF,zaT,zqp h0 hr hT];simp only[zaR,zaT,h2];rw[if_pos ⟨h3,by omega⟩]
theorem bs_ac {n:Int} {r:AV} (hM:∀ b,M b->b<w0.heap.size) (c:PC P inv 256 [.sl 8 (l.map TrainD.c),.n n,.fn 257 []] (·=r)) (hs:r.scalar=true) (h0:0<l.length)
  (hr:∀ i,i<l.length->zah σ (b+i)=some (.cells ((nth l i).secs.map zaJ).flatten true)) (hT:zah σ T=some (.cells (zbC b l.length l).flatten true)) :
  AC P inv w0 M N 256 [.sm T (l.length*8) 0 l.length 8,.n n,.fn 257 []] σ fun r' σ'=>r'=r/\σ'=σ:=by
 refine zdu hM c ?_ hs;simp only[zbF,zaT,zqp h0 hr hT];simp only[zaR,zaT]
end
theorem putA (hH:HasAll P inv) (hI:HasIds P inv) (hIn:HasIns P inv) (p:Pln) (hp:Sm p) (s:State) (hs:SmS s) (l:List TrainD) (hls:∀ t∈l,t.secs.length<=1000) (hc:ckC p s l=0) (tr se ed:Int) {S:Section} (hk:PutK p s l tr se ed S) (h0:0<l.length) (hM:∀ b,M b->b<w0.heap.size) :
  AC P inv w0 M 0 210 [.agg p.c,.agg s.c,.agg (wld l),.agg [.i .u8 1,.n tr,.n se,.n ed]] [] (XR0 (zfe l (znY ⟨1,tr,se,ed⟩ S)) [(S.id,1)]):=by
 obtain ⟨r8,k1,k9,ka,kf,kp,k0,ke,kh,kt,ki⟩:=hk;have hl:l.length<=1000:=by omega
 have c0:=zbj hH hI p hp s hs l hl hls;have hst:=((zbH p s l).1 hc).1;have hT:=((zbH p s l).1 hc).2;have h8:=hT.len;have c1:=zfX hH l h0 (by omega) (fun t ht=>⟨(zcE.1 (hT.may t ht)).one,hls t ht⟩)
 have c2:=zb0 hH l hl tr;have ho:=zar hst;have hen:∀ x∈p.sections,x.ends.length<=3:=fun x hx=>(zaP ho.sec x hx).2.2.2.2
 have c3:=zdC hH p.sections se (Nat.le_trans hp.sec (by omega)) (fun x hx=>Nat.le_trans (hen x hx) (by omega))
 have hf:(zaz p.sections se).2=0:=by rw[kf]
 have hm9:=(zgf hf).1;rw[kf]at c3 hm9;dsimp only at c3 hm9;have hsm:zkJ p S.id=true:=List.any_eq_true.2 ⟨_,hm9,by simp⟩
 have c4:=ziD hH hI p hp s hs S.id;have c5:=zfD hH l hl hls S;have c6:=zfd hH p s hs hst S.id;unfold zgY at c4;rw[if_pos hst,if_pos hsm,kh]at c4;rw[kt]at c5;rw[ki]at c6;have c8:=zex hH S.id 1 (by omega)
 have hid:∀ t∈l,0<=t.id/\t.id<=1000:=fun t ht=>by have:=hT.id t ht;omega
 have c7:=bsT_pc hH l tr (by omega) hid (by omega)
 have hins:=insT_bs hT.up (znY ⟨1,tr,se,ed⟩ S);have hq:bsT l tr 0 l.length<=l.length:=hins.1;rw[hc]at c0;generalize zcB l tr=v at *;unfold stn at c6;clear hT hc ho hen hst hf hm9 hsm hid kh kt ki;have hm:=rowM l h8;have w:=rowW l h8;have hrl:=zaF (b:=112) (l:=l) l.length;obtain ⟨D,hDq⟩:∃ D:Nat->List AV,∀ q,D q=((zbC 112 l.length l).take (bsT l tr 0 l.length)++tX (znY ⟨1,tr,se,ed⟩ S) (.sm q 1 0 1 1)::(zbC 112 l.length l).drop (bsT l tr 0 l.length)).flatten:=⟨_,fun _=>rfl⟩
 have yi:∀ q,(zbC 112 l.length l).flatten.take (bsT l tr 0 l.length*8)++[.n tr,.sm q 1 0 1 1,.n (1-ed),.n ed,.n 0,.n 0,.n 0,.n 0]++(zbC 112 l.length l).flatten.drop (bsT l tr 0 l.length*8)=D q:=fun q=>by
  rw[hDq,List.flatten_append,List.flatten_cons,zsc (zbL _) _ (by rw[hrl];exact hq),znk (zbL _) _ (by rw[hrl];exact hq),List.append_assoc]
  rfl
 have hcl:∀ q,∀ c∈((zbC 112 l.length l).take (bsT l tr 0 l.length)++tX (znY ⟨1,tr,se,ed⟩ S) (.sm q 1 0 1 1)::(zbC 112 l.length l).drop (bsT l tr 0 l.length)),c.length=8:=fun q c hc=>by
  rcases List.mem_append.1 hc with h|h
  ·exact zbL _ c (List.mem_of_mem_take h)
  ·rcases List.mem_cons.1 h with h|h
   ·rw[h];rfl
   ·exact zbL _ c (List.mem_of_mem_drop h)
 have yl:∀ q,(D q).length=(l.length+1)*8:=fun q=>by
  rw[hDq,zdp (hcl q),List.length_append,List.length_cons,List.length_take,List.length_drop,hrl]
  congr 1
  omega
 have yb:∀ q N,q<N->120<=N->(zab (D q)<=N)=True:=fun q N h1 h2=>eq_true (by
  rw[hDq];refine znl fun c hc=>?_
  rcases List.mem_append.1 hc with h|h
  ·exact zh8 (by omega) c (List.mem_of_mem_take h)
  ·rcases List.mem_cons.1 h with h|h
   ·rw[h,zmw];simp only[AV.bound];omega
   ·exact zh8 (by omega) c (List.mem_of_mem_drop h))
 unfold wld at *;clear hcl;refine zad (F:=cd210) (hH.has _ _ rfl) (Nat.le_of_ble_eq_true rfl) fun Q hQ hR=>?_;have hE:=hH.callable;dsimp only[cd210]at hQ |-;refine wq ?_
 skip
 (have hX:=zA @w (zA @yi (zA @yl @yb));(repeat' first|refine zaa yd fun K hK=>?_|exact wt|refine wA ?_|(refine wB ?_ ?_<;>intro h<;>first|exact wN h|subst (h:(_:Bool)=_)|skip)|(refine wQ ?_;clear hQ hR)|refine wC c0 ?_|refine wO c1 ?_|(refine wI hH cd226 100 fun Q hQ hR=>?_;refine wq ?_;try refine wD ?_)|(refine wI hH cd230 1200 fun Q hQ hR=>?_;refine wq ?_;try refine wD ?_)|(refine wI hH cd252 1300 fun Q hQ hR=>?_;refine wq ?_;try refine wD ?_)|(refine wJ 1400 ((ziK hM c2 h0 (by intro i hi;(repeat rw[zal (by omega)]);exact zbK (zaX hi) _) rfl (by (repeat rw[zal (by omega)]);(rw[hm.get _ (by omega)]);rfl))) ?_;try refine wD ?_)|refine wU c3 ?_|refine wC c4 ?_|(refine wJ 1400 ((zp7 hM c5 h0 rfl (fun _=>rfl) (by intro i hi;(repeat rw[zal (by omega)]);exact zbK (zaX hi) _) rfl (by (repeat rw[zal (by omega)]);(rw[hm.get _ (by omega)]);rfl))) ?_;try refine wD ?_)|refine wC c6 ?_|(refine wJ 1400 ((bs_ac hM c7 rfl h0 (by intro i hi;(repeat rw[zal (by omega)]);exact zbK (zaX hi) _) rfl)) ?_;try refine wD ?_)|refine wC c8 ?_|(refine wJ 1500 ((zrs (n:=l.length) (i:=bsT l tr 0 l.length) hIn.trn (by omega) rfl (by (repeat rw[zal (by omega)]);(rw[hm.get _ (by omega)]);rfl) (by omega) w.2.2.2.2.2.2.2.2 rfl rfl hq (by omega))) ?_;try refine wD ?_)|fail);all_goals clear hX)
 refine xr0_ins (j:=bsT l tr 0 l.length) (q:=1302) r8 hq hins.2 rfl ?_ (hDq 1302) (fun i hi=>?_) ?_ (by omega) rfl
 ·(repeat rw[zal (by omega)])
  rfl
 ·(repeat rw[zal (by omega)])
  exact zbK (zaX hi) _
 ·(repeat rw[zal (by omega)])
  rw[hm.get _ (by omega)]
  rfl
end Go.Lev
namespace Go.Eng
open Go.RowKit
mutual
theorem shV_bd (c:Nat):∀ x:AV,(shV c x).bound<=x.bound+c
 |.agg cs=>by simp only[shV,AV.bound];exact zjn c cs
 |.tup cs=>by simp only[shV,AV.bound];exact zjn c cs
 |.fn _ cs=>by simp only[shV,AV.bound];exact zjn c cs
 |.ptr l _ _=>by simp only[shV,AV.bound];omega
 |.sm l _ _ _ _=>by simp only[shV,AV.bound];omega
 |.mp l=>by simp only[shV,AV.bound];omega
 |.i _ _=>by simp only[shV,AV.bound];omega
 |.b _=>by simp only[shV,AV.bound];omega
 |.v _=>by simp only[shV,AV.bound];omega
 |.u=>by simp only[shV,AV.bound];omega
 |.s0 _=>by simp only[shV,AV.bound];omega
 |.sl _ _=>by simp only[shV,AV.bound];omega
 |.ip _ _ _ _=>by simp only[shV,AV.bound];omega
 |.top=>by simp only[shV,AV.bound];omega
theorem zjn (c:Nat):∀ xs:List AV,zab (shL c xs)<=zab xs+c
 |[]=>by simp only[shL,zab];omega
 |x::xs=>by
  have h1:=shV_bd c x;have h2:=zjn c xs;simp only[shL,zab];unfold mx
  repeat' split
  all_goals omega
end
theorem shO_bd (c:Nat) (o:AO):(shO c o).bound<=o.bound+c:=by
 cases o with
 |cells cs r=>simp only[shO,AO.bound];exact zjn c cs
 |imap kvs=>simp only[shO,AO.bound];omega
 |rsv=>simp only[shO,AO.bound];omega
theorem zqd {c:Nat} {p:Nat×AO}:∀ {τ:List (Nat×AO)},p∈shS c τ->∃ q∈τ,p=(q.1+c,shO c q.2)
 |[],h=>nomatch h
 |(j,o)::τ,h=>by
  simp only[shS,List.mem_cons]at h;rcases h with h|h
  ·exact ⟨(j,o),by simp,h⟩
  ·obtain ⟨q,hq,e⟩:=zqd h
   exact ⟨q,by simp[hq],e⟩
theorem Mid.sh {τ:List (Nat×AO)} {lo hi:Nat} (h:Mid τ lo hi) (hs:Srt τ) (c:Nat):Mid (shS c τ) (lo+c) (hi+c) :=
 ⟨zj8 c τ h.keys,zh2 fun p hp=>by
  obtain ⟨q,hq,rfl⟩:=zqd hp;have h1:=h.keys q hq;have h2:=(zau τ q.1 q.2 (hs.get hq)).2;have h3:=h.bd;have h4:=shO_bd c q.2;exact ⟨by simp only;omega,by simp only;omega⟩⟩
theorem Mid.key {τ:List (Nat×AO)} {lo hi k:Nat} {o:AO} (h:Mid τ lo hi) (e:zah τ k=some o):lo<=k/\k<hi:=by
 refine Decidable.byContradiction fun hn=>?_
 rw[zf4 fun p hp=>by have:=h.keys p hp;omega]at e
 cases e
end Go.Eng
namespace Go.Lev
open Go.Eng
set_option maxRecDepth 10000
variable {P:Program} {inv:Nat->Option Nat} {w0:World} {M:Nat->Prop}
structure XF (c:Nat) (X:List TrainD) (CL:List (List AV)) (τ:AS):Prop where
 mid:Mid τ (105+c) (2000+c)
 srt:Srt τ
 pos:0<CL.length
 len:X.length<=CL.length
 l9:CL.length<=9
 cl:∀ x∈CL,x.length=8
 bd:zab CL.flatten<=2000+c
 row:∀ i,i<X.length->∃ (m:Nat) (R:List Int),CL[i]?=some (tX (nth X i) (.sm m R.length 0 (nth X i).secs.length 1))/\zah τ m=some (.cells (R.map zaJ).flatten true)/\(nth X i).secs=R.take (nth X i).secs.length/\(nth X i).secs.length<=R.length
theorem xf_call {c:Nat} {X:List TrainD} {A:List (Int×Int)} {args:List AV} {N:Nat} {φ:AF} {σ:AS} {K:AV->AS->Prop} (hM:∀ b,M b->b<w0.heap.size)
  (h:∀ (w0:World) (M:Nat->Prop),(∀ b,M b->b<w0.heap.size)->AC P inv w0 M 0 210 args [] (XRows X A)) (hc:zaw N φ σ=c)
  (hk:∀ CL τ,XF c X CL τ->K (.tup [.agg [.sm (104+c) (CL.length*8) 0 X.length 8],.sl 4 (A.map zla),.n 0]) (zg9 σ ((104+c,.cells CL.flatten true)::tl τ [(2000+c,.cells [] false)]))):CallK P inv w0 M N φ σ 210 args K:=by
 refine AC.callR hM h ?_;rintro r σ' ⟨CL,τ,rfl,rfl,h1,h2,⟨h3,h4,h5⟩,h6,h7,h8⟩;rw[hc];have hl:(CL.map (shL c)).length=CL.length:=List.length_map ..;have hx:XF c X (CL.map (shL c)) (shS c τ):=by
  refine ⟨h1.sh h2 c,h2.sh c,by omega,by omega,by omega,fun x hx=>?_, ?_,fun i hi=>?_⟩
  ·obtain ⟨y,hy,rfl⟩:=List.mem_map.1 hx
   rw[zdc,h6 y hy]
  ·rw[<-cl_sh]
   exact Nat.le_trans (zjn c _) (Nat.add_le_add_right (znl h7) c)
  ·obtain ⟨m,R,e1,e2,e3,e4⟩:=h8 i hi
   refine ⟨m+c,R, ?_, ?_,e3,e4⟩
   ·rw[List.getElem?_map,e1]
    rfl
   ·rw[zj9,e2]
    simp only[Option.map_some,shO,znf (c:=zaJ)]
 have:=hk _ _ hx;rw[hl,<-cl_sh]at this;simp only[shV,shL,shS,shS_tl,shO];exact this
theorem xf_sn {c:Nat} {X:List TrainD} {CL:List (List AV)} {τ σ:AS} {T:Nat} (h:XF c X CL τ) (hT:zah σ T=some (.cells CL.flatten true)) (hs:∀ m o,zah τ m=some o->zah σ m=some o):zaR (za5 4 σ) (.sm T (CL.length*8) 0 X.length 8)=.sl 8 (X.map TrainD.c):=by
 have h8:∀ x∈CL.map (zaT (za5 3 σ)),x.length=8:=fun x hx=>by
  obtain ⟨y,hy,rfl⟩:=List.mem_map.1 hx;rw[zcA,h.cl y hy]
 have h1:za5 4 σ T=some (CL.map (zaT (za5 3 σ))).flatten:=by
  show (match zah σ T with|some (.cells cs _)=>some (zaT (za5 3 σ) cs)|_=>none)=_
  rw[hT,<-zkY]
 have h2:(CL.map (zaT (za5 3 σ))).flatten.length=CL.length*8:=by rw[zdp h8,List.length_map]
 have hl:=h.len;have h3:zbd 8 X.length (CL.map (zaT (za5 3 σ))).flatten=X.map TrainD.c:=by
  rw[zeT h8 (by rw[List.length_map];exact hl)]
  refine List.ext_getElem (by rw[List.length_take,List.length_map,List.length_map];omega) fun i h1 h2=>?_
  have hi:i<X.length:=by rw[List.length_map]at h2;exact h2
  obtain ⟨m,R,e1,e2,e3,e4⟩:=h.row i hi;rw[List.getElem_take,List.getElem_map,List.getElem_map,<-zay hi];rw[List.getElem?_eq_getElem (by omega)]at e1
  rw[Option.some.inj e1];have hF:za5 3 σ m=some (R.map zaJ).flatten:=by
   show (match zah σ m with|some (.cells cs _)=>some (zaT (za5 2 σ) cs)|_=>none)=_
   rw[hs m _ e2];show some (zaT (za5 2 σ) _)=_
   rw[zd4 (c:=zaJ)]
  have hlen:(R.map zaJ).flatten.length=R.length:=by rw[zbo (c:=zaJ),Nat.mul_one]
  have hch:zbd 1 (nth X i).secs.length (R.map zaJ).flatten=(nth X i).secs.map zaJ:=by
   rw[zeT (sz:=1) (fun c hc=>by obtain ⟨x,_,rfl⟩:=List.mem_map.1 hc;rfl) (by rw[List.length_map];exact e4),<-List.map_take,<-e3]
  unfold tX TrainD.c;simp only[zaT,zaR,hF];rw[if_pos ⟨hlen,by omega⟩,List.drop_zero,hch]
 simp only[zaR,h1];rw[if_pos ⟨h2,by omega⟩,List.drop_zero,h3]
theorem same_ac {N c:Nat} {X:List TrainD} {CL:List (List AV)} {τ σ:AS} {T:Nat} {v:Bool} (hM:∀ b,M b->b<w0.heap.size) (c5:PC P inv 389 [.agg (wld X),.agg (wld X)] (·=.b v)) (h:XF c X CL τ) (hT:zah σ T=some (.cells CL.flatten true)) (hs:∀ m o,zah τ m=some o->zah σ m=some o) :
  AC P inv w0 M N 389 [.agg [.sm T (CL.length*8) 0 X.length 8],.agg [.sl 8 (X.map TrainD.c)]] σ fun r' σ'=>r'=.b v/\σ'=σ:=by
 refine zdu hM c5 ?_ rfl;unfold wld;simp only[zbF,zaT,zaR];have:=xf_sn h hT hs;simp only[zaR]at this;rw[this]
structure XG (X:List TrainD) (CL:List (List AV)) (τ:AS):Prop where
 mid:Mid τ 110 2005
 srt:Srt τ
 row:∀ i,i<X.length->∃ (m:Nat) (R:List Int),CL[i]?=some (tX (nth X i) (.sm m R.length 0 (nth X i).secs.length 1))/\zah τ m=some (.cells (R.map zaJ).flatten true)/\(nth X i).secs.length<=R.length
theorem XF.g {X:List TrainD} {CL:List (List AV)} {τ:AS} (h:XF 5 X CL τ):XG X CL τ:=⟨h.mid,h.srt,fun i hi=>by obtain ⟨m,R,e1,e2,_,e4⟩:=h.row i hi;exact ⟨m,R,e1,e2,e4⟩⟩
theorem XG.put {X:List TrainD} {CL:List (List AV)} {τ:AS} (h:XG X CL τ) {m k:Nat} {R:List Int} (hm:zah τ m=some (.cells (R.map zaJ).flatten true)) (hk:k<R.length) (y:Int):XG X CL (sput τ m (.cells ((R.map zaJ).flatten.set k (.n y)) true)):=by
 have e:(R.map zaJ).flatten.set k (.n y)=((R.set k y).map zaJ).flatten:=by
  have:=zhC (c:=zaJ) (l:=R) (k:=k) (i:=0) hk (by omega) (.n y) y rfl
  rw[Nat.mul_one,Nat.add_zero]at this;exact this
 rw[e];have hb:AO.bound (.cells ((R.set k y).map zaJ).flatten true)<=2005:=by
  have hb:zab ((R.set k y).map zaJ).flatten=0:=zd5 (c:=zaJ) _;simp only[AO.bound,hb];omega
 have hk:=h.mid.key hm;refine ⟨h.mid.sput h.srt hk.1 hk.2 hb,h.srt.put,fun i hi=>?_⟩
 obtain ⟨m',R',e1,e2,e3⟩:=h.row i hi;by_cases hmm:m'=m
 ·subst hmm
  rw[hm]at e2;have e4:R.length=R'.length:=by
   injection e2 with e2
   injection e2 with e2
   have:=congrArg List.length e2;rw[zbo (c:=zaJ),zbo (c:=zaJ)]at this;omega
  exact ⟨m',R.set k y,by rw[List.length_set,e4];exact e1,by rw[zag,if_pos rfl],by rw[List.length_set,e4];exact e3⟩
 ·exact ⟨m',R',e1,by rw[zag,if_neg hmm];exact e2,e3⟩
theorem znA {X:List TrainD} {CL:List (List AV)} {σ:AS}
  (hr:∀ i,i<X.length->∃ (m:Nat) (R:List Int),CL[i]?=some (tX (nth X i) (.sm m R.length 0 (nth X i).secs.length 1))/\zah σ m=some (.cells (R.map zaJ).flatten true)/\(105<=m/\m<2000)/\(nth X i).secs=R.take (nth X i).secs.length/\(nth X i).secs.length<=R.length) :
  ∀ n,n<=X.length->∃ τ:AS,Mid τ 105 2000/\Srt τ/\(∀ p∈τ,zah σ p.1=some p.2) /\
   ∀ i,i<n->∃ (m:Nat) (R:List Int),CL[i]?=some (tX (nth X i) (.sm m R.length 0 (nth X i).secs.length 1))/\zah τ m=some (.cells (R.map zaJ).flatten true)/\(nth X i).secs=R.take (nth X i).secs.length/\(nth X i).secs.length<=R.length
 |0,_=>⟨[],⟨fun p hp=>(nomatch hp),Nat.zero_le _⟩,List.Pairwise.nil,fun p hp=>(nomatch hp),fun i hi=>absurd hi (by omega)⟩
 |n+1,h=>by
  obtain ⟨τ,h1,h9,h2,h3⟩:=znA hr n (by omega)
  obtain ⟨m,R,e1,e2,e3,e4,e5⟩:=hr n (by omega)
  have hsub:∀ k o,zah τ k=some o->zah σ k=some o:=zeb (zfE h2);have hb:AO.bound (.cells (R.map zaJ).flatten true)<=2000:=by
   have hb:zab (R.map zaJ).flatten=0:=zd5 (c:=zaJ) _;simp only[AO.bound,hb];omega
  refine ⟨sput τ m (.cells (R.map zaJ).flatten true),h1.sput h9 e3.1 e3.2 hb,h9.put,fun p hp=>?_,fun i hi=>?_⟩
  ·rcases zgk hp with hp|hp
   ·subst hp;exact e2
   ·exact h2 p hp
  ·rcases Nat.lt_or_ge i n with hin|hin
   ·obtain ⟨m',R',f1,f2,f3,f4⟩:=h3 i hin
    refine ⟨m',R',f1, ?_,f3,f4⟩;rw[zag];by_cases hm:m'=m
    ·have:=hsub m' _ f2
     rw[hm,e2]at this;rw[if_pos hm,this]
    ·rw[if_neg hm,f2]
   ·obtain rfl:i=n:=by omega
    exact ⟨m,R,e1,by rw[zag,if_pos rfl],e4,e5⟩
theorem xr0_rows {N:Nat} {args:List AV} {σ0:AS} {X:List TrainD} {A:List (Int×Int)} (h:AC P inv w0 M N 210 args σ0 (XR0 X A)) (hN:N<=2000):AC P inv w0 M N 210 args σ0 (XRows X A):=by
 intro g hg β w vs hm hv;refine (h g hg β w vs hm hv).mono ?_;rintro e w' ⟨v,r,σ',β',k1,⟨CL,rfl,hg1,hl,hc8,hcb,hr⟩,k3,k4,k5⟩;obtain ⟨τ,t1,t9,t2,t3⟩:=znA hr X.length (Nat.le_refl _);have hsub:∀ k o,zah ((104,.cells CL.flatten true)::τ) k=some o->zah σ' k=some o:=zeb ⟨hg1,zfE t2⟩;have hd:=fun K=>k3.drop hsub K
 have hb:zax ((104,AO.cells CL.flatten true)::τ)<=2000:=by
  have h1:zab CL.flatten<=2000:=znl hcb;have h2:=t1.bd;simp only[zax,AO.bound];unfold mx
  repeat' split
  all_goals omega
 have he:=(hd N).1.empty hb;have hs:sput ((104,AO.cells CL.flatten true)::τ) 2000 (.cells [] false)=(104,.cells CL.flatten true)::tl τ [(2000,.cells [] false)]:=by
  have:=zhw ((104,AO.cells CL.flatten true)::τ) [] 2000 (.cells [] false) fun p hp=>by
   rcases List.mem_cons.1 hp with rfl|hp
   ·show 104<2000;omega
   ·exact (t1.keys p hp).2
  simpa [tl,sput] using this
 rw[hs]at he;have hrel:=(he.2 2000 (Nat.le_refl _)).rel (zaK _ (show AV.bound (.tup [.agg [.sm 104 (CL.length*8) 0 X.length 8],zpO A,.n 0])<=2000 by cases A<;>simp[zpO,AV.bound,zab,mx])) ((hd _).2.rel (zaK _ (Nat.le_refl _)) k5)
 refine ⟨v,_,_,β',k1,⟨CL,τ,rfl,rfl,t1,t9,hl,hc8,hcb,t3⟩,he.1,k4.trans ((hd N).2.trans (he.2 N hN)), ?_⟩;cases A with
 |cons a r=>exact hrel
 |nil =>
  simp only[zpO,rel,zcp,List.map_nil]at hrel |-
  obtain ⟨xs,q1,y,ys,q2,q3,y2,ys2,q4,⟨ad,q5⟩,q6⟩:=hrel;exact ⟨xs,q1,y,ys,q2,q3,y2,ys2,q4,⟨ad,0,q5,Nat.le_refl _,fun h=>absurd rfl h⟩,q6⟩
end Go.Lev
