/-
  Contracts of functions. Conditions: those that each theorem names.
-/
import Derived.Test.YtjfongdncghjmaaGreatL25
import Derived.Test.YtjfongdncghjmaaGreatL27
import Derived.Test.YtjfongdncghjmaaGreatL28
set_option linter.unusedSimpArgs false
set_option linter.unusedVariables false
set_option linter.unusedSectionVars false
namespace Go.Lev
open Go.Eng
set_option maxRecDepth 10000
set_option maxHeartbeats 8000000
variable {P:Program} {inv:Nat->Option Nat} {w0:World} {M:Nat->Prop}
theorem zpd (hH:HasAll P inv) (p:Pln) (hp:Sm p) (s:State) (hs:SmS s) (l:List TrainD) (hl:l.length<=1000) (hls:∀ t∈l,t.secs.length<=1000) (hc:ckC p s l=0) (kd tr se ed:Int) (hk:2<=kd/\kd<=5) (ha:zcB l tr=-1) :
  PC P inv 387 [.agg p.c,.agg s.c,.agg (wld l),.agg [.i .u8 kd,.n tr,.n se,.n ed]] (·=zbJ 6 [] []):=by
 have c0:=zbY hH p hp s hs l hl hls;have c1:=zcN hH l (by omega) hls
 have c2:=zfo hH l (by omega) tr
 rw[hc]at c0;rw[ha]at c2;clear hc;unfold zbJ;unfold wld at *;refine wf hH cd387 fun w0 M Q hM hE hQ hR=>?_;refine wq ?_
 (repeat' first|refine zaa yo fun K hK=>?_|exact wt|refine wA ?_|(refine wB ?_ ?_<;>intro h<;>first|exact wN h|subst (h:(_:Bool)=_)|skip)|(refine wQ ?_;clear hQ hR hE hM)|refine wC c0 ?_|refine wO c1 ?_|refine wC c2 ?_|fail)
 all_goals first|rfl|(exfalso;contradiction)|(exfalso;omega)
theorem zlH (hH:HasAll P inv) (p:Pln) (hp:Sm p) (s:State) (hs:SmS s) (l:List TrainD) (hl:l.length<=1000) (hls:∀ t∈l,t.secs.length<=1000) (hc:ckC p s l=0) (tr se ed:Int) {k:Nat} (hk7:k<l.length) (ha:zcB l tr=(k:Int)) :
  PC P inv 387 [.agg p.c,.agg s.c,.agg (wld l),.agg [.i .u8 4,.n tr,.n se,.n ed]] (·=zjP (zi9 l k (nth l k))):=by
 have c0:=zbY hH p hp s hs l hl hls;have c1:=zcN hH l (by omega) hls
 have c2:=zfo hH l (by omega) tr
 rw[hc]at c0;rw[ha]at c2;clear hc;have fa:zb2 (l.map TrainD.c).flatten (k*8) (some 8)=some (.agg (nth l k).c):=zcj (c:=TrainD.c) (l:=l) (k:=k) hk7 (by omega)
 unfold zjP zi9;have hk9:=hls _ (zac hk7);by_cases h1:1<(nth l k).secs.length
 ·rw[if_pos h1]
  unfold zbJ;unfold wld at *;dsimp only;refine wf hH cd387 fun w0 M Q hM hE hQ hR=>?_;refine wq ?_
  skip
  (have hX:=@fa;(repeat' first|refine zaa kM fun K hK=>?_|exact wt|refine wA ?_|(refine wB ?_ ?_<;>intro h<;>first|exact wN h|subst (h:(_:Bool)=_)|skip)|(refine wQ ?_;clear hQ hR)|refine wC c0 ?_|refine wO c1 ?_|refine wC c2 ?_|(refine wI hH cd397 100 fun Q hQ hR=>?_;refine wq ?_;try refine wD ?_)|fail);all_goals clear hX)
  all_goals first|rfl|(exfalso;contradiction)|(exfalso;omega)
 ·rw[if_neg h1]
  have yp:=zpY hk7 (zjV (nth l k));unfold zbJ;unfold wld at *;unfold zjV at yp |-
  dsimp only at yp |-
  refine wf hH cd387 fun w0 M Q hM hE hQ hR=>?_;refine wq ?_
  skip
  (have hX:=zA @fa @yp;(repeat' first|refine zaa kM fun K hK=>?_|exact wt|refine wA ?_|(refine wB ?_ ?_<;>intro h<;>first|exact wN h|subst (h:(_:Bool)=_)|skip)|(refine wQ ?_;clear hQ hR)|refine wC c0 ?_|refine wO c1 ?_|refine wC c2 ?_|(refine wI hH cd397 100 fun Q hQ hR=>?_;refine wq ?_;try refine wD ?_)|fail);all_goals clear hX)
  all_goals first|rfl|(exfalso;contradiction)|(exfalso;omega)|(rw[zfl (l:=l.set k _) (n:=l.length) List.length_set];done)|(rw[zfl (l:=l.set k _) (n:=l.length) List.length_set];rfl)
theorem zlI (hH:HasAll P inv) (p:Pln) (hp:Sm p) (s:State) (hs:SmS s) (l:List TrainD) (hl:l.length<=1000) (hls:∀ t∈l,t.secs.length<=1000) (hc:ckC p s l=0) (tr se ed:Int) {k:Nat} (hk7:k<l.length) (ha:zcB l tr=(k:Int)) :
  PC P inv 387 [.agg p.c,.agg s.c,.agg (wld l),.agg [.i .u8 3,.n tr,.n se,.n ed]] (·=zjP (zja l k (nth l k))):=by
 have c0:=zbY hH p hp s hs l hl hls;have c1:=zcN hH l (by omega) hls
 have c2:=zfo hH l (by omega) tr
 have hk8:=(zcE.1 (((zbH p s l).1 hc).2.may _ (zac hk7))).one;rw[hc]at c0;rw[ha]at c2;clear hc;have fa:zb2 (l.map TrainD.c).flatten (k*8) (some 8)=some (.agg (nth l k).c):=zcj (c:=TrainD.c) (l:=l) (k:=k) hk7 (by omega)
 unfold zjP zja;have hk9:=hls _ (zac hk7);by_cases h1:(nth l k).secs.length=1
 ·rw[if_pos h1]
  unfold zbJ;unfold wld at *;dsimp only;refine wf hH cd387 fun w0 M Q hM hE hQ hR=>?_;refine wq ?_
  skip
  (have hX:=zA @fa @h1;(repeat' first|refine zaa kM fun K hK=>?_|exact wt|refine wA ?_|(refine wB ?_ ?_<;>intro h<;>first|exact wN h|subst (h:(_:Bool)=_)|skip)|(refine wQ ?_;clear hQ hR)|refine wC c0 ?_|refine wO c1 ?_|refine wC c2 ?_|(refine wI hH cd397 100 fun Q hQ hR=>?_;refine wq ?_;try refine wD ?_)|fail);all_goals clear hX)
  all_goals first|rfl|(exfalso;contradiction)|(exfalso;omega)
 ·rw[if_neg h1]
  have x0:=zcq (show (nth l k).secs.length-1<(nth l k).secs.length by omega)
  have x1:(((nth l k).secs.length:Int)-1).toNat=(nth l k).secs.length-1:=by omega
  have x2:(((nth l k).secs.map zaJ).take ((nth l k).secs.length-1))=((nth l k).secs.take ((nth l k).secs.length-1)).map zaJ:=List.map_take.symm;have yp:(l.map TrainD.c).flatten.set (k*8+1) (.sl 1 (((nth l k).secs.take ((nth l k).secs.length-1)).map zaJ))=((l.set k (zmv (nth l k))).map TrainD.c).flatten:=zhC (c:=TrainD.c) (l:=l) (k:=k) (i:=1) hk7 (by omega) _ (zmv (nth l k)) rfl
  have c3:=zel hH (nth (nth l k).secs ((nth l k).secs.length-1)) 0;unfold zbJ;unfold wld at *;dsimp only;refine wf hH cd387 fun w0 M Q hM hE hQ hR=>?_;refine wq ?_
  skip
  (have hX:=zA @fa (zA @x0 (zA @x1 (zA @x2 @yp)));(repeat' first|refine zaa kM fun K hK=>?_|exact wt|refine wA ?_|(refine wB ?_ ?_<;>intro h<;>first|exact wN h|subst (h:(_:Bool)=_)|skip)|(refine wQ ?_;clear hQ hR)|refine wC c0 ?_|refine wO c1 ?_|refine wC c2 ?_|(refine wI hH cd397 100 fun Q hQ hR=>?_;refine wq ?_;try refine wD ?_)|refine wC c3 ?_|fail);all_goals clear hX)
  all_goals first|rfl|(exfalso;contradiction)|(exfalso;omega)|(rw[zfl (l:=l.set k _) (n:=l.length) List.length_set];done)|(rw[zfl (l:=l.set k _) (n:=l.length) List.length_set];rfl)
theorem zpw {l:List TrainD} {i k:Nat} (hi:i<l.length):(l.take (i+1)).eraseIdx k=if i=k then (l.take i).eraseIdx k else (l.take i).eraseIdx k++[nth l i]:=by
 have hl:(l.take i).length=i:=by rw[List.length_take];omega
 rw[List.take_add_one,List.getElem?_eq_getElem hi,<-zay hi];by_cases h:i=k
 ·subst h
  rw[if_pos rfl,List.eraseIdx_append_of_length_le (by omega),hl,Nat.sub_self]
  simp[List.eraseIdx_of_length_le (by omega:(l.take i).length<=i)]
 ·rw[if_neg h]
  rcases Nat.lt_or_ge k i with h1|h1
  ·rw[List.eraseIdx_append_of_lt_length (by omega)];rfl
  ·rw[List.eraseIdx_append_of_length_le (by omega),hl,List.eraseIdx_of_length_le (by omega:(l.take i).length<=k)]
   have:k-i=(k-i-1)+1:=by omega
   rw[this];rfl
theorem zlK (hH:HasAll P inv) (p:Pln) (hp:Sm p) (s:State) (hs:SmS s) (l:List TrainD) (hl:l.length<=1000) (hls:∀ t∈l,t.secs.length<=1000) (hc:ckC p s l=0) (tr se ed:Int) {k:Nat} (hk7:k<l.length) (ha:zcB l tr=(k:Int)) :
  PC P inv 387 [.agg p.c,.agg s.c,.agg (wld l),.agg [.i .u8 5,.n tr,.n se,.n ed]] (·=zjP (zje p l k (nth l k))):=by
 have c0:=zbY hH p hp s hs l hl hls;have c1:=zcN hH l (by omega) hls
 have c2:=zfo hH l (by omega) tr
 have hst:=((zbH p s l).1 hc).1;have ht:=zcE.1 (((zbH p s l).1 hc).2.may _ (zac hk7));have ho:=zar hst;have hk8:=ht.one;have hf:=(ht.sec 0 hk8).1;obtain ⟨q,hq,q1,q2,q3⟩:=zh0 ho.sec hf;have hnx:=zkC hf (zdw ht.thru);obtain ⟨-,n1,n2,n3⟩:=nx_at hnx;rw[q2]at n2 n3;have c3:=zfS hH p.sections (nth (nth l k).secs 0) (Nat.le_trans hp.sec (by omega))
 rw[q1]at c3;rw[hc]at c0;rw[ha]at c2;have fa:zb2 (l.map TrainD.c).flatten (k*8) (some 8)=some (.agg (nth l k).c):=zcj (c:=TrainD.c) (l:=l) (k:=k) hk7 (by omega)
 have hk9:=hls _ (zac hk7);have x0:=zcq hk8;have c4:=zel hH (nth (nth l k).secs 0) 0;have hg:zlR p (nth l k)=if 1<(nth l k).secs.length\/¬(nth (nth p.sections q).ends (nth l k).ed.toNat).to=0 then 2 else 0:=by
  unfold zlR nxJ;rw[hnx,n3];simp
 unfold zjP zje;clear hc hst ho ht hf hnx n3;by_cases h1:1<(nth l k).secs.length
 ·rw[hg.trans (if_pos (.inl h1)),if_neg (by decide)]
  clear hg;unfold zbJ;unfold wld at *;dsimp only;refine wf hH cd387 fun w0 M Q hM hE hQ hR=>?_;refine wq ?_
  skip
  (have hX:=@fa;(repeat' first|refine zaa kM fun K hK=>?_|exact wt|refine wA ?_|(refine wB ?_ ?_<;>intro h<;>first|exact wN h|subst (h:(_:Bool)=_)|skip)|(refine wQ ?_;clear hQ hR)|refine wC c0 ?_|refine wO c1 ?_|refine wC c2 ?_|(refine wI hH cd397 100 fun Q hQ hR=>?_;refine wq ?_;try refine wD ?_)|fail);all_goals clear hX)
  all_goals first|rfl|(exfalso;contradiction)|(exfalso;omega)
 ·by_cases h2:(nth (nth p.sections q).ends (nth l k).ed.toNat).to=0
  ·rw[hg.trans (if_neg (by rintro (h|h);exact h1 h;exact h h2)),if_pos rfl]
   clear hg;unfold zbJ;unfold wld at *;dsimp only;refine wf hH cd387 fun w0 M Q hM hE hQ hR=>?_;refine wq ?_
   skip
   (have hX:=zA @fa (zA @x0 @h2);(repeat' first|refine zaa kM fun K hK=>?_|exact wt|refine wA ?_|(refine wB ?_ ?_<;>intro h<;>first|exact wN h|subst (h:(_:Bool)=_)|skip)|(refine wQ ?_;clear hQ hR)|refine wC c0 ?_|refine wO c1 ?_|refine wC c2 ?_|(refine wI hH cd397 100 fun Q hQ hR=>?_;refine wq ?_;try refine wD ?_)|refine wC c3 ?_|fail);all_goals clear hX)
   all_goals first|rfl|(exfalso;contradiction)|(exfalso;omega)|skip
   all_goals
    refine zde 104 0 105 8 rfl rfl (by omega) (by (refine wD ?_;try exact wt)) (by (refine wD ?_;try exact wt)) ?_
    (refine wD ?_;try exact wt)
    skip
    refine zaj (ι:=Nat×(List TrainD)) [3,5,8,9,10,11,13,14] (fun z=>[(14,.n z.1)]) (fun z=>[(104,.cells [.sm 105 (z.2.length*8) 0 z.2.length 8] true),(105,.cells (z.2.map TrainD.c).flatten (decide (0<z.2.length)))]) (fun z=>z.1) (l.length) (fun z=>(z.2=(l.take z.1).eraseIdx k)/\(z.2.length<=z.1)) (0,[]) ?_;rintro ⟨i,xs⟩ ⟨hk,hx,hxl⟩;(try dsimp only at hk hx hxl |-);rcases Nat.lt_or_ge i l.length with hlt|hge
    ·have hi9:i<l.length:=by assumption
     have fi:zb2 (l.map TrainD.c).flatten (i*8) (some 8)=some (.agg (nth l i).c):=zcj (c:=TrainD.c) (l:=l) (k:=i) hi9 (by omega)
     have hxs:=zpw (k:=k) hi9;by_cases hik:i=k
     ·rw[if_pos hik]at hxs
      (have hX:=@fi;(repeat' first|refine zaa kM fun K hK=>?_|exact wt|refine wA ?_|(refine wB ?_ ?_<;>intro h<;>first|exact wN h|subst (h:(_:Bool)=_)|skip)|(refine wQ ?_;clear hQ hR)|fail);all_goals clear hX)
      all_goals first|(exfalso;contradiction)|(exfalso;omega)|skip
      all_goals exact ⟨(i+1,xs),by dsimp only;omega,⟨by dsimp only;omega,by dsimp only;rw[hxs];exact hx,by dsimp only;omega⟩,by dsimp only;omega,rfl,rfl⟩
     ·rw[if_neg hik,<-hx]at hxs
      (have hX:=@fi;(repeat' first|refine zaa kM fun K hK=>?_|exact wt|refine wA ?_|(refine wB ?_ ?_<;>intro h<;>first|exact wN h|subst (h:(_:Bool)=_)|skip)|(refine wQ ?_;clear hQ hR)|fail);all_goals clear hX)
      all_goals first|(exfalso;contradiction)|(exfalso;omega)|skip
      all_goals refine ⟨(i+1,xs++[nth l i]),by dsimp only;omega,⟨by dsimp only;omega,hxs.symm,by dsimp only;simp;omega⟩,by dsimp only;omega,by dsimp only;simp,by dsimp only;simp[TrainD.c]⟩
    ·obtain rfl:i=l.length:=by omega
     rw[List.take_length]at hx;(have hX:=@x0;(repeat' first|refine zaa kM fun K hK=>?_|exact wt|refine wA ?_|(refine wB ?_ ?_<;>intro h<;>first|exact wN h|subst (h:(_:Bool)=_)|skip)|(refine wQ ?_;clear hQ hR)|refine wC c4 ?_|fail);all_goals clear hX)
     all_goals first|(rw[hx];rfl)
  ·rw[hg.trans (if_pos (.inr h2)),if_neg (by decide)]
   clear hg;unfold zbJ;unfold wld at *;dsimp only;refine wf hH cd387 fun w0 M Q hM hE hQ hR=>?_;refine wq ?_
   skip
   (have hX:=zA @fa @x0;(repeat' first|refine zaa kM fun K hK=>?_|exact wt|refine wA ?_|(refine wB ?_ ?_<;>intro h<;>first|exact wN h|subst (h:(_:Bool)=_)|skip)|(refine wQ ?_;clear hQ hR)|refine wC c0 ?_|refine wO c1 ?_|refine wC c2 ?_|(refine wI hH cd397 100 fun Q hQ hR=>?_;refine wq ?_;try refine wD ?_)|refine wC c3 ?_|fail);all_goals clear hX)
   all_goals first|rfl|(exfalso;contradiction)|(exfalso;omega)
theorem putX (hH:HasAll P inv) (hI:HasIds P inv) (hIn:HasIns P inv) (p:Pln) (hp:Sm p) (s:State) (hs:SmS s) (l:List TrainD) (hls:∀ t∈l,t.secs.length<=1000) (hc:ckC p s l=0) (tr se ed:Int) {S:Section} (hk:PutK p s l tr se ed S) (hM:∀ b,M b->b<w0.heap.size) :
  AC P inv w0 M 0 210 [.agg p.c,.agg s.c,.agg (wld l),.agg [.i .u8 1,.n tr,.n se,.n ed]] [] (XR0 (zfe l (znY ⟨1,tr,se,ed⟩ S)) [(S.id,1)]):=by
 cases l with
 |nil=>exact putA0 hH hI hIn p hp s hs hc tr se ed hk hM
 |cons t l=>exact putA hH hI hIn p hp s hs _ hls hc tr se ed hk (by simp) hM
theorem zpc (hH:HasAll P inv) (hI:HasIds P inv) (hIn:HasIns P inv) (p:Pln) (hp:Sm p) (s:State) (hs:SmS s) (l:List TrainD) (hl:l.length<=1000) (hls:∀ t∈l,t.secs.length<=1000) (hc:ckC p s l=0) (tr se ed:Int) :
  PC P inv 210 [.agg p.c,.agg s.c,.agg (wld l),.agg [.i .u8 1,.n tr,.n se,.n ed]] (·=putF p s l ⟨1,tr,se,ed⟩):=by
 rw[putO_eq];cases h:zcu p s l ⟨1,tr,se,ed⟩ with
 |some X=>exact putNo_pc hH hI p hp s hs l hl hls hc tr se ed X h
 |none=>exact xr0_pc fun w0 M hM=>putX hH hI hIn p hp s hs l hls hc tr se ed (zqF h) hM
theorem putR_ok {p:Pln} {s:State} {l:List TrainD} {m:MoveD} (h:(zpK p s l m).1=0):PutK p s l m.tr m.sec m.ed (zaz p.sections m.sec).1/\(zpK p s l m).2=(zfe l (znY m (zaz p.sections m.sec).1),[((zaz p.sections m.sec).1.id,1)]):=by
 unfold zpK at h |-
 split at h
 ·exact absurd h (by decide)
 rename_i h1;split at h
 ·exact absurd h (by decide)
 rename_i h2;split at h
 ·rename_i h3
  split at h
  ·exact absurd h (by decide)
  rename_i h4;split at h
  ·exact absurd h (by decide)
  rename_i h5;rw[if_neg h1,if_neg h2,if_pos h3,if_neg h4,if_neg h5];refine ⟨⟨by omega,by omega,by omega,by omega,Prod.ext rfl h3,by omega,by omega,by omega, ?_, ?_, ?_⟩,rfl⟩
  ·exact Decidable.byContradiction fun h=>h5 (.inl h)
  ·exact eq_false_of_ne_true fun h=>h5 (.inr (.inl h))
  ·exact Decidable.byContradiction fun h=>h5 (.inr (.inr h))
 ·exact absurd h (by assumption)
theorem headR_ok {p:Pln} {s:State} {l:List TrainD} {k:Nat} {t:TrainD} (h:(zhq p s l k t).1=0):¬4<=t.secs.length/\(goT p s t).2.2=true/\(nxJ p t).2=0/\¬(nxJ p t).1.to=0/\(nxS p t).2=0/\(nxE p s t).2=0/\(zhq p s l k t).2=(l.set k (zfr p s t),[((nxS p t).1.id,1)]):=by
 unfold zhq at h |-
 split at h
 ·exact absurd h (by decide)
 rename_i h1;split at h
 ·exact absurd h (by decide)
 rename_i h2;split at h
 ·rename_i h3
  split at h
  ·rename_i h4
   rw[if_neg h1,if_neg h2,if_pos h3,if_pos h4];exact ⟨h1,eq_true_of_ne_false fun h=>h2 (.inl h),Decidable.byContradiction fun h=>h2 (.inr (.inl h)),fun h=>h2 (.inr (.inr h)),h3,h4,rfl⟩
  ·exact absurd h (by decide)
 ·exact absurd h (by assumption)
theorem moveA (hH:HasAll P inv) (hI:HasIds P inv) (hIn:HasIns P inv) (p:Pln) (hp:Sm p) (s:State) (hs:SmS s) (l:List TrainD) (hl:l.length<=1000) (hls:∀ t∈l,t.secs.length<=1000) (m:MoveD) (hk:0<=m.kind/\m.kind<=255) (h:(mvR p s l m).1=0) (hM:∀ b,M b->b<w0.heap.size) :
  AC P inv w0 M 0 210 [.agg p.c,.agg s.c,.agg (wld l),.agg m.c] [] (XR0 (mvR p s l m).2.1 (mvR p s l m).2.2):=by
 obtain ⟨kd,tr,se,ed⟩:=m;dsimp only at hk;unfold MoveD.c;unfold mvR at h |-
 dsimp only at h |-
 by_cases hc:ckC p s l=0
 ·rw[if_pos hc]at h |-
  by_cases h1:kd=1
  ·subst h1
   rw[if_pos rfl]at h |-
   obtain ⟨h2,h3⟩:=putR_ok h;rw[h3];exact putX hH hI hIn p hp s hs l hls hc tr se ed h2 hM
  rw[if_neg h1]at h |-
  rcases zb4 l tr with ⟨e,_⟩|⟨k,hk7,e,hid⟩
  ·have h9:∀ f,zgC p s l tr f=(6,[],[]):=fun f=>by unfold zgC;rw[if_pos (by omega)]
   rw[h9,h9,h9,h9]at h;exfalso;revert h
   repeat' split
   all_goals decide
  have h9:∀ f,zgC p s l tr f=f k (nth l k):=fun f=>by unfold zgC;rw[if_neg (by omega),e,Int.toNat_natCast]
  rw[h9,h9,h9,h9]at h |-
  by_cases h2:kd=2
  ·subst h2
   rw[if_pos rfl]at h |-
   obtain ⟨b1,b2,b3,b4,b5,b6,b7⟩:=headR_ok h;rw[b7];exact headA hH hI hIn p hp s hs l hl hls hc tr se ed hk7 e b1 b2 b3 b4 b5 b6 hM
  rw[if_neg h2]at h |-
  by_cases h3:kd=3
  ·subst h3
   rw[if_pos rfl]at h |-
   unfold zja at h |-
   split at h
   ·exact absurd h (by decide)
   rename_i h4;rw[if_neg h4];exact tailA hH hI p hp s hs l hl hls hc tr se ed hk7 e h4 hM
  rw[if_neg h3]at h |-
  by_cases h4:kd=4
  ·subst h4
   rw[if_pos rfl]at h |-
   unfold zi9 at h |-
   split at h
   ·exact absurd h (by decide)
   rename_i h5;rw[if_neg h5];exact turnA hH hI p hp s hs l hl hls hc tr se ed hk7 e h5 hM
  rw[if_neg h4]at h |-
  by_cases h5:kd=5
  ·subst h5
   rw[if_pos rfl]at h |-
   unfold zje at h |-
   split at h
   ·rename_i h6
    rw[if_pos h6];exact goneA hH hI p hp s hs l hl hls hc tr se ed hk7 e h6 hid hM
   ·exact absurd h (by decide)
  rw[if_neg h5]at h;exact absurd h (by decide)
 ·rw[if_neg hc]at h
  exact absurd h hc
end Go.Lev
