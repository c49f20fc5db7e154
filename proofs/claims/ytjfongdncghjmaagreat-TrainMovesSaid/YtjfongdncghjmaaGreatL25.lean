/-
  Contracts of functions. Conditions: those that each theorem names.
-/
import Derived.Test.YtjfongdncghjmaaGreatL16
import Derived.Test.YtjfongdncghjmaaGreatL18
import Derived.Test.YtjfongdncghjmaaGreatL21
set_option linter.unusedSimpArgs false
set_option linter.unusedVariables false
set_option linter.unusedSectionVars false
namespace Go.Lev
open Go.Eng
set_option maxRecDepth 10000
set_option maxHeartbeats 8000000
variable {P:Program} {inv:Nat->Option Nat} {w0:World} {M:Nat->Prop}
theorem zq6 (hH:HasAll P inv) (p:Pln) (hp:Sm p) (s:State) (hs:SmS s) (hst:zav p s=0) (l:List TrainD) (hl:l.length<=1000) (hls:∀ t∈l,t.secs.length<=1000):PC P inv 398 [.agg p.c,.agg s.c,.agg (wld l)] (·=.b (mF p s l)):=by
 have c0:=fun t=>zpi hH p hp s hs hst t
 change ∀ t,PC P inv 403 [.agg p.c,.agg s.c,.agg t.c] (·=.b (mtB p s t)) at c0;have c1:=fun (m:List Int) (h:m.length<=1000000000) n=>zrA hH m h n
 obtain ⟨X,hF⟩:∃ X,mF p s l=X:=⟨_,rfl⟩;rw[hF];unfold mF mT mK at hF;unfold wld;clear hst;refine wf hH cd398 fun w0 M Q hM hE hQ hR=>?_;refine wq ?_
 skip
 (repeat' first|refine zaa ku fun K hK=>?_|exact wt|refine wA ?_|(refine wE ?_ ?_<;>intro h0 h<;>first|exact wN h|((try replace hF:=wX hF);clear h0;first|exact hF.elim|((try subst (h:(_:Bool)=_));try replace hF:=wX hF)))|(refine wQ ?_;clear hQ hR hE hM)|fail)
 refine AWp.empty 7 3 1 rfl (Nat.zero_le _) (by (refine wD ?_;try exact wt)) (by (refine wD ?_;try exact wt)) ?_
 (refine wD ?_;try exact wt)
 refine zaI hF fun Bd Ed hBd hEd hF=>?_
 refine zaj (ι:=Nat×(List Int)) [3,4,5,6,7,8] (fun z=>[(7,.sm 3 z.2.length 0 z.2.length 1),(8,.n z.1)]) (fun z=>[(3,.cells (z.2.map zaJ).flatten (decide (0<z.2.length)))]) (fun z=>z.1) (l.length) (fun z=>(zaZ Bd Ed (l.length-z.1) z.1 z.2=X)/\(z.2.length<=1000*z.1)) (0,[]) ?_;rintro ⟨i,m⟩ ⟨hk,hF,hm⟩;(try dsimp only at hk hF hm |-);rcases Nat.lt_or_ge i l.length with hlt|hge
 ·rw[zas hBd hlt]at hF;(try dsimp only at hF)
  have hi9:i<l.length:=by assumption
  have x2:((i:Int)-1).toNat=i-1:=by omega
  have d0:=c0 (nth l i);have hk9:=hls _ (zac hi9);cases hmb:mtB p s (nth l i)<;>rw[hmb]at d0 hF
  ·(have hX:=@x2;(repeat' first|refine zaa ku fun K hK=>?_|exact wt|refine wA ?_|(refine wE ?_ ?_<;>intro h0 h<;>first|exact wN h|((try replace hF:=wX hF);clear h0;first|exact hF.elim|((try subst (h:(_:Bool)=_));try replace hF:=wX hF)))|(refine wQ ?_;clear hQ hR hE hM)|refine wC d0 ?_|fail);all_goals clear hX)
   all_goals first|(exfalso;contradiction)|(exfalso;omega)|exact hF|exact congrArg AV.b hF
  ·by_cases h0:0<i
   all_goals
    (have hX:=@x2;(repeat' first|refine zaa ku fun K hK=>?_|exact wt|refine wA ?_|(refine wE ?_ ?_<;>intro h0 h<;>first|exact wN h|((try replace hF:=wX hF);clear h0;first|exact hF.elim|((try subst (h:(_:Bool)=_));try replace hF:=wX hF)))|(refine wQ ?_;clear hQ hR hE hM)|refine wC d0 ?_|fail);all_goals clear hX)
    all_goals first|(exfalso;contradiction)|(exfalso;omega)|exact hF|exact congrArg AV.b hF|skip
    all_goals
     refine zaI hF fun Bd2 Ed2 hBd2 hEd2 hF=>?_
     refine zaj (ι:=Nat×(List Int)) [3,4,5,6,7,8,9,10] (fun z=>[(7,.sm 3 z.2.length 0 z.2.length 1),(10,.n z.1)]) (fun z=>[(3,.cells (z.2.map zaJ).flatten (decide (0<z.2.length)))]) (fun z=>z.1) ((nth l i).secs.length) (fun z=>(zaZ Bd2 Ed2 ((nth l i).secs.length-z.1) z.1 z.2=X)/\(z.2.length<=1000*i+z.1)) (0,m) ?_;rintro ⟨k,m2⟩ ⟨hk,hF,hm2⟩;(try dsimp only at hk hF hm2 |-);rcases Nat.lt_or_ge k (nth l i).secs.length with hlt|hge
     ·rw[zas hBd2 hlt]at hF;(try dsimp only at hF)
      have d1:=c1 m2 (by omega) (nth (nth l i).secs k)
      have x1:=zcq hlt;(have hX:=@x1;(repeat' first|refine zaa ku fun K hK=>?_|exact wt|refine wA ?_|(refine wE ?_ ?_<;>intro h0 h<;>first|exact wN h|((try replace hF:=wX hF);clear h0;first|exact hF.elim|((try subst (h:(_:Bool)=_));try replace hF:=wX hF)))|(refine wQ ?_;clear hQ hR hE hM)|refine wS d1 ?_|fail);all_goals clear hX)
      all_goals first|(exfalso;contradiction)|(exfalso;omega)|exact hF|exact congrArg AV.b hF|skip
      all_goals refine ⟨(k+1,m2++[nth (nth l i).secs k]),by dsimp only;omega,⟨by dsimp only;omega,hF,by dsimp only;simp;omega⟩,⟨by dsimp only;simp,by dsimp only;omega⟩,by dsimp only;simp[zaJ]⟩
     ·rw[zaH hge,hEd2]at hF;(try dsimp only at hF)
      (repeat' first|refine zaa ku fun K hK=>?_|exact wt|refine wA ?_|(refine wE ?_ ?_<;>intro h0 h<;>first|exact wN h|((try replace hF:=wX hF);clear h0;first|exact hF.elim|((try subst (h:(_:Bool)=_));try replace hF:=wX hF)))|(refine wQ ?_;clear hQ hR hE hM)|fail)
      all_goals refine ⟨(i+1,m2),by dsimp only;omega,⟨by dsimp only;omega,hF,by dsimp only;omega⟩,⟨by dsimp only,by dsimp only;omega⟩,by dsimp only⟩
 ·rw[zaH hge,hEd]at hF;(try dsimp only at hF)
  (repeat' first|refine zaa ku fun K hK=>?_|exact wt|refine wA ?_|(refine wE ?_ ?_<;>intro h0 h<;>first|exact wN h|((try replace hF:=wX hF);clear h0;first|exact hF.elim|((try subst (h:(_:Bool)=_));try replace hF:=wX hF)))|(refine wQ ?_;clear hQ hR hE hM)|fail)
  all_goals first|exact hF|exact congrArg AV.b hF|(exfalso;contradiction)
theorem zbY (hH:HasAll P inv) (p:Pln) (hp:Sm p) (s:State) (hs:SmS s) (l:List TrainD) (hl:l.length<=1000) (hls:∀ t∈l,t.secs.length<=1000):PC P inv 388 [.agg p.c,.agg s.c,.agg (wld l)] (·=.n (ckC p s l)):=by
 have c0:=znm hH p hp s hs;by_cases hst:zav p s=0
 ·have c1:=zq6 hH p hp s hs hst l hl hls
  have e:ckC p s l=ckF p s l:=if_pos hst;rw[mF_eq]at c1;rw[hst]at c0;rw[e];have h2:=ckF_or p s l;unfold wld at *;clear e hst;by_cases h3:ckF p s l=0
  ·rw[decide_eq_true h3]at c1
   rw[h3];clear h3 h2;refine wf hH cd388 fun w0 M Q hM hE hQ hR=>?_;refine wq ?_
   (repeat' first|refine zaa ym fun K hK=>?_|exact wt|refine wA ?_|(refine wB ?_ ?_<;>intro h<;>first|exact wN h|subst (h:(_:Bool)=_)|skip)|(refine wQ ?_;clear hQ hR hE hM)|refine wC c0 ?_|refine wC c1 ?_|fail)
   all_goals first|rfl|(exfalso;contradiction)
  ·rw[decide_eq_false h3]at c1
   rw[show ckF p s l=8 by omega]
   clear h3 h2;refine wf hH cd388 fun w0 M Q hM hE hQ hR=>?_;refine wq ?_
   (repeat' first|refine zaa ym fun K hK=>?_|exact wt|refine wA ?_|(refine wB ?_ ?_<;>intro h<;>first|exact wN h|subst (h:(_:Bool)=_)|skip)|(refine wQ ?_;clear hQ hR hE hM)|refine wC c0 ?_|refine wC c1 ?_|fail)
   all_goals first|rfl|(exfalso;contradiction)
 ·have e:ckC p s l=zav p s:=if_neg hst
  rw[e];clear e;unfold wld at *;generalize zav p s=q at *;refine wf hH cd388 fun w0 M Q hM hE hQ hR=>?_;refine wq ?_
  (repeat' first|refine zaa ym fun K hK=>?_|exact wt|refine wA ?_|(refine wB ?_ ?_<;>intro h<;>first|exact wN h|subst (h:(_:Bool)=_)|skip)|(refine wQ ?_;clear hQ hR hE hM)|refine wC c0 ?_|fail)
  all_goals first|rfl|(exfalso;contradiction)
theorem frz386 {n N:Nat} {φ:AF} {σ:AS} {Q:Exit->AF->AS->Prop} {e:AVal} {ops:List GOp} (hM:∀ b,M b->b<w0.heap.size) (cs:List AV) (r:Bool) (hl:zah σ 5=some (.cells cs r)) (hb:zaO cs=true)
  (h:AWp P inv w0 M N n (.reg ((none,.set 24 e)::ops)) Q (frF 5 cs φ) (frS 5 cs (zfp σ 5))):AWp P inv w0 M N n (.reg ((none,.set 24 e)::ops)) Q φ σ:=zny hM 5 cs r hl hb h
theorem zcN (hH:HasAll P inv) (l:List TrainD) (h1:l.length<=1000) (h2:∀ t∈l,t.secs.length<=1000):PO P inv 386 [.agg (wld l)] (.agg [.sm 3 (l.length*8) 0 l.length 8]) [(3,.cells (l.map TrainD.c).flatten (decide (0<l.length)))]:=by
 unfold wld;refine PO.fn hH cd386 fun w0 M Q hM hE hQ hR=>?_;dsimp only[cd386]at hQ |-;refine wq ?_
 (repeat' first|refine zaa yn fun K hK=>?_|exact wt|refine wA ?_|(refine wB ?_ ?_<;>intro h<;>first|exact wN h|subst (h:(_:Bool)=_)|skip)|(refine wR ?_;clear hQ hR hE hM)|fail)
 refine zde 2 0 3 8 rfl rfl (by omega) (by (refine wD ?_;try exact wt)) (by (refine wD ?_;try exact wt)) ?_
 (refine wD ?_;try exact wt)
 refine zaj (ι:=Nat) [1,2,3,4] (fun z=>[(4,.n z)]) (fun z=>[(2,.cells [.sm 3 (z*8) 0 z 8] true),(3,.cells ((l.take z).map TrainD.c).flatten (decide (0<z)))]) (fun z=>z) (l.length) (fun _=>True) (0) ?_;rintro k ⟨hk,-⟩;(try dsimp only at hk |-);rcases Nat.lt_or_ge k l.length with hlt|hge
 ·have hk9:k<l.length:=by assumption
  have hs9:=h2 _ (zac hk9);have fa:zb2 (l.map TrainD.c).flatten (k*8) (some 8)=some (.agg (nth l k).c):=zcj (c:=TrainD.c) (l:=l) (k:=k) hk9 (by omega)
  have hch:zbd 1 (nth l k).secs.length ((nth l k).secs.map zaJ).flatten=(nth l k).secs.map zaJ:=zbi (c:=zaJ) (nth l k).secs;have hfl:((nth l k).secs.map zaJ).flatten.length=(nth l k).secs.length:=by rw[zbo (c:=zaJ),Nat.mul_one]
  have ht:((l.take k).map TrainD.c).flatten++[.n (nth l k).id,.sl 1 ((nth l k).secs.map zaJ),.n (nth l k).fr,.n (nth l k).ed,.n (nth l k).rt,.n (nth l k).pl,.n (nth l k).may,.n (nth l k).nx]=((l.take (k+1)).map TrainD.c).flatten:=by
   rw[List.take_add_one,List.getElem?_eq_getElem hk9,<-zay hk9];simp[TrainD.c]
  have htl:(l.take k).length=k:=by rw[List.length_take];omega
  (have hX:=zA @fa (zA @ht @htl);(repeat' first|(refine frz386 hM _ _ rfl ?_ ?_;(focus exact zcT (c:=zaJ) _);try simp only[frF,frS,frO,frV,frL,zfp,hfl,hch,zrW,and_self,if_true,if_false,false_and,reduceIte,Nat.reduceEqDiff])|refine zaa yn fun K hK=>?_|exact wt|refine wA ?_|(refine wB ?_ ?_<;>intro h<;>first|exact wN h|subst (h:(_:Bool)=_)|skip)|(refine wR ?_;clear hQ hR hE hM)|fail);all_goals clear hX)
  all_goals first|(exfalso;contradiction)|exact ⟨k+1,by omega,by omega,by omega,rfl,by rw[decide_eq_true (show 0<k+1 by omega)]⟩
 ·obtain rfl:k=l.length:=by omega
  rw[List.take_length]
  (repeat' first|refine zaa yn fun K hK=>?_|exact wt|refine wA ?_|(refine wB ?_ ?_<;>intro h<;>first|exact wN h|subst (h:(_:Bool)=_)|skip)|(refine wR ?_;clear hQ hR hE hM)|fail)
  all_goals first|(exfalso;contradiction)|skip
  all_goals (left;constructor)
  all_goals (refine wD ?_;try exact wt)
theorem zgN (hH:HasAll P inv) (a b:List TrainD) (hl:a.length<=1000000) (hs:∀ t∈b,t.secs.length<=1000):PC P inv 389 [.agg (wld a),.agg (wld b)] (·=.b (decide (a=b))):=by
 have c0:=fun k (hk:k<b.length)=>zoY hH (nth a k) (nth b k) (Nat.le_trans (hs _ (zac hk)) (by omega))
 unfold wld;refine wf hH cd389 fun w0 M Q hM hE hQ hR=>?_;refine wq ?_
 (repeat' first|refine zaa yR fun K hK=>?_|exact wt|refine wA ?_|(refine wB ?_ ?_<;>intro h<;>first|exact wN h|subst (h:(_:Bool)=_)|skip)|(refine wQ ?_;clear hQ hR hE hM)|fail)
 ·have:¬a=b:=fun e=>h (by rw[e])
  simp[this]
 have hab:a.length=b.length:=by omega
 refine zaj (ι:=Nat) [2,3,4,5] (fun z=>[(5,.n z)]) (fun _=>[]) (fun z=>z) (a.length) (fun z=>(a.drop z=b.drop z↔a=b)) (0) ?_;rintro k ⟨hk,hg⟩;(try dsimp only at hk hg |-);rcases Nat.lt_or_ge k a.length with hlt|hge
 ·have d0:=c0 k (by omega)
  have hkb:k<b.length:=by omega
  rw[zae hlt,zae hkb,List.cons.injEq]at hg;by_cases he:nth a k=nth b k
  ·rw[decide_eq_true he]at d0
   (repeat' first|refine zaa yR fun K hK=>?_|exact wt|refine wA ?_|(refine wB ?_ ?_<;>intro h<;>first|exact wN h|subst (h:(_:Bool)=_)|skip)|(refine wQ ?_;clear hQ hR hE hM)|refine wC d0 ?_|fail)
   all_goals first|(exfalso;contradiction)|skip
   all_goals exact ⟨k+1,by omega,⟨by omega,by rw[<-hg];simp[he]⟩,(by (try dsimp only);(first|omega|(simp;done)|(simp;omega)))⟩
  ·rw[decide_eq_false he]at d0
   have hne:¬a=b:=fun e=>he (hg.2 e).1
   (repeat' first|refine zaa yR fun K hK=>?_|exact wt|refine wA ?_|(refine wB ?_ ?_<;>intro h<;>first|exact wN h|subst (h:(_:Bool)=_)|skip)|(refine wQ ?_;clear hQ hR hE hM)|refine wC d0 ?_|fail)
   all_goals first|(exfalso;contradiction)|(rw[decide_eq_false hne];done)
 ·rw[List.drop_eq_nil_of_le hge,List.drop_eq_nil_of_le (by omega)]at hg
  have:a=b:=hg.1 rfl
  (repeat' first|refine zaa yR fun K hK=>?_|exact wt|refine wA ?_|(refine wB ?_ ?_<;>intro h<;>first|exact wN h|subst (h:(_:Bool)=_)|skip)|(refine wQ ?_;clear hQ hR hE hM)|fail)
  all_goals first|(rw[decide_eq_true this];done)|(simp[this];done)
theorem zjS (hH:HasAll P inv) (a b:List (Int×Int)) (hl:a.length<=1000000):PC P inv 390 [.sl 4 (a.map zla),.sl 4 (b.map zla)] (·=.b (decide (a=b))):=by
 have e0:∀ (l:List (Int×Int)) k,k<l.length->(l.map zla)[k]?=some [.i .u8 1,.n (nth l k).1,.n (nth l k).2,.s0 1]:=fun l k hk=>by rw[List.getElem?_map,List.getElem?_eq_getElem hk,zay hk];rfl
 refine wf hH cd390 fun w0 M Q hM hE hQ hR=>?_;refine wq ?_
 (repeat' first|refine zaa yS fun K hK=>?_|exact wt|refine wA ?_|(refine wB ?_ ?_<;>intro h<;>first|exact wN h|subst (h:(_:Bool)=_)|skip)|(refine wQ ?_;clear hQ hR hE hM)|fail)
 ·have:¬a=b:=fun e=>h (by rw[e])
  simp[this]
 have hab:a.length=b.length:=by omega
 refine zaj (ι:=Nat) [0,1,4,5] (fun z=>[(5,.n z)]) (fun _=>[]) (fun z=>z) (a.length) (fun z=>(a.drop z=b.drop z↔a=b)) (0) ?_;rintro k ⟨hk,hg⟩;(try dsimp only at hk hg |-);rcases Nat.lt_or_ge k a.length with hlt|hge
 ·have hkb:k<b.length:=by omega
  have ea:=e0 a k hlt;have eb:=e0 b k hkb;rw[zae hlt,zae hkb,List.cons.injEq]at hg;by_cases he:nth a k=nth b k
  ·rw[he]at ea
   (have hX:=zA @ea @eb;(repeat' first|refine zaa yS fun K hK=>?_|exact wt|refine wA ?_|(refine wB ?_ ?_<;>intro h<;>first|exact wN h|subst (h:(_:Bool)=_)|skip)|(refine wQ ?_;clear hQ hR hE hM)|fail);all_goals clear hX)
   all_goals first|(exfalso;contradiction)|skip
   all_goals exact ⟨k+1,by omega,⟨by omega,by rw[<-hg];simp[he]⟩,(by (try dsimp only);(first|omega|(simp;done)|(simp;omega)))⟩
  ·have hne:¬a=b:=fun e=>he (hg.2 e).1
   (have hX:=zA @ea @eb;(repeat' first|refine zaa yS fun K hK=>?_|exact wt|refine wA ?_|(refine wB ?_ ?_<;>intro h<;>first|exact wN h|subst (h:(_:Bool)=_)|skip)|(refine wQ ?_;clear hQ hR hE hM)|fail);all_goals clear hX)
   all_goals first|(rw[decide_eq_false hne];done)|(exfalso;contradiction)|(exfalso;exact he (Prod.ext (by assumption) (by assumption)))
 ·rw[List.drop_eq_nil_of_le hge,List.drop_eq_nil_of_le (by omega)]at hg
  have:a=b:=hg.1 rfl
  (repeat' first|refine zaa yS fun K hK=>?_|exact wt|refine wA ?_|(refine wB ?_ ?_<;>intro h<;>first|exact wN h|subst (h:(_:Bool)=_)|skip)|(refine wQ ?_;clear hQ hR hE hM)|fail)
  all_goals first|(rw[decide_eq_true this];done)|(simp[this];done)
end Go.Lev
