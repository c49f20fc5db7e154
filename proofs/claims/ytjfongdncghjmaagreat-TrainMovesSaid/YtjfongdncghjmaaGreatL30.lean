/-
  Contracts of functions. Conditions: those that each theorem names.
-/
import Derived.Test.YtjfongdncghjmaaGreatL25
import Derived.Test.YtjfongdncghjmaaGreatL27
set_option linter.unusedSimpArgs false
set_option linter.unusedVariables false
set_option linter.unusedSectionVars false
namespace Go.Lev
open Go.Eng
set_option maxRecDepth 10000
set_option maxHeartbeats 8000000
variable {P:Program} {inv:Nat->Option Nat} {w0:World} {M:Nat->Prop}
theorem std_in (l:List TrainD) (n:Int):zp4 l n=l.any fun t=>inB t.secs n:=rfl
theorem zmX (hH:HasAll P inv) (p:Pln) (hp:Sm p) (s:State) (hs:SmS s) (l:List TrainD) (hl:l.length<=1000) (hls:∀ t∈l,t.secs.length<=1000) (hc:ckC p s l=0) (tr se ed:Int) :
  PC P inv 387 [.agg p.c,.agg s.c,.agg (wld l),.agg [.i .u8 1,.n tr,.n se,.n ed]] (·=zjP (zpK p s l ⟨1,tr,se,ed⟩)):=by
 have c0:=zbY hH p hp s hs l hl hls;have c1:=zcN hH l (by omega) hls
 have c2:=zfo hH l (by omega) tr
 have hst:=((zbH p s l).1 hc).1;have hpa:=(zam hst).2.1;have ho:=zar hst;have c3:=zfS hH p.sections se (Nat.le_trans hp.sec (by omega))
 rw[hc]at c0;have hat:zcB l tr<l.length:=by
  rcases zb4 l tr with ⟨e,_⟩|⟨k,hk,e,_⟩<;>rw[e]<;>omega
 unfold zjP zpK;by_cases h8:8<=l.length
 ·rw[if_pos h8]
  clear hc hst ho hpa;unfold zbJ;unfold wld at *;dsimp only;refine wf hH cd387 fun w0 M Q hM hE hQ hR=>?_;refine wq ?_
  skip
  (repeat' first|refine zaa kE fun K hK=>?_|exact wt|refine wA ?_|(refine wB ?_ ?_<;>intro h<;>first|exact wN h|subst (h:(_:Bool)=_)|skip)|(refine wQ ?_;clear hQ hR)|refine wC c0 ?_|refine wO c1 ?_|refine wC c2 ?_|(refine wI hH cd395 100 fun Q hQ hR=>?_;refine wq ?_;try refine wD ?_)|fail)
  all_goals first|rfl|(exfalso;contradiction)|(exfalso;omega)
 rw[if_neg h8];dsimp only;have c2':PC P inv 391 [.agg [.sl 8 (l.map TrainD.c)],.n tr] (·=.n (zcB l tr)):=c2;by_cases h9:tr<1\/99<tr\/0<=zcB l tr
 ·rw[if_pos h9]
  clear hc hst ho hpa;unfold zbJ;unfold wld at *;dsimp only;refine wf hH cd387 fun w0 M Q hM hE hQ hR=>?_;refine wq ?_
  skip
  (repeat' first|refine zaa kE fun K hK=>?_|exact wt|refine wA ?_|(refine wB ?_ ?_<;>intro h<;>first|exact wN h|subst (h:(_:Bool)=_)|skip)|(refine wQ ?_;clear hQ hR)|refine wC c0 ?_|refine wO c1 ?_|refine wC c2 ?_|refine wS c2' ?_|(refine wI hH cd395 100 fun Q hQ hR=>?_;refine wq ?_;try refine wD ?_)|fail)
  all_goals first|rfl|(exfalso;contradiction)|(exfalso;omega)
 rw[if_neg h9];by_cases hf:(zaz p.sections se).2=0
 ·rw[if_pos hf]
  obtain ⟨q,hq,q1,q2,q3⟩:=zh0 ho.sec hf;have hS:=zaP ho.sec _ (zac hq);obtain ⟨hq2,hio⟩:=zrk ho hpa hq q3;rw[q2,q3,hio];rw[q1]at c3;have hpt0:=hS.2.2.1;by_cases h7:0<(nth p.sections q).pt\/ed<0\/1<ed
  ·rw[if_pos h7]
   clear hc hst ho hpa hS;unfold zbJ;unfold wld at *;dsimp only;refine wf hH cd387 fun w0 M Q hM hE hQ hR=>?_;refine wq ?_
   skip
   (repeat' first|refine zaa kE fun K hK=>?_|exact wt|refine wA ?_|(refine wB ?_ ?_<;>intro h<;>first|exact wN h|subst (h:(_:Bool)=_)|skip)|(refine wQ ?_;clear hQ hR)|refine wC c0 ?_|refine wO c1 ?_|refine wC c2 ?_|refine wS c2' ?_|(refine wI hH cd395 100 fun Q hQ hR=>?_;refine wq ?_;try refine wD ?_)|refine wC c3 ?_|fail)
   all_goals first|rfl|(exfalso;contradiction)|(exfalso;omega)
  rw[if_neg h7];have hse:1<=se:=by rw[<-q3];exact (((zeJ _).1 ho.sec).one _ (zac hq)).1
  have c4:=of15_ref hH p hp s hs hst se (by omega)
  have c5:=fun k (hk:k<l.length)=>zrA hH (nth l k).secs (Nat.le_trans (hls _ (zac hk)) (by omega)) se
  have c6:=zel hH se 1;have hne:∀ x∈l,x.id≠tr:=at31_neg.1 (by omega)
  have hins:=zrt (znY ⟨1,tr,se,ed⟩ (nth p.sections q)) l hne;have hpT:znY ⟨1,tr,se,ed⟩ (nth p.sections q)=⟨tr,[se],1-ed,ed,0,0,0,0⟩:=by unfold znY;rw[q3]
  rw[hpT]at hins |-
  have hsd:=std_in l se;clear hc hst ho hpa hS hf q2 hio;generalize nth (zbz p s).1 se.toNat=G at *;generalize hSD:zp4 l se=SD at *;generalize hX:(if ¬G=0\/SD=true\/¬(nth s.tracks q).is=0 then ((182,[],[]):MvR) else (0,zfe l ⟨tr,[se],1-ed,ed,0,0,0,0⟩,[(se,1)]))=X
  unfold zbJ;unfold wld at *;refine wf hH cd387 fun w0 M Q hM hE hQ hR=>?_;refine wq ?_
  skip
  (repeat' first|refine zaa kE fun K hK=>?_|exact wt|refine wA ?_|(refine wB ?_ ?_<;>intro h<;>first|exact wN h|subst (h:(_:Bool)=_)|skip)|(refine wQ ?_;clear hQ hR)|refine wC c0 ?_|refine wO c1 ?_|refine wC c2 ?_|refine wS c2' ?_|(refine wI hH cd395 100 fun Q hQ hR=>?_;refine wq ?_;try refine wD ?_)|refine wC c3 ?_|fail)
  all_goals first|(exfalso;contradiction)|(exfalso;omega)|skip
  all_goals
   skip
   refine zaj (ι:=Nat) [4,5,6,7,8,9,10,11,12] (fun z=>[(12,.n z)]) (fun _=>[]) (fun z=>z) (l.length) (fun z=>(((l.drop z).any fun t=>inB t.secs se)=SD)) (0) ?_;rintro i ⟨hk,hg⟩;(try dsimp only at hk hg |-);rcases Nat.lt_or_ge i l.length with hlt|hge
   ·have hi9:i<l.length:=by assumption
    have d5:=c5 i hi9;have g1:=tg1 hi9;rw[zae hlt,List.any_cons]at hg;cases hb:inB (nth l i).secs se<;>rw[hb]at d5 hg
    ·(have hX:=@g1;(repeat' first|refine zaa kE fun K hK=>?_|exact wt|refine wA ?_|(refine wB ?_ ?_<;>intro h<;>first|exact wN h|subst (h:(_:Bool)=_)|skip)|(refine wQ ?_;clear hQ hR)|refine wC d5 ?_|fail);all_goals clear hX)
     all_goals first|(exfalso;contradiction)|(exfalso;omega)|skip
     all_goals exact ⟨i+1,by omega,⟨by omega,by simpa using hg⟩,by omega⟩
    ·have hSDt:SD=true:=by rw[<-hg];rfl
     rw[if_pos (.inr (.inl hSDt))]at hX;(have hX:=@g1;(repeat' first|refine zaa kE fun K hK=>?_|exact wt|refine wA ?_|(refine wB ?_ ?_<;>intro h<;>first|exact wN h|subst (h:(_:Bool)=_)|skip)|(refine wQ ?_;clear hQ hR)|refine wC d5 ?_|fail);all_goals clear hX)
     all_goals first|(exfalso;contradiction)|(exfalso;omega)|(rw[<-hX];rfl)
   ·rw[List.drop_eq_nil_of_le hge]at hg
    have hSDf:SD=false:=hg.symm;by_cases ht:(nth s.tracks q).is=0
    ·by_cases hG:G=0
     ·rw[if_neg (by rw[hSDf];simp[ht,hG])]at hX
      (have hX:=@ht;(repeat' first|refine zaa kE fun K hK=>?_|exact wt|refine wA ?_|(refine wB ?_ ?_<;>intro h<;>first|exact wN h|subst (h:(_:Bool)=_)|skip)|(refine wQ ?_;clear hQ hR)|refine wC c4 ?_|fail);all_goals clear hX)
      all_goals first|(exfalso;contradiction)|(exfalso;omega)|skip
      all_goals
       refine zde 106 0 107 8 rfl rfl (by omega) (by (refine wD ?_;try exact wt)) (by (refine wD ?_;try exact wt)) ?_
       (refine wD ?_;try exact wt)
       refine zaj (ι:=Nat×Bool×(List TrainD)) [6,7,8,9,10,13,14,15,16] (fun z=>[(15,.b z.2.1),(16,.n z.1)]) (fun z=>[(106,.cells [.sm 107 (z.2.2.length*8) 0 z.2.2.length 8] true),(107,.cells (z.2.2.map TrainD.c).flatten (decide (0<z.2.2.length)))]) (fun z=>z.1) (l.length) (fun z=>(z.2.2++insW ⟨tr,[se],1-ed,ed,0,0,0,0⟩ z.2.1 (l.drop z.1)=zfe l ⟨tr,[se],1-ed,ed,0,0,0,0⟩)/\(z.2.2.length<=z.1+1)/\(z.2.1=false->z.2.2.length<=z.1)) (0,false,[]) ?_;rintro ⟨j,d,xs⟩ ⟨hk,hw,hxl,hxd⟩;(try dsimp only at hk hw hxl hxd |-);rcases Nat.lt_or_ge j l.length with hlt|hge
       ·have hj9:j<l.length:=by assumption
        have fj:zb2 (l.map TrainD.c).flatten (j*8) (some 8)=some (.agg (nth l j).c):=zcj (c:=TrainD.c) (l:=l) (k:=j) hj9 (by omega)
        have y0:=tg0 hj9;rw[zae hj9,insW]at hw;cases d with
        |true =>
         rw[if_neg (by simp)]at hw
         (have hX:=zA @fj @y0;(repeat' first|refine zaa kE fun K hK=>?_|exact wt|refine wA ?_|(refine wB ?_ ?_<;>intro h<;>first|exact wN h|subst (h:(_:Bool)=_)|skip)|(refine wQ ?_;clear hQ hR)|fail);all_goals clear hX)
         all_goals first|(exfalso;contradiction)|(exfalso;omega)|skip
         all_goals refine ⟨(j+1,true,xs++[nth l j]),by dsimp only;omega,⟨by dsimp only;omega,by dsimp only;rw[List.append_assoc];exact hw,by dsimp only;simp;omega,by dsimp only;intro h;cases h⟩,⟨rfl,by dsimp only;omega⟩,by dsimp only;simp,by dsimp only;simp[TrainD.c]⟩
        |false =>
         by_cases hgt:tr<(nth l j).id
         ·rw[if_pos ⟨rfl,hgt⟩]at hw
          (have hX:=zA @fj @y0;(repeat' first|refine zaa kE fun K hK=>?_|exact wt|refine wA ?_|(refine wB ?_ ?_<;>intro h<;>first|exact wN h|subst (h:(_:Bool)=_)|skip)|(refine wQ ?_;clear hQ hR)|fail);all_goals clear hX)
          all_goals first|(exfalso;contradiction)|(exfalso;omega)|skip
          all_goals refine ⟨(j+1,true,xs++[⟨tr,[se],1-ed,ed,0,0,0,0⟩,nth l j]),by dsimp only;omega,⟨by dsimp only;omega,by dsimp only;rw[List.append_assoc];exact hw,by dsimp only;simp;have:=hxd rfl;omega,by dsimp only;intro h;cases h⟩,⟨rfl,by dsimp only;omega⟩,by dsimp only;simp,by dsimp only;simp[TrainD.c,zaJ]⟩
         ·rw[if_neg (by rintro ⟨_,h⟩;exact hgt h)]at hw
          (have hX:=zA @fj @y0;(repeat' first|refine zaa kE fun K hK=>?_|exact wt|refine wA ?_|(refine wB ?_ ?_<;>intro h<;>first|exact wN h|subst (h:(_:Bool)=_)|skip)|(refine wQ ?_;clear hQ hR)|fail);all_goals clear hX)
          all_goals first|(exfalso;contradiction)|(exfalso;omega)|skip
          all_goals refine ⟨(j+1,false,xs++[nth l j]),by dsimp only;omega,⟨by dsimp only;omega,by dsimp only;rw[List.append_assoc];exact hw,by dsimp only;simp;have:=hxd rfl;omega,by dsimp only;intro _;simp;have:=hxd rfl;omega⟩,⟨rfl,by dsimp only;omega⟩,by dsimp only;simp,by dsimp only;simp[TrainD.c]⟩
       ·obtain rfl:j=l.length:=by omega
        rw[List.drop_length,insW]at hw;cases d with
        |true =>
         rw[if_pos rfl,List.append_nil]at hw
         (repeat' first|refine zaa kE fun K hK=>?_|exact wt|refine wA ?_|(refine wB ?_ ?_<;>intro h<;>first|exact wN h|subst (h:(_:Bool)=_)|skip)|(refine wQ ?_;clear hQ hR)|refine wC c6 ?_|fail)
         all_goals first|(exfalso;contradiction)|(rw[<-hX,<-hw];rfl)
        |false =>
         rw[if_neg (by simp)]at hw
         have hl1:xs.length+1=(zfe l ⟨tr,[se],1-ed,ed,0,0,0,0⟩).length:=by rw[<-hw];simp
         have hT:(xs.map TrainD.c).flatten++[.n tr,.sl 1 [[.n se]],.n (1-ed),.n ed,.n 0,.n 0,.n 0,.n 0]=((zfe l ⟨tr,[se],1-ed,ed,0,0,0,0⟩).map TrainD.c).flatten:=by rw[<-hw];simp[TrainD.c,zaJ]
         have hf8:((zfe l ⟨tr,[se],1-ed,ed,0,0,0,0⟩).map TrainD.c).flatten.length=xs.length*8+8:=by rw[zbo (c:=TrainD.c),<-hl1];omega
         generalize zfe l ⟨tr,[se],1-ed,ed,0,0,0,0⟩=D at *;(have hX:=zA @hl1 @hT;(repeat' first|refine zaa kE fun K hK=>?_|exact wt|refine wA ?_|(refine wB ?_ ?_<;>intro h<;>first|exact wN h|subst (h:(_:Bool)=_)|skip)|(refine wQ ?_;clear hQ hR)|refine wC c6 ?_|fail);all_goals clear hX)
         all_goals first|(exfalso;contradiction)|(rw[<-hX];rfl)
     ·rw[if_pos (.inl hG)]at hX
      (have hX:=@ht;(repeat' first|refine zaa kE fun K hK=>?_|exact wt|refine wA ?_|(refine wB ?_ ?_<;>intro h<;>first|exact wN h|subst (h:(_:Bool)=_)|skip)|(refine wQ ?_;clear hQ hR)|refine wC c4 ?_|fail);all_goals clear hX)
      all_goals first|(exfalso;contradiction)|(exfalso;omega)|(rw[<-hX];rfl)
    ·rw[if_pos (.inr (.inr ht))]at hX
     (repeat' first|refine zaa kE fun K hK=>?_|exact wt|refine wA ?_|(refine wB ?_ ?_<;>intro h<;>first|exact wN h|subst (h:(_:Bool)=_)|skip)|(refine wQ ?_;clear hQ hR)|refine wC c4 ?_|fail)
     all_goals first|(exfalso;contradiction)|(exfalso;omega)|(rw[<-hX];rfl)
 ·rw[if_neg hf]
  obtain ⟨e1,e2⟩:=sec_no ho.sec hf;rw[e2];clear hc hst ho hpa;unfold zbJ;unfold wld at *;dsimp only;refine wf hH cd387 fun w0 M Q hM hE hQ hR=>?_;refine wq ?_
  skip
  (repeat' first|refine zaa kE fun K hK=>?_|exact wt|refine wA ?_|(refine wB ?_ ?_<;>intro h<;>first|exact wN h|subst (h:(_:Bool)=_)|skip)|(refine wQ ?_;clear hQ hR)|refine wC c0 ?_|refine wO c1 ?_|refine wC c2 ?_|refine wS c2' ?_|(refine wI hH cd395 100 fun Q hQ hR=>?_;refine wq ?_;try refine wD ?_)|refine wC c3 ?_|fail)
  all_goals first|rfl|(exfalso;contradiction)|(exfalso;omega)
end Go.Lev
