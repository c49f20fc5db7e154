/-
  Contracts of functions. Conditions: those that each theorem names.
-/
import Derived.Test.YtjfongdncghjmaaGreatL9
set_option linter.unusedSimpArgs false
set_option linter.unusedVariables false
set_option linter.unusedSectionVars false
namespace Go.Lev
open Go.Eng
set_option maxRecDepth 10000
set_option maxHeartbeats 4000000
variable {P:Program} {inv:Nat->Option Nat} {w0:World} {M:Nat->Prop}
theorem zpW (hH:HasAll P inv) (r:Rte) (h:r.path.length<=1000000/\r.over.length<=1000000/\r.flanks.length<=1000000):PC P inv 318 [.agg r.c] (·=.agg r.c):=by
 refine wf hH cd318 fun w0 M Q hM hE hQ hR=>?_;refine wq ?_
 (repeat' first|refine zaa kD fun K hK=>?_|exact wt|refine wA ?_|(refine wB ?_ ?_<;>intro h<;>first|exact wN h|subst (h:(_:Bool)=_)|skip)|(refine wQ ?_;clear hQ hR hE hM)|fail)
 all_goals first|rfl
def outF (p:Pln) (r:Rte) (all:List Int) (i:Nat) (s:Section) (f:Int):Int :=
 zaZ (fun k _ za0=>cond (decide (zeK s f (k:Int)<0)) (za0 ())
   (cond (decide ((i:Int)=(r.path.length:Int)-1))
    (cond (decide (r.exit=0)&&decide ((nth s.ends k).to=0)||!decide (r.exit=0)&&decide (znS p s.id (k:Int)=r.exit)) (k:Int) (za0 ()))
    (cond (decide ((nth s.ends k).to=nth all (i+1))) (k:Int) (za0 ()))))
  (fun _=>-1) s.ends.length 0 ()
def outI (o:Option (Nat×Join×Int)):Int:=match o with|some v=>(v.1:Int)|none=>-1
theorem outF_eq {p:Pln} {r:Rte} {all:List Int} {i:Nat} {s:Section} {f:Int} (hs:zbh s=true):outF p r all i s f=outI (outW p r all i s f):=by
 unfold outF outW;refine zaE (·=outI (zaY s f (zmm p r all i s) 0 s.ends)) (fun k _=>zaY s f (zmm p r all i s) k (s.ends.drop k)=zaY s f (zmm p r all i s) 0 s.ends) rfl ?_ ?_
 ·intro k _ za0 hk hK hn
  rw[zae hk,zaY]at hK;have hth:(za8 s f (k:Int)).2=0↔¬zeK s f (k:Int)<0:=by
   unfold za8;rw[if_pos hs];split
   ·rename_i h1
    exact ⟨fun h=>(by cases h),fun h=>absurd h1 h⟩
   ·rename_i h1
    exact ⟨fun _=>h1,fun _=>rfl⟩
  by_cases h1:zeK s f (k:Int)<0
  ·rw[decide_eq_true h1,cond_true]
   rw[if_neg (fun h=>(hth.1 h.1) h1)]at hK
   exact hn () hK
  ·rw[decide_eq_false h1,cond_false]
   have hR:zmm p r all i s (k:Int) (nth s.ends k)=cond (decide ((i:Int)=(r.path.length:Int)-1)) (decide (r.exit=0)&&decide ((nth s.ends k).to=0)||!decide (r.exit=0)&&decide (znS p s.id (k:Int)=r.exit)) (decide ((nth s.ends k).to=nth all (i+1))):=by
    unfold zmm;by_cases h2:(i:Int)=(r.path.length:Int)-1
    ·rw[if_pos h2,decide_eq_true h2,cond_true]
    ·rw[if_neg h2,decide_eq_false h2,cond_false]
   have fin:∀ b:Bool,zmm p r all i s (k:Int) (nth s.ends k)=b->cond b (k:Int) (za0 ())=outI (zaY s f (zmm p r all i s) 0 s.ends):=fun b hb=>by
    cases b with
    |true =>
     rw[if_pos ⟨hth.2 h1,hb⟩]at hK;rw[<-hK];rfl
    |false =>
     rw[if_neg (fun h=>by rw[hb]at h;cases h.2)]at hK
     exact hn () hK
   by_cases h2:(i:Int)=(r.path.length:Int)-1
   ·rw[decide_eq_true h2,cond_true]at hR |-
    exact fin _ hR
   ·rw[decide_eq_false h2,cond_false]at hR |-
    exact fin _ hR
 ·intro _ hK
  rw[List.drop_eq_nil_of_le (Nat.le_refl _),zaY]at hK;rw[<-hK];rfl
theorem zkc {p:Pln} (hs:zbR p.sections=true) {n:Int} (h:∃ s∈p.sections,s.id=n):∃ q:Nat,q<p.sections.length/\zdd n 0 p.sections=(q:Int)/\zdI p n=nth p.sections q:=by
 rcases zcr n p.sections 0 with ⟨_,h4⟩|⟨q,hq,e,_⟩
 ·obtain ⟨s,hs1,e⟩:=h
  obtain ⟨k,hk,rfl⟩:=zbN hs1;exact absurd e (h4 k hk)
 ·have e2:zdd n 0 p.sections=(q:Int):=by omega
  exact ⟨q,hq,e2,by unfold zdI;rw[e2,Int.toNat_natCast]⟩
theorem out_ref (hH:HasAll P inv) (p:Pln) (hp:Sm p) (hs:zbR p.sections=true) (r:Rte) (hr:r.path.length<=1000) (all:List Int) (ha:all.length<=10000) (i:Nat) (hi:i<all.length) (hn:¬(i:Int)=(r.path.length:Int)-1->i+1<all.length) (h:∃ s∈p.sections,s.id=nth all i) (f:Int) :
  PC P inv 317 [.agg p.c,.agg r.c,.sl 1 (all.map zaJ),.n i,.n f] (·=.n (outI (outW p r all i (zdI p (nth all i)) f))):=by
 obtain ⟨q,hq,hat,hA⟩:=zkc hs h;obtain ⟨hm,hid,_⟩:=zfG hs h;have hsh:=zlj hs hm;have he3:=(zaP hs _ hm).2.2.2.2;have hl1:=hp.sec;have hl2:=hp.sgn;obtain ⟨X,hF⟩:∃ X,outF p r all i (zdI p (nth all i)) f=X:=⟨_,rfl⟩;rw[<-outF_eq hsh,hF];have c1:=zfS hH p.sections (nth all i) (by omega)
 rw[hat]at c1;rw[hA]at hF he3;have cL:=fun k:Nat=>zh9 hH (nth p.sections q) f (k:Int)
 have cA:=fun k:Nat=>zoE hH p (by omega) (nth p.sections q).id (k:Int)
 have hi1:((i:Int)+1).toNat=i+1:=by omega
 clear hsh hA hm hid hs;unfold outF at hF;refine wf hH cd317 fun w0 M Q hM hE hQ hR=>?_;refine wq ?_
 skip
 (have hX:=@Int.toNat_natCast;(repeat' first|refine zaa yM fun K hK=>?_|exact wt|refine wA ?_|(refine wE ?_ ?_<;>intro h0 h<;>first|exact wN h|((try replace hF:=wX hF);clear h0;first|exact hF.elim|((try subst (h:(_:Bool)=_));try replace hF:=wX hF)))|(refine wQ ?_;clear hQ hR hE hM)|refine wU c1 ?_|fail);all_goals clear hX)
 refine zaI hF fun Bd Ed hBd hEd hF=>?_;refine zaj (ι:=Nat) [2,3,4,5,6,10,11,12] (fun z=>[(12,.n z)]) (fun _=>[]) (fun z=>z) ((nth p.sections q).ends.length) (fun z=>(zaZ Bd Ed ((nth p.sections q).ends.length-z) z ()=X)) (0) ?_;rintro k ⟨hk,hF⟩;(try dsimp only at hk hF |-);rcases Nat.lt_or_ge k (nth p.sections q).ends.length with hlt|hge
 ·rw[zas hBd hlt]at hF;(try dsimp only at hF)
  have c2:=cL k;have c3:=cA k;generalize zeK (nth p.sections q) f (k:Int)=lie at *;by_cases hk1:(i:Int)=(r.path.length:Int)-1
  ·(repeat' first|refine zaa yM fun K hK=>?_|exact wt|refine wA ?_|(refine wE ?_ ?_<;>intro h0 h<;>first|exact wN h|((try replace hF:=wX hF);clear h0;first|exact hF.elim|((try subst (h:(_:Bool)=_));try replace hF:=wX hF)))|(refine wQ ?_;clear hQ hR hE hM)|refine wC c2 ?_|refine wC c3 ?_|refine wU c3 ?_|fail)
   all_goals first|exact hF|(exfalso;contradiction)|(exfalso;omega)|exact congrArg AV.n hF|exact nX (k+1)
  ·have hn:=hn hk1
   (have hX:=@hi1;(repeat' first|refine zaa yM fun K hK=>?_|exact wt|refine wA ?_|(refine wE ?_ ?_<;>intro h0 h<;>first|exact wN h|((try replace hF:=wX hF);clear h0;first|exact hF.elim|((try subst (h:(_:Bool)=_));try replace hF:=wX hF)))|(refine wQ ?_;clear hQ hR hE hM)|refine wC c2 ?_|fail);all_goals clear hX)
   all_goals first|exact hF|(exfalso;contradiction)|(exfalso;omega)|exact congrArg AV.n hF|exact nX (k+1)
 ·rw[zaH hge,hEd]at hF;(try dsimp only at hF)
  (repeat' first|refine zaa yM fun K hK=>?_|exact wt|refine wA ?_|(refine wE ?_ ?_<;>intro h0 h<;>first|exact wN h|((try replace hF:=wX hF);clear h0;first|exact hF.elim|((try subst (h:(_:Bool)=_));try replace hF:=wX hF)))|(refine wQ ?_;clear hQ hR hE hM)|fail)
  all_goals first|exact hF|(exact congrArg AV.n hF)|(rw[<-hF];done)
def zr2 (V:Option (List Int×List Int)):AV:=match V with|some v=>.tup [.sl 1 (v.1.map zaJ),.sl 1 (v.2.map zaJ),.b true]|none=>.tup [.sl 1 [],.sl 1 [],.b false]
theorem zou (hH:HasAll P inv) (p:Pln) (hp:Sm p) (hs:zbR p.sections=true) (hg:SgsP p) (r:Rte) (hr:RteP p r):PC P inv 308 [.agg p.c,.agg r.c] (·=zr2 (zjf p r)):=by
 obtain ⟨k,hk,h1,h2,h3⟩:=ziO hs hg hr;obtain ⟨sE,hsE1,hsE2,hsE3,hsE4⟩:=hg.sec _ (zac hk);obtain ⟨qE,hqE,hatE,hAE⟩:=zkc hs ⟨sE,hsE1,hsE2⟩;have hsE5:=zfG hs ⟨sE,hsE1,hsE2⟩;have hsE6:zdI p (nth p.signals k).sec=sE:=by
  have:=ziJ Section.id (zfc (zlo hs)) hsE1;rw[hsE2,hsE5.2.2]at this;exact Option.some.inj this
 have hlen:=hr.lens;have c0:=zf3 hH p.signals (by have:=hp.sgn;omega) r.entry
 rw[h1]at c0;have c1:=zfS hH p.sections (nth p.signals k).sec (by have:=hp.sec;omega)
 rw[hatE]at c1;have c2:=zkb hH r (by omega) (by omega)
 have hEJ:zjG p r=nth (nth p.sections qE).ends (nth p.signals k).ed.toNat:=by
  unfold zjG;rw[h1,Int.toNat_natCast,hAE]
 rw[<-hsE6,hAE]at hsE4;have hsec:∀ i,i<(r.path++r.over).length->∃ s∈p.sections,s.id=nth (r.path++r.over) i:=fun i hi=>(hr.secs _ (zac hi)).1
 have hal:(r.path++r.over).length=r.path.length+r.over.length:=List.length_append;have hend3:∀ n,(∃ s∈p.sections,s.id=n)->(zdI p n).ends.length<=3:=fun n hn=>(zaP hs _ (zfG hs hn).1).2.2.2.2
 have cO:=fun (i:Nat) (hi:i<(r.path++r.over).length) (hn:¬(i:Int)=(r.path.length:Int)-1->i+1<(r.path++r.over).length) (f:Int)=>out_ref hH p hp hs r (by omega) (r.path++r.over) (by omega) i hi hn (hsec i hi) f
 have cT:=fun n=>zfS hH p.sections n (by have:=hp.sec;omega)
 have hl1:=hp.sec;have hl2:=hp.sgn;have hix:=fun n hn=>zkc (p:=p) (n:=n) hs hn
 obtain ⟨V,hV⟩:∃ V,zjf p r=V:=⟨_,rfl⟩;rw[hV];unfold zjf at hV;rw[hEJ]at hV;clear h1 h2 h3 hEJ hsE6 hsE5 hAE hatE hs hg hr;generalize r.path++r.over=all at *;refine wf hH cd308 fun w0 M Q hM hE hQ hR=>?_;refine wq ?_
 (have hX:=@Int.toNat_natCast;(repeat' first|refine zaa kn fun K hK=>?_|exact wt|refine wA ?_|(refine wB ?_ ?_<;>intro h<;>first|exact wN h|subst (h:(_:Bool)=_)|skip)|(refine wQ ?_;clear hQ hR hE hM)|refine wU c0 ?_|refine wU c1 ?_|refine wC c2 ?_|fail);all_goals clear hX)
 refine AWp.empty 10 4 1 rfl (Nat.zero_le _) (by (refine wD ?_;try exact wt)) (by (refine wD ?_;try exact wt)) ?_
 refine AWp.empty 11 5 1 rfl (Nat.zero_le _) (by (refine wD ?_;try exact wt)) (by (refine wD ?_;try exact wt)) ?_
 (refine wD ?_;try exact wt)
 refine zaj (ι:=Nat×Join×(List Int)×(List Int)) [2,3,4,5,6,8,9,10,11,12] (fun z=>[(10,.sm 4 z.2.2.1.length 0 z.2.2.1.length 1),(11,.sm 5 z.2.2.2.length 0 z.2.2.2.length 1),(12,.n z.1)]) (fun z=>[(3,.cells z.2.1.c true),(4,.cells (z.2.2.1.map zaJ).flatten (decide (0<z.2.2.1.length))),(5,.cells (z.2.2.2.map zaJ).flatten (decide (0<z.2.2.2.length)))]) (fun z=>z.1) (all.length) (fun z=>(z.2.2.1.length=z.1)/\(z.2.2.2.length=z.1)/\(zhu p r all z.1 z.2.1 z.2.2.1 z.2.2.2 (all.drop z.1)=V)) (0,(nth (nth p.sections qE).ends (nth p.signals k).ed.toNat),([]:List Int),([]:List Int)) ?_;rintro ⟨i,j,I,O⟩ ⟨hk,hI,hO,hgo⟩;(try dsimp only at hk hI hO hgo |-);rcases Nat.lt_or_ge i all.length with hlt|hge
 ·rw[zae hlt,zhu]at hgo
  have hs1:=hsec i hlt;obtain ⟨q,hq,hat,hA⟩:=hix _ hs1;have he3:=hend3 _ hs1;have c4:=cT (nth all i);rw[hat]at c4;by_cases hj:j.to=nth all i
  ·rw[if_pos hj]at hgo
   by_cases hst:i+1=all.length/\0<r.over.length
   ·rw[if_pos hst]at hgo
    obtain ⟨I2,hI2⟩:∃ I2,I++[j.ed]=I2:=⟨_,rfl⟩;obtain ⟨O2,hO2⟩:∃ O2,O++[-1]=O2:=⟨_,rfl⟩;have gI:(I.map zaJ).flatten++[AV.n j.ed]=(I2.map zaJ).flatten:=by rw[<-hI2];simp[zaJ]
    have gO:(O.map zaJ).flatten++[AV.i .i64 (-1)]=(O2.map zaJ).flatten:=by rw[<-hO2];simp[zaJ]
    have lI:I.length+1=I2.length:=by rw[<-hI2];simp
    have lO:O.length+1=O2.length:=by rw[<-hO2];simp
    rw[hI2,hO2]at hgo;clear hI2 hO2;(have hX:=zA @gI (zA @gO (zA @lI @lO));(repeat' first|refine zaa kn fun K hK=>?_|exact wt|refine wA ?_|(refine wB ?_ ?_<;>intro h<;>first|exact wN h|subst (h:(_:Bool)=_)|skip)|(refine wQ ?_;clear hQ hR hE hM)|fail);all_goals clear hX)
    all_goals first|(exfalso;omega)|(rw[<-hgo];rfl)
   ·rw[if_neg hst]at hgo
    have c3:=cO i hlt (fun hn=>by omega) j.ed
    cases ho:outW p r all i (zdI p (nth all i)) j.ed with
    |none =>
     rw[ho]at hgo c3;dsimp only[outI]at hgo c3
     (repeat' first|refine zaa kn fun K hK=>?_|exact wt|refine wA ?_|(refine wB ?_ ?_<;>intro h<;>first|exact wN h|subst (h:(_:Bool)=_)|skip)|(refine wQ ?_;clear hQ hR hE hM)|refine wC c3 ?_|fail)
     all_goals first|(exfalso;omega)|(rw[<-hgo];rfl)
    |some v =>
     rw[ho]at hgo c3;dsimp only[outI]at hgo c3;have hpe:=ze8 _ 0 ho;rw[Nat.sub_zero]at hpe;have hv1:=hpe.2.1;have hv2:=hpe.2.2.1;rw[hA]at hv1 hv2 he3;rw[hv2]at hgo;clear hpe ho hv2;obtain ⟨v1,v2,v3⟩:=v;dsimp only at hgo c3 hv1;(have hX:=@Int.toNat_natCast;(repeat' first|refine zaa kn fun K hK=>?_|exact wt|refine wA ?_|(refine wB ?_ ?_<;>intro h<;>first|exact wN h|subst (h:(_:Bool)=_)|skip)|(refine wQ ?_;clear hQ hR hE hM)|refine wC c3 ?_|refine wC c4 ?_|refine wU c4 ?_|fail);all_goals clear hX)
     all_goals first|(exfalso;omega)|(exact nY (i+1,nth (nth p.sections q).ends v1,I++[j.ed],O++[(v1:Int)]) ⟨by (try dsimp only);omega,by (try dsimp only);simp[hI],by (try dsimp only);simp[hO],hgo⟩;done)
  ·rw[if_neg hj]at hgo
   (repeat' first|refine zaa kn fun K hK=>?_|exact wt|refine wA ?_|(refine wB ?_ ?_<;>intro h<;>first|exact wN h|subst (h:(_:Bool)=_)|skip)|(refine wQ ?_;clear hQ hR hE hM)|fail)
   all_goals first|(exfalso;contradiction)|(exfalso;omega)|(rw[<-hgo];rfl)
 ·rw[List.drop_eq_nil_of_le hge,zhu]at hgo
  (repeat' first|refine zaa kn fun K hK=>?_|exact wt|refine wA ?_|(refine wB ?_ ?_<;>intro h<;>first|exact wN h|subst (h:(_:Bool)=_)|skip)|(refine wQ ?_;clear hQ hR hE hM)|fail)
  all_goals first|(rw[<-hgo];simp[zr2];done)|(rw[<-hgo];rfl)
theorem zn5 (hH:HasAll P inv) (p:Pln) (hp:Sm p) (hs:zbR p.sections=true) (hg:SgsP p) (hpt:PtsP p) {m:Nat} (hm:m<p.routes.length) (hr:RteP p (nth p.routes m)) {I O:List Int} (hV:zjf p (nth p.routes m)=some (I,O)) :
  PC P inv 309 [.agg p.c,.n m] (·=.agg (zao p (nth p.routes m)).1.c):=by
 have hw:=zhF hs hg hpt hr;rw[hV]at hw;obtain ⟨hI,hO,hw⟩:=hw;dsimp only at hI hO hw;have hw1:(zao p (nth p.routes m)).1=⟨(nth p.routes m).path,(nth p.routes m).over,asksV p (nth p.routes m) I O,(sig p (nth p.routes m).entry).sec⟩:=by rw[hw]
 rw[hw1];obtain ⟨k,hk,h1,h2,h3⟩:=ziO hs hg hr;have hlen:=hr.lens;have c1:=zpW hH (nth p.routes m) (by omega)
 have c2:=zou hH p hp hs hg (nth p.routes m) hr;rw[hV]at c2;unfold zr2 at c2;dsimp only at c2;have c3:=zkb hH (nth p.routes m) (by omega) (by omega)
 have c4:=zf3 hH p.signals (by have:=hp.sgn;omega) (nth p.routes m).entry
 rw[h1]at c4;rw[h3];have hsec:∀ i,i<((nth p.routes m).path++(nth p.routes m).over).length->∃ s∈p.sections,s.id=nth ((nth p.routes m).path++(nth p.routes m).over) i:=fun i hi=>(hr.secs _ (zac hi)).1
 have hal:((nth p.routes m).path++(nth p.routes m).over).length=(nth p.routes m).path.length+(nth p.routes m).over.length:=List.length_append;have cT:=fun n=>zfS hH p.sections n (by have:=hp.sec;omega)
 have hix:=fun n hn=>zkc (p:=p) (n:=n) hs hn
 have cL:=fun s f t=>zh9 hH s f t
 have hl1:=hp.rte;unfold asksV;obtain ⟨W,hW⟩:∃ W,ziz p 0 ((nth p.routes m).path++(nth p.routes m).over) I O=W:=⟨_,rfl⟩;rw[hW];clear hw hw1 h1 h2 h3 hs hg hpt hr hV;generalize (nth p.routes m).path++(nth p.routes m).over=all at *;refine wf hH cd309 fun w0 M Q hM hE hQ hR=>?_;refine wq ?_
 (have hX:=@Int.toNat_natCast;(repeat' first|refine zaa kP fun K hK=>?_|exact wt|refine wA ?_|(refine wB ?_ ?_<;>intro h<;>first|exact wN h|subst (h:(_:Bool)=_)|skip)|(refine wQ ?_;clear hQ hR hE hM)|refine wC c1 ?_|refine wC c2 ?_|refine wC c3 ?_|refine wU c4 ?_|fail);all_goals clear hX)
 refine zde 3 2 4 3 rfl rfl (Nat.zero_le _) (by (refine wD ?_;try exact wt)) (by (refine wD ?_;try exact wt)) ?_
 (refine wD ?_;try exact wt)
 refine zaj (ι:=Nat×(List AskR)) [2,4,5,6,7,9,10,11] (fun z=>[(11,.n z.1)]) (fun z=>[(3,.cells [.sl 1 (List.map zaJ (nth p.routes m).path),.sl 1 (List.map zaJ (nth p.routes m).over),.sm 4 (z.2.length*3) 0 z.2.length 3,.n (nth p.signals k).sec] true),(4,.cells (z.2.map AskR.c).flatten (decide (0<z.2.length)))]) (fun z=>z.1) (all.length) (fun z=>(z.2.length<=z.1)/\(z.2++ziz p z.1 (all.drop z.1) (I.drop z.1) (O.drop z.1)=W)) (0,([]:List AskR)) ?_;rintro ⟨i,A⟩ ⟨hk,hA,hgo⟩;(try dsimp only at hk hA hgo |-);rcases Nat.lt_or_ge i all.length with hlt|hge
 ·rw[zae hlt,zae (l:=I) (by omega),zae (l:=O) (by omega),ziz]at hgo
  obtain ⟨q,hq,hat,hAq⟩:=hix _ (hsec i hlt);unfold zsl at hgo;rw[hAq]at hgo;have c5:=cT (nth all i);rw[hat]at c5;have c6:=cL (nth p.sections q) (nth I i) (nth O i);by_cases hp0:(nth p.sections q).pt=0
  ·rw[if_pos hp0,List.nil_append]at hgo
   (have hX:=@Int.toNat_natCast;(repeat' first|refine zaa kP fun K hK=>?_|exact wt|refine wA ?_|(refine wB ?_ ?_<;>intro h<;>first|exact wN h|subst (h:(_:Bool)=_)|skip)|(refine wQ ?_;clear hQ hR hE hM)|refine wU c5 ?_|fail);all_goals clear hX)
   all_goals first|(exfalso;contradiction)|(exact nY (i+1,A) ⟨by (try dsimp only);omega,by (try dsimp only);omega,hgo⟩;done)
  ·rw[if_neg hp0]at hgo
   by_cases hb:0<=nth O i
   ·rw[if_pos hb]at hgo
    generalize zeK (nth p.sections q) (nth I i) (nth O i)=lie at *;by_cases hl:0<lie
    ·rw[if_pos hl]at hgo
     (have hX:=@Int.toNat_natCast;(repeat' first|refine zaa kP fun K hK=>?_|exact wt|refine wA ?_|(refine wB ?_ ?_<;>intro h<;>first|exact wN h|subst (h:(_:Bool)=_)|skip)|(refine wQ ?_;clear hQ hR hE hM)|refine wU c5 ?_|refine wC c6 ?_|fail);all_goals clear hX)
     all_goals first|(exfalso;contradiction)|(exfalso;omega)|(exact nY (i+1,A++[⟨(nth p.sections q).pt,lie,(i:Int)⟩]) ⟨by (try dsimp only);omega,by (try dsimp only);simp;omega,by (try dsimp only);rw[<-hgo];simp⟩;done)
    ·rw[if_neg hl,List.nil_append]at hgo
     (have hX:=@Int.toNat_natCast;(repeat' first|refine zaa kP fun K hK=>?_|exact wt|refine wA ?_|(refine wB ?_ ?_<;>intro h<;>first|exact wN h|subst (h:(_:Bool)=_)|skip)|(refine wQ ?_;clear hQ hR hE hM)|refine wU c5 ?_|refine wC c6 ?_|fail);all_goals clear hX)
     all_goals first|(exfalso;contradiction)|(exfalso;omega)|(exact nY (i+1,A) ⟨by (try dsimp only);omega,by (try dsimp only);omega,hgo⟩;done)
   ·rw[if_neg hb]at hgo
    by_cases hl:0<nth I i
    ·rw[if_pos hl]at hgo
     (have hX:=@Int.toNat_natCast;(repeat' first|refine zaa kP fun K hK=>?_|exact wt|refine wA ?_|(refine wB ?_ ?_<;>intro h<;>first|exact wN h|subst (h:(_:Bool)=_)|skip)|(refine wQ ?_;clear hQ hR hE hM)|refine wU c5 ?_|refine wC c6 ?_|fail);all_goals clear hX)
     all_goals first|(exfalso;contradiction)|(exfalso;omega)|(exact nY (i+1,A++[⟨(nth p.sections q).pt,nth I i,(i:Int)⟩]) ⟨by (try dsimp only);omega,by (try dsimp only);simp;omega,by (try dsimp only);rw[<-hgo];simp⟩;done)
    ·rw[if_neg hl,List.nil_append]at hgo
     (have hX:=@Int.toNat_natCast;(repeat' first|refine zaa kP fun K hK=>?_|exact wt|refine wA ?_|(refine wB ?_ ?_<;>intro h<;>first|exact wN h|subst (h:(_:Bool)=_)|skip)|(refine wQ ?_;clear hQ hR hE hM)|refine wU c5 ?_|refine wC c6 ?_|fail);all_goals clear hX)
     all_goals first|(exfalso;contradiction)|(exfalso;omega)|(exact nY (i+1,A) ⟨by (try dsimp only);omega,by (try dsimp only);omega,hgo⟩;done)
 ·rw[List.drop_eq_nil_of_le hge,ziz,List.append_nil]at hgo
  ·subst hgo
   (repeat' first|refine zaa kP fun K hK=>?_|exact wt|refine wA ?_|(refine wB ?_ ?_<;>intro h<;>first|exact wN h|subst (h:(_:Bool)=_)|skip)|(refine wQ ?_;clear hQ hR hE hM)|fail)
   refine zaj (ι:=Nat×(List AskR)) [4,5,10,14] (fun z=>[(14,.n z.1)]) (fun z=>[(3,.cells [.sl 1 (List.map zaJ (nth p.routes m).path),.sl 1 (List.map zaJ (nth p.routes m).over),.sm 4 (z.2.length*3) 0 z.2.length 3,.n (nth p.signals k).sec] true),(4,.cells (z.2.map AskR.c).flatten (decide (0<z.2.length)))]) (fun z=>z.1) ((nth p.routes m).flanks.length) (fun z=>(z.2.length<=i+z.1)/\(z.2++((nth p.routes m).flanks.drop z.1).map (fun x=>(⟨x.pnt,x.lie,-1⟩:AskR))=A++(nth p.routes m).flanks.map (fun x=>(⟨x.pnt,x.lie,-1⟩:AskR)))) (0,A) ?_;rintro ⟨k2,B⟩ ⟨hk,hB,hgb⟩;(try dsimp only at hk hB hgb |-);rcases Nat.lt_or_ge k2 (nth p.routes m).flanks.length with hlt|hge
   ·rw[zae (by assumption),List.map_cons]at hgb
    (repeat' first|refine zaa kP fun K hK=>?_|exact wt|refine wA ?_|(refine wB ?_ ?_<;>intro h<;>first|exact wN h|subst (h:(_:Bool)=_)|skip)|(refine wQ ?_;clear hQ hR hE hM)|fail)
    all_goals first|(exfalso;contradiction)|(exact nY (k2+1,B++[⟨(nth (nth p.routes m).flanks k2).pnt,(nth (nth p.routes m).flanks k2).lie,-1⟩]) ⟨by (try dsimp only);omega,by (try dsimp only);simp;omega,by (try dsimp only);rw[<-hgb];simp⟩;done)
   ·rw[List.drop_eq_nil_of_le (by assumption),List.map_nil,List.append_nil]at hgb
    (repeat' first|refine zaa kP fun K hK=>?_|exact wt|refine wA ?_|(refine wB ?_ ?_<;>intro h<;>first|exact wN h|subst (h:(_:Bool)=_)|skip)|(refine wQ ?_;clear hQ hR hE hM)|fail)
    all_goals first|(subst hgb;rfl)
  ·intro a b c d e f h
   cases h
def rmT (p:Pln):Bool:=decide (p.version<1)||(decide (2147483647<p.version)||(decide (p.parent<0)||(decide (p.version<=p.parent)||decide (16<(p.routes.length:Int)))))
def rmR (p:Pln) (rt:Rte->Bool) (i:Nat):Bool:=decide ((nth p.routes i).id<1)||(decide (99<(nth p.routes i).id)||(decide ((0:Int)<i)&&decide ((nth p.routes i).id<=(nth p.routes (i-1)).id)||!rt (nth p.routes i)))
def rmF (p:Pln) (m pts sgs:Bool) (rt:Rte->Bool):Bool :=
 cond (rmT p) false (cond (!m||(!pts||!sgs)) false (zaZ (fun i _ za0=>cond (rmR p rt i) false (za0 ())) (fun _=>true) p.routes.length 0 ()))
theorem rmF_eq (p:Pln):rmF p (zbR p.sections) (points p) (signals p (ends p.sections)) (fun r=>zc0 p r (ends p.sections))=zbx p:=by
 have key:∀ X:Bool,zbx p=X->rmF p (zbR p.sections) (points p) (signals p (ends p.sections)) (fun r=>zc0 p r (ends p.sections))=X:=by
  intro X hX;have hiff:X=true↔rmT p=false/\(zbR p.sections=true/\points p=true/\signals p (ends p.sections)=true)/\∀ i,i<p.routes.length->rmR p (fun r=>zc0 p r (ends p.sections)) i=false:=by
   rw[<-hX];unfold zbx rmT rmR;simp only[Bool.and_eq_true,Bool.not_eq_true',Bool.or_eq_false_iff,Bool.and_eq_false_imp,decide_eq_false_iff_not,decide_eq_true_eq,Bool.not_eq_false',zdA,zee,List.all_eq_true];constructor
   ·rintro ⟨⟨h1,h2,h3,h4,h5⟩,h6,h7,⟨h8,h9,h10⟩,h11⟩
    refine ⟨⟨h1,h2,h3,h4,by simp only[List.length_map]at h10;omega⟩,⟨h5,h6,h7⟩,fun i hi=>?_⟩
    have:=h8 (nth p.routes i).id (List.mem_map_of_mem (zac hi));refine ⟨by omega,by omega,fun h=>?_,h11 _ (zac hi)⟩
    have:=h9 i (by omega) hi
    omega
   ·rintro ⟨⟨h1,h2,h3,h4,h10⟩,⟨h5,h6,h7⟩,h8⟩
    refine ⟨⟨h1,h2,h3,h4,h5⟩,h6,h7,⟨fun n hn=>?_,fun i h0 hi=>?_,by simp only[List.length_map];omega⟩,fun r hr=>?_⟩
    ·obtain ⟨r,hr,rfl⟩:=List.mem_map.1 hn
     obtain ⟨i,hi,rfl⟩:=zbN hr;have:=h8 i hi;omega
    ·have:=(h8 i hi).2.2.1 (by omega)
     omega
    ·obtain ⟨i,hi,rfl⟩:=zbN hr
     exact (h8 i hi).2.2.2
  have bad:¬(rmT p=false/\(zbR p.sections=true/\points p=true/\signals p (ends p.sections)=true)/\∀ i,i<p.routes.length->rmR p (fun r=>zc0 p r (ends p.sections)) i=false)->false=X:=fun h=>by
   cases X with
   |false=>rfl
   |true=>exact absurd (hiff.1 rfl) h
  unfold rmF;cases h1:rmT p with
  |true=>rw[cond_true];exact bad fun h=>by rw[h1]at h;cases h.1
  |false =>
   rw[cond_false];by_cases h2:zbR p.sections=true/\points p=true/\signals p (ends p.sections)=true
   ·rw[h2.1,h2.2.1,h2.2.2,Bool.not_true,Bool.or_false,Bool.or_false,cond_false]
    refine zaE (·=X) (fun i _=>∀ j,j<i->rmR p (fun r=>zc0 p r (ends p.sections)) j=false) (fun j hj=>by omega) ?_ ?_
    ·intro i _ za0 hi hI hn
     cases h3:rmR p (fun r=>zc0 p r (ends p.sections)) i with
     |true=>rw[cond_true];exact bad fun h=>by have:=h.2.2 i hi;rw[h3]at this;cases this
     |false =>
      rw[cond_false];refine hn () fun j hj=>?_
      rcases Nat.lt_or_ge j i with h5|h5
      ·exact hI j h5
      ·obtain rfl:j=i:=by omega
       exact h3
    ·intro _ hI
     exact (hiff.2 ⟨h1,h2,hI⟩).symm
   ·have:(!zbR p.sections||(!points p||!signals p (ends p.sections)))=true:=by
     rw[<-Bool.not_eq_false];intro h;simp only[Bool.or_eq_false_iff,Bool.not_eq_false']at h;exact h2 h
    rw[this,cond_true];exact bad fun h=>h2 h.2.1
 exact key _ rfl
theorem zlD:∀ (l:List AskR) (m:List Bool),m.length=100->(∀ a∈l,0<=a.pnt/\a.pnt<=99)->(zlE m l=true↔(∀ a∈l,nth m a.pnt.toNat=false)/\(l.map AskR.pnt).Nodup)
 |[],m,_,_=>by simp[zlE]
 |a::r,m,hm,hr=>by
  have h0:=hr a (by simp)
  have ih:=zlD r (m.set a.pnt.toNat true) (by simpa using hm) fun b hb=>hr b (by simp[hb])
  rw[zlE,Bool.and_eq_true,ih];simp only[List.map_cons,List.nodup_cons,List.mem_cons,forall_eq_or_imp,Bool.not_eq_true',List.mem_map,not_exists,not_and];have key:∀ b∈r,nth (m.set a.pnt.toNat true) b.pnt.toNat=false↔(nth m b.pnt.toNat=false/\b.pnt≠a.pnt):=fun b hb=>by
   have hb':=hr b (by simp[hb])
   rw[za9 _ _ _ _ (by omega)]
   by_cases e:b.pnt=a.pnt
   ·rw[e,if_pos rfl];simp
   ·rw[if_neg (by omega)];simp[e]
  constructor
  ·rintro ⟨h1,h2,h3⟩
   exact ⟨⟨h1,fun b hb=>((key b hb).1 (h2 b hb)).1⟩,fun b hb=>((key b hb).1 (h2 b hb)).2,h3⟩
  ·rintro ⟨⟨h1,h2⟩,h3,h4⟩
   exact ⟨h1,fun b hb=>(key b hb).2 ⟨h2 b hb,h3 b hb⟩,h4⟩
theorem once_iff {l:List AskR} (h:∀ a∈l,0<=a.pnt/\a.pnt<=99):once l=true↔(l.map AskR.pnt).Nodup:=by
 unfold once;rw[zlD l _ (by simp) h]
 constructor
 ·exact fun h=>h.2
 ·intro h2
  exact ⟨fun a ha=>by have:=h a ha;exact zdL _ _ _ (by omega),h2⟩
theorem zjI {p:Pln} {r:Rte}:∀ (m:Nat) (l O:List Int) (i:Nat),m<=l.length->l.length=O.length->(∀ k,k<m->0<=nth O k)->(zgx p r (i:Int) ((outG l O).take m)=true↔∀ k,k<m->p.signals.any (zhX r ((i+k:Nat):Int) ⟨nth l k,nth O k⟩)=false)
 |0,l,O,i,_,_,_=>by simp[zgx]
 |m+1,[],O,i,h,_,_=>by simp at h
 |m+1,n::l,[],i,_,h,_=>by simp at h
 |m+1,n::l,b::O,i,h,hl,h0=>by
  have hb:0<=b:=h0 0 (by omega)
  have ih:=zjI (p:=p) (r:=r) m l O (i+1) (by simpa using h) (by simpa using hl) fun k hk=>h0 (k+1) (by omega)
  rw[outG,if_pos hb,List.singleton_append,List.take_succ_cons,zgx,Bool.and_eq_true,Bool.not_eq_true'];have e:((i:Int)+1)=((i+1:Nat):Int):=by omega
  rw[e,ih];constructor
  ·rintro ⟨h1,h2⟩ k hk
   match k with
   |0=>exact h1
   |k+1 =>
    have:=h2 k (by omega)
    rw[show i+(k+1)=i+1+k by omega]
    exact this
  ·intro h1
   refine ⟨h1 0 (by omega),fun k hk=>?_⟩
   have:=h1 (k+1) (by omega)
   rw[show i+(k+1)=i+1+k by omega]at this
   exact this
def sndT (p:Pln) (r:Rte) (O:List Int) (i:Nat):Bool:=!decide (znS p (nth r.path i) (nth O i)=0)&&decide ((i:Int)<(r.path.length:Int)-1)||decide ((i:Int)=(r.path.length:Int)-1)&&!decide (znS p (nth r.path i) (nth O i)=r.exit)
def sndF (p:Pln) (r:Rte) (asks:List AskR) (O:List Int):Bool :=
 zaZ (fun i _ za0=>zaZ (fun k _ next2=>cond (decide ((nth asks k).pnt=(nth asks i).pnt)) false (next2 ())) (fun _=>za0 ()) i 0 ())
  (fun _=>zaZ (fun i _ za0=>cond (sndT p r O i) false (za0 ())) (fun _=>true) r.path.length 0 ()) asks.length 0 ()
theorem zlF {l m:List Int} {k:Nat} (h:k<l.length):nth (l++m) k=nth l k:=by
 rw[zay (by rw[List.length_append];omega),zay h,List.getElem_append_left h]
section
variable {p:Pln} (h:OkP p) (hs:zbR p.sections=true) (hg:SgsP p) (hp:PtsP p) {r:Rte} (hrr:r∈p.routes) (hr:RteP p r)
include h hs hg hp hrr hr
theorem sndT_iff {v:List Int×List Int} (hv:zjf p r=some v) {k:Nat} (hk:k<r.path.length):sndT p r v.2 k=false↔p.signals.any (zhX r (k:Int) ⟨nth (r.path++r.over) k,nth v.2 k⟩)=false:=by
 obtain ⟨O',h1,h2,h3⟩:=zkU (r.path++r.over) 0 _ [] [] v rfl hv;rw[List.nil_append]at h1;subst h1;have hk2:k<v.2.length:=by rw[h2,List.length_append];omega
 have h4:=h3 k hk2;rw[Nat.zero_add]at h4;rw[zlF hk];have hsec:=(hr.secs (nth r.path k) (List.mem_append.2 (.inl (zac hk)))).1;obtain ⟨hm,hid,_⟩:=zfG hs hsec;have hany:p.signals.any (zhX r (k:Int) ⟨nth r.path k,nth v.2 k⟩)=false↔∀ x∈p.signals,x.sec=nth r.path k->x.ed=nth v.2 k->¬((k:Int)<(r.path.length:Int)-1\/¬x.id=r.exit):=by
  rw[List.any_eq_false];refine forall_congr' fun x=>forall_congr' fun _=>?_
  unfold zhX;simp only[Bool.and_eq_true,Bool.or_eq_true,decide_eq_true_eq,Bool.not_eq_true',decide_eq_false_iff_not];constructor
  ·intro h5 h6 h7 h8;exact h5 ⟨h6,h7,h8⟩
  ·rintro h5 ⟨h6,h7,h8⟩;exact h5 h6 h7 h8
 rw[hany];unfold sndT;simp only[Bool.or_eq_false_iff,Bool.and_eq_false_imp,Bool.not_eq_true',decide_eq_false_iff_not,decide_eq_true_eq,Bool.not_eq_false'];by_cases hl:(k:Int)=(r.path.length:Int)-1
 ·have hrg:0<=nth v.2 k/\zmm p r (r.path++r.over) k (zdI p (nth r.path k)) (nth v.2 k) (nth (zdI p (nth r.path k)).ends (nth v.2 k).toNat)=true:=by
   rcases h4 with h4|h4
   ·rw[zlF hk]at h4;exact h4
   ·have:=h4.2.1
    rw[List.length_append]at this;omega
  have hrg:=hrg.2;unfold zmm at hrg;rw[if_pos hl,hid]at hrg;simp only[Bool.or_eq_true,Bool.and_eq_true,decide_eq_true_eq,Bool.not_eq_true',decide_eq_false_iff_not]at hrg;constructor
  ·rintro ⟨_,h6⟩ x hx e1 e2 e3
   have h7:=h6 hl;have h8:=hg.id x hx;have h9:=(znR hg (n:=x.id) (a:=nth r.path k) (b:=nth v.2 k) (by omega)).2 ⟨x,hx,rfl,e1,e2⟩
   rw[h9]at h7;omega
  ·intro h5
   refine ⟨fun _=>by omega,fun _=>?_⟩
   rcases hrg with ⟨e0,_⟩|⟨_,e1⟩
   ·rw[e0,zqj hg]
    rintro x hx ⟨e1,e2⟩;refine h5 x hx e1 e2 (.inr ?_);have:=hg.id x hx;omega
   ·exact e1
 ·constructor
  ·rintro ⟨h6,_⟩ x hx e1 e2 _
   by_cases h0:znS p (nth r.path k) (nth v.2 k)=0
   ·exact (zqj hg).1 h0 x hx ⟨e1,e2⟩
   ·have:=h6 h0
    omega
  ·intro h5
   refine ⟨fun h0=>?_,fun e=>absurd e hl⟩
   exact absurd ((zqj hg).2 fun x hx e=>h5 x hx e.1 e.2 (.inl (by omega))) h0
theorem snd_eq {v:List Int×List Int} (hv:zjf p r=some v):sndF p r (zao p r).1.asks v.2=zbW p r:=by
 have hw:=zhF hs hg hp hr;rw[hv]at hw;obtain ⟨h1,h2,h3⟩:=hw;have hout:(zao p r).2.1=outG (r.path++r.over) v.2:=by rw[h3]
 obtain ⟨O',h4,h5,h6⟩:=zkU (r.path++r.over) 0 _ [] [] v rfl hv;rw[List.nil_append]at h4;subst h4;have hpos:∀ k,k<r.path.length->0<=nth v.2 k:=fun k hk=>by
  rcases h6 k (by rw[h5,List.length_append];omega) with h7|h7
  ·exact h7.1
  ·have h8:=h7.2.1
   rw[List.length_append]at h8;omega
 have hcl:zg3 p r (zao p r).2.1=true↔∀ k,k<r.path.length->sndT p r v.2 k=false:=by
  unfold zg3;rw[hout];have:=zjI (p:=p) (r:=r) r.path.length (r.path++r.over) v.2 0 (by rw[List.length_append];omega) h2.symm hpos
  simp only[Nat.zero_add]at this;rw[show ((0:Nat):Int)=0 from rfl]at this
  rw[this];exact forall_congr' fun k=>forall_congr' fun hk=>(sndT_iff h hs hg hp hrr hr hv hk).symm
 have honce:once (zao p r).1.asks=true↔((zao p r).1.asks.map AskR.pnt).Nodup:=once_iff fun a ha=>by have:=zdF h hrr ha;omega
 generalize hX:zbW p r=X;have hiff:X=true↔((zao p r).1.asks.map AskR.pnt).Nodup/\∀ k,k<r.path.length->sndT p r v.2 k=false:=by
  rw[<-hX];unfold zbW;rw[Bool.and_eq_true,hcl,honce]
 have bad:¬(((zao p r).1.asks.map AskR.pnt).Nodup/\∀ k,k<r.path.length->sndT p r v.2 k=false)->false=X:=fun h=>by
  cases X with
  |false=>rfl
  |true=>exact absurd (hiff.1 rfl) h
 have hnd:((zao p r).1.asks.map AskR.pnt).Nodup↔∀ i,i<(zao p r).1.asks.length->∀ m,m<i->¬(nth (zao p r).1.asks m).pnt=(nth (zao p r).1.asks i).pnt:=by
  rw[List.nodup_iff_pairwise_ne,List.pairwise_map,zek]
 unfold sndF;generalize (zao p r).1.asks=asks at *;refine zaE (·=X) (fun i _=>∀ j,j<i->∀ m,m<j->¬(nth asks m).pnt=(nth asks j).pnt) (fun j hj=>by omega) ?_ ?_
 ·intro i _ za0 hi hI hn
  refine zaE (·=X) (fun m _=>∀ j,j<m->¬(nth asks j).pnt=(nth asks i).pnt) (fun j hj=>by omega) ?_ ?_
  ·intro m _ next2 hm hM hn2
   by_cases e:(nth asks m).pnt=(nth asks i).pnt
   ·rw[decide_eq_true e,cond_true]
    exact bad fun h=>hnd.1 h.1 i hi m hm e
   ·rw[decide_eq_false e,cond_false]
    refine hn2 () fun j hj=>?_
    rcases Nat.lt_or_ge j m with h1|h1
    ·exact hM j h1
    ·obtain rfl:j=m:=by omega
     exact e
  ·intro _ hM
   refine hn () fun j hj=>?_
   rcases Nat.lt_or_ge j i with h1|h1
   ·exact hI j h1
   ·obtain rfl:j=i:=by omega
    exact hM
 ·intro _ hI
  refine zaE (·=X) (fun i _=>∀ j,j<i->sndT p r v.2 j=false) (fun j hj=>by omega) ?_ ?_
  ·intro i _ za0 hi hJ hn
   cases h7:sndT p r v.2 i with
   |true =>
    rw[cond_true];exact bad fun h=>by have:=h.2 i hi;rw[h7]at this;cases this
   |false =>
    rw[cond_false];refine hn () fun j hj=>?_
    rcases Nat.lt_or_ge j i with h1|h1
    ·exact hJ j h1
    ·obtain rfl:j=i:=by omega
     exact h7
  ·intro _ hJ
   exact (hiff.2 ⟨hnd.2 hI,hJ⟩).symm
end
end Go.Lev
