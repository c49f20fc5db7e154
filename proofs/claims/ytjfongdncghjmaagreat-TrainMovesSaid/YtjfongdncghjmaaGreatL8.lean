/-
  Contracts of functions. Conditions: those that each theorem names.
-/
import Derived.Test.YtjfongdncghjmaaGreatL5
set_option linter.unusedSimpArgs false
set_option linter.unusedVariables false
set_option linter.unusedSectionVars false
namespace Go.Lev
open Go.Eng
set_option maxRecDepth 10000
set_option maxHeartbeats 4000000
variable {P:Program} {inv:Nat->Option Nat} {w0:World} {M:Nat->Prop}
theorem zmu (hH:HasAll P inv) (hM:∀ b,M b->b<w0.heap.size) (p:Pln) (hp:Sm p) (r:Rte) (x y:Sgn) (w:Wk) (all:List Int) (i:Int) (s:Int) (ba bo:Bool) (hw:w.asks.length<=1000000) (hw2:w.outs.length<=1000000) :
  AC P inv w0 M 30 102 [.ptr 5 11 0,.n s,.n i,.fn 103 []] (stW p r x y w all i s ba bo) fun r0 σ'=>r0=.tup []/\σ'=stW p r x y (zaL p w s i (fun _ j=>decide (j=⟨0,0⟩))) all i s (ba||decide (w.asks.length<(zaL p w s i (fun _ j=>decide (j=⟨0,0⟩))).asks.length)) (bo||decide (w.outs.length<(zaL p w s i (fun _ j=>decide (j=⟨0,0⟩))).outs.length)):=by
 have hs:=zca (fun t:Section=>decide (t.id=s)) p.sections 0
 have c0:=ziB hH p.sections (fun t _=>zhz hH s t) (Nat.le_trans hp.sec (by omega))
 have hl:=hp.sec;obtain ⟨inn,asks,outs,lost⟩:=w;dsimp only at hw hw2;generalize hW:zaL p ⟨inn,asks,outs,lost⟩ s i (fun _ j=>decide (j=⟨0,0⟩))=W
 unfold zaL zho zjj at hW;dsimp only at hW;rcases hs with ⟨h1,h2⟩|⟨k0,hk0,h1,h2⟩
 ·rw[h1]at c0
  rw[h2,ite_self]at hW;refine zbg (F:=cd102) (hH.has _ _ rfl) rfl (Nat.le_of_ble_eq_true rfl) fun Q hQ hR=>?_;have hE:=hH.callable;dsimp only[cd102]at hQ |-;refine wq ?_
  skip
  unfold stW
  (refine wD ?_;try exact wt)
  (repeat' first|refine zaa kB fun K hK=>?_|exact wt|refine wA ?_|(refine wB ?_ ?_<;>intro h<;>first|exact wN h|subst (h:(_:Bool)=_)|skip)|(refine wQ ?_;clear hQ hR)|(refine wI hH cd130 30 fun Q hQ hR=>?_;refine wq ?_;try refine wD ?_)|(refine wI hH cd107 40 fun Q hQ hR=>?_;refine wq ?_;try refine wD ?_)|refine wS c0 ?_|fail)
  all_goals (refine zaj (ι:=Nat) [0,1,2,3,8,17,18,19] (fun z=>[(19,.n z)]) (fun _=>[]) (fun z=>z) (0) (fun _=>True) (0) ?_;rintro k ⟨hk,-⟩;(try dsimp only at hk |-);rcases Nat.lt_or_ge k 0 with hlt|hge)
  all_goals first|(exfalso;omega)|skip
  all_goals (repeat' first|refine zaa kB fun K hK=>?_|exact wt|refine wA ?_|(refine wB ?_ ?_<;>intro h<;>first|exact wN h|subst (h:(_:Bool)=_)|skip)|(refine wQ ?_;clear hQ hR)|fail)
  all_goals (have hW':W=⟨inn,asks,outs,true⟩:=(by rw[<-hW];split<;>simp_all);subst hW';refine ⟨[],trivial, ?_⟩;simp only[swS,stW,Wk.c];(refine wD ?_;try exact wt);(try simp))
 ·rw[h1,Int.zero_add]at c0
  rw[h2]at hW;by_cases hin:inn.to=s
  ·rw[if_pos hin]at hW
   dsimp only at hW;have hse:=hp.ends _ (zac hk0);revert hW hse;generalize hS:nth p.sections k0=S;intro hW hse;cases lost with
   |true =>
    rw[if_pos rfl]at hW;subst hW;refine zbg (F:=cd102) (hH.has _ _ rfl) rfl (Nat.le_of_ble_eq_true rfl) fun Q hQ hR=>?_;have hE:=hH.callable;dsimp only[cd102]at hQ |-;refine wq ?_
    skip
    unfold stW
    (refine wD ?_;try exact wt)
    (have hX:=@hS;(repeat' first|refine zaa kB fun K hK=>?_|exact wt|refine wA ?_|(refine wB ?_ ?_<;>intro h<;>first|exact wN h|subst (h:(_:Bool)=_)|skip)|(refine wQ ?_;clear hQ hR)|(refine wI hH cd130 30 fun Q hQ hR=>?_;refine wq ?_;try refine wD ?_)|(refine wI hH cd107 40 fun Q hQ hR=>?_;refine wq ?_;try refine wD ?_)|refine wS c0 ?_|fail);all_goals clear hX)
    all_goals first|(exfalso;contradiction)|skip
    refine zaj (ι:=Nat) [0,1,2,3,8,17,18,19] (fun z=>[(19,.n z)]) (fun _=>[]) (fun z=>z) (S.ends.length) (fun _=>True) (0) ?_;rintro k ⟨hk,-⟩;(try dsimp only at hk |-);rcases Nat.lt_or_ge k S.ends.length with hlt|hge
    ·have c1:=zcO hH S inn.ed k
     revert c1;generalize za8 S inn.ed k=v;intro c1
     (repeat' first|refine zaa kB fun K hK=>?_|exact wt|refine wA ?_|(refine wB ?_ ?_<;>intro h<;>first|exact wN h|subst (h:(_:Bool)=_)|skip)|(refine wQ ?_;clear hQ hR)|refine wC c1 ?_|fail)
     all_goals exact ⟨k+1,by omega,by omega,by omega⟩
    ·(repeat' first|refine zaa kB fun K hK=>?_|exact wt|refine wA ?_|(refine wB ?_ ?_<;>intro h<;>first|exact wN h|subst (h:(_:Bool)=_)|skip)|(refine wQ ?_;clear hQ hR)|fail)
     refine ⟨[],trivial, ?_⟩;simp only[swS,stW,Wk.c];(refine wD ?_;try exact wt);(try simp)
   |false =>
    rw[if_neg (by simp)]at hW
    refine zbg (F:=cd102) (hH.has _ _ rfl) rfl (Nat.le_of_ble_eq_true rfl) fun Q hQ hR=>?_;have hE:=hH.callable;dsimp only[cd102]at hQ |-;refine wq ?_
    skip
    unfold stW
    (refine wD ?_;try exact wt)
    (have hX:=@hS;(repeat' first|refine zaa kB fun K hK=>?_|exact wt|refine wA ?_|(refine wB ?_ ?_<;>intro h<;>first|exact wN h|subst (h:(_:Bool)=_)|skip)|(refine wQ ?_;clear hQ hR)|(refine wI hH cd130 30 fun Q hQ hR=>?_;refine wq ?_;try refine wD ?_)|(refine wI hH cd107 40 fun Q hQ hR=>?_;refine wq ?_;try refine wD ?_)|refine wS c0 ?_|fail);all_goals clear hX)
    all_goals first|(exfalso;contradiction)|skip
    refine zaj (ι:=Nat) [0,1,2,3,8,17,18,19] (fun z=>[(19,.n z)]) (fun _=>[]) (fun z=>z) (S.ends.length) (fun z=>(zaY S inn.ed (fun _ j=>decide (j=⟨0,0⟩)) z (S.ends.drop z)=zaY S inn.ed (fun _ j=>decide (j=⟨0,0⟩)) 0 S.ends)) (0) ?_;rintro k ⟨hk,hg⟩;(try dsimp only at hk hg |-);rcases Nat.lt_or_ge k S.ends.length with hlt|hge
    ·rw[zae hlt,zaY]at hg
     have c1:=zcO hH S inn.ed k;have c2:=zqz hH k (nth S.ends k);revert c1 c2 hg;generalize za8 S inn.ed k=v;generalize hb:decide (nth S.ends k=⟨0,0⟩)=b;intro hg c1 c2
     (repeat' first|refine zaa kB fun K hK=>?_|exact wt|refine wA ?_|(refine wB ?_ ?_<;>intro h<;>first|exact wN h|subst (h:(_:Bool)=_)|skip)|(refine wQ ?_;clear hQ hR)|refine wC c1 ?_|refine wC c2 ?_|(refine wI hH cd107 40 fun Q hQ hR=>?_;refine wq ?_;try refine wD ?_)|fail)
     all_goals first|(refine ⟨k+1,by omega,⟨by omega, ?_⟩,by omega⟩;rw[<-hg,if_neg (by simp[*])];done)|skip
     all_goals (rw[if_pos ⟨by assumption,rfl⟩]at hg;rw[<-hg]at hW;dsimp only at hW)
     all_goals (first|rw[if_pos ⟨by assumption,by assumption⟩]at hW|rw[if_neg (fun hh=>absurd hh.1 (by assumption))]at hW|rw[if_neg (fun hh=>absurd hh.2 (by assumption))]at hW)
     all_goals (subst hW;refine ⟨[],trivial, ?_⟩;simp only[swS,stW,Wk.c];(refine wD ?_;try exact wt);(try simp[AskR.c,Join.c]))
    ·rw[List.drop_eq_nil_of_le hge,zaY]at hg
     (repeat' first|refine zaa kB fun K hK=>?_|exact wt|refine wA ?_|(refine wB ?_ ?_<;>intro h<;>first|exact wN h|subst (h:(_:Bool)=_)|skip)|(refine wQ ?_;clear hQ hR)|fail)
     rw[<-hg]at hW;dsimp only at hW;subst hW;refine ⟨[],trivial, ?_⟩;simp only[swS,stW,Wk.c];(refine wD ?_;try exact wt);(try simp)
  ·have hW':W=⟨inn,asks,outs,true⟩:=by rw[<-hW,if_neg hin];split<;>simp_all
   clear hW;refine zbg (F:=cd102) (hH.has _ _ rfl) rfl (Nat.le_of_ble_eq_true rfl) fun Q hQ hR=>?_;have hE:=hH.callable;dsimp only[cd102]at hQ |-;refine wq ?_
   skip
   unfold stW
   (refine wD ?_;try exact wt)
   (repeat' first|refine zaa kB fun K hK=>?_|exact wt|refine wA ?_|(refine wB ?_ ?_<;>intro h<;>first|exact wN h|subst (h:(_:Bool)=_)|skip)|(refine wQ ?_;clear hQ hR)|(refine wI hH cd130 30 fun Q hQ hR=>?_;refine wq ?_;try refine wD ?_)|(refine wI hH cd107 40 fun Q hQ hR=>?_;refine wq ?_;try refine wD ?_)|refine wS c0 ?_|fail)
   all_goals first|(exfalso;contradiction)|skip
   all_goals (refine zaj (ι:=Nat) [0,1,2,3,8,17,18,19] (fun z=>[(19,.n z)]) (fun _=>[]) (fun z=>z) (0) (fun _=>True) (0) ?_;rintro k ⟨hk,-⟩;(try dsimp only at hk |-);rcases Nat.lt_or_ge k 0 with hlt|hge)
   all_goals first|(exfalso;omega)|skip
   all_goals (repeat' first|refine zaa kB fun K hK=>?_|exact wt|refine wA ?_|(refine wB ?_ ?_<;>intro h<;>first|exact wN h|subst (h:(_:Bool)=_)|skip)|(refine wQ ?_;clear hQ hR)|fail)
   all_goals (subst hW';refine ⟨[],trivial, ?_⟩;simp only[swS,stW,Wk.c];(refine wD ?_;try exact wt);(try simp))
theorem zmt (hH:HasAll P inv) (hM:∀ b,M b->b<w0.heap.size) (p:Pln) (hp:Sm p) (r:Rte) (x y:Sgn) (w:Wk) (all:List Int) (i:Int) (s:Int) (ba bo:Bool) (hw:w.asks.length<=1000000) (hw2:w.outs.length<=1000000) :
  AC P inv w0 M 30 102 [.ptr 5 11 0,.n s,.n i,.fn 104 [.ptr 23 1 0,.ptr 4 3 0]] (stW p r x y w all i s ba bo) fun r0 σ'=>r0=.tup []/\σ'=stW p r x y (zaL p w s i (fun e _=>decide (s=y.sec)&&decide (e=y.ed))) all i s (ba||decide (w.asks.length<(zaL p w s i (fun e _=>decide (s=y.sec)&&decide (e=y.ed))).asks.length)) (bo||decide (w.outs.length<(zaL p w s i (fun e _=>decide (s=y.sec)&&decide (e=y.ed))).outs.length)):=by
 have hs:=zca (fun t:Section=>decide (t.id=s)) p.sections 0
 have c0:=ziB hH p.sections (fun t _=>zhz hH s t) (Nat.le_trans hp.sec (by omega))
 have hl:=hp.sec;obtain ⟨inn,asks,outs,lost⟩:=w;dsimp only at hw hw2;generalize hW:zaL p ⟨inn,asks,outs,lost⟩ s i (fun e _=>decide (s=y.sec)&&decide (e=y.ed))=W
 unfold zaL zho zjj at hW;dsimp only at hW;rcases hs with ⟨h1,h2⟩|⟨k0,hk0,h1,h2⟩
 ·rw[h1]at c0
  rw[h2,ite_self]at hW;refine zbg (F:=cd102) (hH.has _ _ rfl) rfl (Nat.le_of_ble_eq_true rfl) fun Q hQ hR=>?_;have hE:=hH.callable;dsimp only[cd102]at hQ |-;refine wq ?_
  skip
  unfold stW
  (refine wD ?_;try exact wt)
  (repeat' first|refine zaa kB fun K hK=>?_|exact wt|refine wA ?_|(refine wB ?_ ?_<;>intro h<;>first|exact wN h|subst (h:(_:Bool)=_)|skip)|(refine wQ ?_;clear hQ hR)|(refine wI hH cd130 30 fun Q hQ hR=>?_;refine wq ?_;try refine wD ?_)|(refine wI hH cd107 40 fun Q hQ hR=>?_;refine wq ?_;try refine wD ?_)|refine wS c0 ?_|fail)
  all_goals (refine zaj (ι:=Nat) [0,1,2,3,8,17,18,19] (fun z=>[(19,.n z)]) (fun _=>[]) (fun z=>z) (0) (fun _=>True) (0) ?_;rintro k ⟨hk,-⟩;(try dsimp only at hk |-);rcases Nat.lt_or_ge k 0 with hlt|hge)
  all_goals first|(exfalso;omega)|skip
  all_goals (repeat' first|refine zaa kB fun K hK=>?_|exact wt|refine wA ?_|(refine wB ?_ ?_<;>intro h<;>first|exact wN h|subst (h:(_:Bool)=_)|skip)|(refine wQ ?_;clear hQ hR)|fail)
  all_goals (have hW':W=⟨inn,asks,outs,true⟩:=(by rw[<-hW];split<;>simp_all);subst hW';refine ⟨[],trivial, ?_⟩;simp only[swS,stW,Wk.c];(refine wD ?_;try exact wt);(try simp))
 ·rw[h1,Int.zero_add]at c0
  rw[h2]at hW;by_cases hin:inn.to=s
  ·rw[if_pos hin]at hW
   dsimp only at hW;have hse:=hp.ends _ (zac hk0);revert hW hse;generalize hS:nth p.sections k0=S;intro hW hse;cases lost with
   |true =>
    rw[if_pos rfl]at hW;subst hW;refine zbg (F:=cd102) (hH.has _ _ rfl) rfl (Nat.le_of_ble_eq_true rfl) fun Q hQ hR=>?_;have hE:=hH.callable;dsimp only[cd102]at hQ |-;refine wq ?_
    skip
    unfold stW
    (refine wD ?_;try exact wt)
    (have hX:=@hS;(repeat' first|refine zaa kB fun K hK=>?_|exact wt|refine wA ?_|(refine wB ?_ ?_<;>intro h<;>first|exact wN h|subst (h:(_:Bool)=_)|skip)|(refine wQ ?_;clear hQ hR)|(refine wI hH cd130 30 fun Q hQ hR=>?_;refine wq ?_;try refine wD ?_)|(refine wI hH cd107 40 fun Q hQ hR=>?_;refine wq ?_;try refine wD ?_)|refine wS c0 ?_|fail);all_goals clear hX)
    all_goals first|(exfalso;contradiction)|skip
    refine zaj (ι:=Nat) [0,1,2,3,8,17,18,19] (fun z=>[(19,.n z)]) (fun _=>[]) (fun z=>z) (S.ends.length) (fun _=>True) (0) ?_;rintro k ⟨hk,-⟩;(try dsimp only at hk |-);rcases Nat.lt_or_ge k S.ends.length with hlt|hge
    ·have c1:=zcO hH S inn.ed k
     revert c1;generalize za8 S inn.ed k=v;intro c1
     (repeat' first|refine zaa kB fun K hK=>?_|exact wt|refine wA ?_|(refine wB ?_ ?_<;>intro h<;>first|exact wN h|subst (h:(_:Bool)=_)|skip)|(refine wQ ?_;clear hQ hR)|refine wC c1 ?_|fail)
     all_goals exact ⟨k+1,by omega,by omega,by omega⟩
    ·(repeat' first|refine zaa kB fun K hK=>?_|exact wt|refine wA ?_|(refine wB ?_ ?_<;>intro h<;>first|exact wN h|subst (h:(_:Bool)=_)|skip)|(refine wQ ?_;clear hQ hR)|fail)
     refine ⟨[],trivial, ?_⟩;simp only[swS,stW,Wk.c];(refine wD ?_;try exact wt);(try simp)
   |false =>
    rw[if_neg (by simp)]at hW
    refine zbg (F:=cd102) (hH.has _ _ rfl) rfl (Nat.le_of_ble_eq_true rfl) fun Q hQ hR=>?_;have hE:=hH.callable;dsimp only[cd102]at hQ |-;refine wq ?_
    skip
    unfold stW
    (refine wD ?_;try exact wt)
    (have hX:=@hS;(repeat' first|refine zaa kB fun K hK=>?_|exact wt|refine wA ?_|(refine wB ?_ ?_<;>intro h<;>first|exact wN h|subst (h:(_:Bool)=_)|skip)|(refine wQ ?_;clear hQ hR)|(refine wI hH cd130 30 fun Q hQ hR=>?_;refine wq ?_;try refine wD ?_)|(refine wI hH cd107 40 fun Q hQ hR=>?_;refine wq ?_;try refine wD ?_)|refine wS c0 ?_|fail);all_goals clear hX)
    all_goals first|(exfalso;contradiction)|skip
    refine zaj (ι:=Nat) [0,1,2,3,8,17,18,19] (fun z=>[(19,.n z)]) (fun _=>[]) (fun z=>z) (S.ends.length) (fun z=>(zaY S inn.ed (fun e _=>decide (s=y.sec)&&decide (e=y.ed)) z (S.ends.drop z)=zaY S inn.ed (fun e _=>decide (s=y.sec)&&decide (e=y.ed)) 0 S.ends)) (0) ?_;rintro k ⟨hk,hg⟩;(try dsimp only at hk hg |-);rcases Nat.lt_or_ge k S.ends.length with hlt|hge
    ·rw[zae hlt,zaY]at hg
     have c1:=zcO hH S inn.ed k;have c2:=zqy hH k (nth S.ends k) s y;revert c1 c2 hg;generalize za8 S inn.ed k=v;generalize hb:(decide (s=y.sec)&&decide ((k:Int)=y.ed))=b;intro hg c1 c2
     (repeat' first|refine zaa kB fun K hK=>?_|exact wt|refine wA ?_|(refine wB ?_ ?_<;>intro h<;>first|exact wN h|subst (h:(_:Bool)=_)|skip)|(refine wQ ?_;clear hQ hR)|refine wC c1 ?_|refine wS c2 ?_|(refine wI hH cd107 40 fun Q hQ hR=>?_;refine wq ?_;try refine wD ?_)|fail)
     all_goals first|(refine ⟨k+1,by omega,⟨by omega, ?_⟩,by omega⟩;rw[<-hg,if_neg (by simp[*])];done)|skip
     all_goals (rw[if_pos ⟨by assumption,rfl⟩]at hg;rw[<-hg]at hW;dsimp only at hW)
     all_goals (first|rw[if_pos ⟨by assumption,by assumption⟩]at hW|rw[if_neg (fun hh=>absurd hh.1 (by assumption))]at hW|rw[if_neg (fun hh=>absurd hh.2 (by assumption))]at hW)
     all_goals (subst hW;refine ⟨[],trivial, ?_⟩;simp only[swS,stW,Wk.c];(refine wD ?_;try exact wt);(try simp[AskR.c,Join.c]))
    ·rw[List.drop_eq_nil_of_le hge,zaY]at hg
     (repeat' first|refine zaa kB fun K hK=>?_|exact wt|refine wA ?_|(refine wB ?_ ?_<;>intro h<;>first|exact wN h|subst (h:(_:Bool)=_)|skip)|(refine wQ ?_;clear hQ hR)|fail)
     rw[<-hg]at hW;dsimp only at hW;subst hW;refine ⟨[],trivial, ?_⟩;simp only[swS,stW,Wk.c];(refine wD ?_;try exact wt);(try simp)
  ·have hW':W=⟨inn,asks,outs,true⟩:=by rw[<-hW,if_neg hin];split<;>simp_all
   clear hW;refine zbg (F:=cd102) (hH.has _ _ rfl) rfl (Nat.le_of_ble_eq_true rfl) fun Q hQ hR=>?_;have hE:=hH.callable;dsimp only[cd102]at hQ |-;refine wq ?_
   skip
   unfold stW
   (refine wD ?_;try exact wt)
   (repeat' first|refine zaa kB fun K hK=>?_|exact wt|refine wA ?_|(refine wB ?_ ?_<;>intro h<;>first|exact wN h|subst (h:(_:Bool)=_)|skip)|(refine wQ ?_;clear hQ hR)|(refine wI hH cd130 30 fun Q hQ hR=>?_;refine wq ?_;try refine wD ?_)|(refine wI hH cd107 40 fun Q hQ hR=>?_;refine wq ?_;try refine wD ?_)|refine wS c0 ?_|fail)
   all_goals first|(exfalso;contradiction)|skip
   all_goals (refine zaj (ι:=Nat) [0,1,2,3,8,17,18,19] (fun z=>[(19,.n z)]) (fun _=>[]) (fun z=>z) (0) (fun _=>True) (0) ?_;rintro k ⟨hk,-⟩;(try dsimp only at hk |-);rcases Nat.lt_or_ge k 0 with hlt|hge)
   all_goals first|(exfalso;omega)|skip
   all_goals (repeat' first|refine zaa kB fun K hK=>?_|exact wt|refine wA ?_|(refine wB ?_ ?_<;>intro h<;>first|exact wN h|subst (h:(_:Bool)=_)|skip)|(refine wQ ?_;clear hQ hR)|fail)
   all_goals (subst hW';refine ⟨[],trivial, ?_⟩;simp only[swS,stW,Wk.c];(refine wD ?_;try exact wt);(try simp))
theorem zms (hH:HasAll P inv) (hM:∀ b,M b->b<w0.heap.size) (p:Pln) (hp:Sm p) (r:Rte) (x y:Sgn) (w:Wk) (all:List Int) (i:Nat) (s:Int) (ba bo:Bool) (hw:w.asks.length<=1000000) (hw2:w.outs.length<=1000000) (hi:i+1<all.length) (ha:all.length<=1000000000) :
  AC P inv w0 M 30 102 [.ptr 5 11 0,.n s,.n i,.fn 106 [.ptr 6 1 0,.ptr 22 1 0]] (stW p r x y w all i s ba bo) fun r0 σ'=>r0=.tup []/\σ'=stW p r x y (zaL p w s i (fun _ j=>decide (j.to=nth all (i+1)))) all i s (ba||decide (w.asks.length<(zaL p w s i (fun _ j=>decide (j.to=nth all (i+1)))).asks.length)) (bo||decide (w.outs.length<(zaL p w s i (fun _ j=>decide (j.to=nth all (i+1)))).outs.length)):=by
 have hs:=zca (fun t:Section=>decide (t.id=s)) p.sections 0
 have c0:=ziB hH p.sections (fun t _=>zhz hH s t) (Nat.le_trans hp.sec (by omega))
 have hl:=hp.sec;obtain ⟨inn,asks,outs,lost⟩:=w;dsimp only at hw hw2;generalize hW:zaL p ⟨inn,asks,outs,lost⟩ s i (fun _ j=>decide (j.to=nth all (i+1)))=W
 unfold zaL zho zjj at hW;dsimp only at hW;rcases hs with ⟨h1,h2⟩|⟨k0,hk0,h1,h2⟩
 ·rw[h1]at c0
  rw[h2,ite_self]at hW;refine zbg (F:=cd102) (hH.has _ _ rfl) rfl (Nat.le_of_ble_eq_true rfl) fun Q hQ hR=>?_;have hE:=hH.callable;dsimp only[cd102]at hQ |-;refine wq ?_
  skip
  unfold stW
  (refine wD ?_;try exact wt)
  (repeat' first|refine zaa kB fun K hK=>?_|exact wt|refine wA ?_|(refine wB ?_ ?_<;>intro h<;>first|exact wN h|subst (h:(_:Bool)=_)|skip)|(refine wQ ?_;clear hQ hR)|(refine wI hH cd130 30 fun Q hQ hR=>?_;refine wq ?_;try refine wD ?_)|(refine wI hH cd107 40 fun Q hQ hR=>?_;refine wq ?_;try refine wD ?_)|refine wS c0 ?_|fail)
  all_goals (refine zaj (ι:=Nat) [0,1,2,3,8,17,18,19] (fun z=>[(19,.n z)]) (fun _=>[]) (fun z=>z) (0) (fun _=>True) (0) ?_;rintro k ⟨hk,-⟩;(try dsimp only at hk |-);rcases Nat.lt_or_ge k 0 with hlt|hge)
  all_goals first|(exfalso;omega)|skip
  all_goals (repeat' first|refine zaa kB fun K hK=>?_|exact wt|refine wA ?_|(refine wB ?_ ?_<;>intro h<;>first|exact wN h|subst (h:(_:Bool)=_)|skip)|(refine wQ ?_;clear hQ hR)|fail)
  all_goals (have hW':W=⟨inn,asks,outs,true⟩:=(by rw[<-hW];split<;>simp_all);subst hW';refine ⟨[],trivial, ?_⟩;simp only[swS,stW,Wk.c];(refine wD ?_;try exact wt);(try simp))
 ·rw[h1,Int.zero_add]at c0
  rw[h2]at hW;by_cases hin:inn.to=s
  ·rw[if_pos hin]at hW
   dsimp only at hW;have hse:=hp.ends _ (zac hk0);revert hW hse;generalize hS:nth p.sections k0=S;intro hW hse;cases lost with
   |true =>
    rw[if_pos rfl]at hW;subst hW;refine zbg (F:=cd102) (hH.has _ _ rfl) rfl (Nat.le_of_ble_eq_true rfl) fun Q hQ hR=>?_;have hE:=hH.callable;dsimp only[cd102]at hQ |-;refine wq ?_
    skip
    unfold stW
    (refine wD ?_;try exact wt)
    (have hX:=@hS;(repeat' first|refine zaa kB fun K hK=>?_|exact wt|refine wA ?_|(refine wB ?_ ?_<;>intro h<;>first|exact wN h|subst (h:(_:Bool)=_)|skip)|(refine wQ ?_;clear hQ hR)|(refine wI hH cd130 30 fun Q hQ hR=>?_;refine wq ?_;try refine wD ?_)|(refine wI hH cd107 40 fun Q hQ hR=>?_;refine wq ?_;try refine wD ?_)|refine wS c0 ?_|fail);all_goals clear hX)
    all_goals first|(exfalso;contradiction)|skip
    refine zaj (ι:=Nat) [0,1,2,3,8,17,18,19] (fun z=>[(19,.n z)]) (fun _=>[]) (fun z=>z) (S.ends.length) (fun _=>True) (0) ?_;rintro k ⟨hk,-⟩;(try dsimp only at hk |-);rcases Nat.lt_or_ge k S.ends.length with hlt|hge
    ·have c1:=zcO hH S inn.ed k
     revert c1;generalize za8 S inn.ed k=v;intro c1
     (repeat' first|refine zaa kB fun K hK=>?_|exact wt|refine wA ?_|(refine wB ?_ ?_<;>intro h<;>first|exact wN h|subst (h:(_:Bool)=_)|skip)|(refine wQ ?_;clear hQ hR)|refine wC c1 ?_|fail)
     all_goals exact ⟨k+1,by omega,by omega,by omega⟩
    ·(repeat' first|refine zaa kB fun K hK=>?_|exact wt|refine wA ?_|(refine wB ?_ ?_<;>intro h<;>first|exact wN h|subst (h:(_:Bool)=_)|skip)|(refine wQ ?_;clear hQ hR)|fail)
     refine ⟨[],trivial, ?_⟩;simp only[swS,stW,Wk.c];(refine wD ?_;try exact wt);(try simp)
   |false =>
    rw[if_neg (by simp)]at hW
    refine zbg (F:=cd102) (hH.has _ _ rfl) rfl (Nat.le_of_ble_eq_true rfl) fun Q hQ hR=>?_;have hE:=hH.callable;dsimp only[cd102]at hQ |-;refine wq ?_
    skip
    unfold stW
    (refine wD ?_;try exact wt)
    (have hX:=@hS;(repeat' first|refine zaa kB fun K hK=>?_|exact wt|refine wA ?_|(refine wB ?_ ?_<;>intro h<;>first|exact wN h|subst (h:(_:Bool)=_)|skip)|(refine wQ ?_;clear hQ hR)|(refine wI hH cd130 30 fun Q hQ hR=>?_;refine wq ?_;try refine wD ?_)|(refine wI hH cd107 40 fun Q hQ hR=>?_;refine wq ?_;try refine wD ?_)|refine wS c0 ?_|fail);all_goals clear hX)
    all_goals first|(exfalso;contradiction)|skip
    refine zaj (ι:=Nat) [0,1,2,3,8,17,18,19] (fun z=>[(19,.n z)]) (fun _=>[]) (fun z=>z) (S.ends.length) (fun z=>(zaY S inn.ed (fun _ j=>decide (j.to=nth all (i+1))) z (S.ends.drop z)=zaY S inn.ed (fun _ j=>decide (j.to=nth all (i+1))) 0 S.ends)) (0) ?_;rintro k ⟨hk,hg⟩;(try dsimp only at hk hg |-);rcases Nat.lt_or_ge k S.ends.length with hlt|hge
    ·rw[zae hlt,zaY]at hg
     have c1:=zcO hH S inn.ed k;have c2:=zqx hH k (nth S.ends k) all i hi ha;revert c1 c2 hg;generalize za8 S inn.ed k=v;generalize hb:decide ((nth S.ends k).to=nth all (i+1))=b;intro hg c1 c2
     (repeat' first|refine zaa kB fun K hK=>?_|exact wt|refine wA ?_|(refine wB ?_ ?_<;>intro h<;>first|exact wN h|subst (h:(_:Bool)=_)|skip)|(refine wQ ?_;clear hQ hR)|refine wC c1 ?_|refine wS c2 ?_|(refine wI hH cd107 40 fun Q hQ hR=>?_;refine wq ?_;try refine wD ?_)|fail)
     all_goals first|(refine ⟨k+1,by omega,⟨by omega, ?_⟩,by omega⟩;rw[<-hg,if_neg (by simp[*])];done)|skip
     all_goals (rw[if_pos ⟨by assumption,rfl⟩]at hg;rw[<-hg]at hW;dsimp only at hW)
     all_goals (first|rw[if_pos ⟨by assumption,by assumption⟩]at hW|rw[if_neg (fun hh=>absurd hh.1 (by assumption))]at hW|rw[if_neg (fun hh=>absurd hh.2 (by assumption))]at hW)
     all_goals (subst hW;refine ⟨[],trivial, ?_⟩;simp only[swS,stW,Wk.c];(refine wD ?_;try exact wt);(try simp[AskR.c,Join.c]))
    ·rw[List.drop_eq_nil_of_le hge,zaY]at hg
     (repeat' first|refine zaa kB fun K hK=>?_|exact wt|refine wA ?_|(refine wB ?_ ?_<;>intro h<;>first|exact wN h|subst (h:(_:Bool)=_)|skip)|(refine wQ ?_;clear hQ hR)|fail)
     rw[<-hg]at hW;dsimp only at hW;subst hW;refine ⟨[],trivial, ?_⟩;simp only[swS,stW,Wk.c];(refine wD ?_;try exact wt);(try simp)
  ·have hW':W=⟨inn,asks,outs,true⟩:=by rw[<-hW,if_neg hin];split<;>simp_all
   clear hW;refine zbg (F:=cd102) (hH.has _ _ rfl) rfl (Nat.le_of_ble_eq_true rfl) fun Q hQ hR=>?_;have hE:=hH.callable;dsimp only[cd102]at hQ |-;refine wq ?_
   skip
   unfold stW
   (refine wD ?_;try exact wt)
   (repeat' first|refine zaa kB fun K hK=>?_|exact wt|refine wA ?_|(refine wB ?_ ?_<;>intro h<;>first|exact wN h|subst (h:(_:Bool)=_)|skip)|(refine wQ ?_;clear hQ hR)|(refine wI hH cd130 30 fun Q hQ hR=>?_;refine wq ?_;try refine wD ?_)|(refine wI hH cd107 40 fun Q hQ hR=>?_;refine wq ?_;try refine wD ?_)|refine wS c0 ?_|fail)
   all_goals first|(exfalso;contradiction)|skip
   all_goals (refine zaj (ι:=Nat) [0,1,2,3,8,17,18,19] (fun z=>[(19,.n z)]) (fun _=>[]) (fun z=>z) (0) (fun _=>True) (0) ?_;rintro k ⟨hk,-⟩;(try dsimp only at hk |-);rcases Nat.lt_or_ge k 0 with hlt|hge)
   all_goals first|(exfalso;omega)|skip
   all_goals (repeat' first|refine zaa kB fun K hK=>?_|exact wt|refine wA ?_|(refine wB ?_ ?_<;>intro h<;>first|exact wN h|subst (h:(_:Bool)=_)|skip)|(refine wQ ?_;clear hQ hR)|fail)
   all_goals (subst hW';refine ⟨[],trivial, ?_⟩;simp only[swS,stW,Wk.c];(refine wD ?_;try exact wt);(try simp))
end Go.Lev
