/-
  Contracts of functions. Conditions: those that each theorem names.
-/
import Derived.Test.YtjfongdncghjmaaGreatL14
import Derived.Test.YtjfongdncghjmaaGreatL15
set_option linter.unusedSimpArgs false
set_option linter.unusedVariables false
set_option linter.unusedSectionVars false
namespace Go.Lev
open Go.Eng
set_option maxRecDepth 10000
set_option maxHeartbeats 4000000
variable {P:Program} {inv:Nat->Option Nat} {w0:World} {M:Nat->Prop}
theorem is17_ref (hH:HasAll P inv) (p:Pln) (hp:Sm p) (s:State) (hs:SmS s) (hst:zav p s=0) {n:Int} (hn:zkJ p n=true):PC P inv 335 [.agg p.c,.agg s.c,.n n] (·=.i .u8 (zd2 s n)):=by
 have ho:=zar hst;have hpa:=(zam hst).2.1;have hpl:=zaC hpa;have c1:=secR_ref hH p (by have:=hp.sec;omega) n
 obtain ⟨x,hx,ex⟩:=List.any_eq_true.1 hn;have ex:x.id=n:=by simpa using ex
 rcases zcb Section.id n p.sections with ⟨_,h4⟩|⟨k,hk,h4,h5⟩
 ·exact absurd ex (h4 x hx)
 ·rw[h4]at c1
  have hks:k<s.tracks.length:=by omega
  have h1:=(ze0 _ _ _).1 (by simp only[zan,Bool.and_eq_true]at hpa;exact hpa.1)
  have h2:=h1.2 k hks;simp only[zgH,Bool.and_eq_true,decide_eq_true_eq]at h2;have h3:=zm4 ho hpa hks;rw[h2.1,h5]at h3;rw[h3];have hl1:=hs.1;clear hst ho hpa hpl h1 h2 h3 h5 hn;refine wf hH cd335 fun w0 M Q hM hE hQ hR=>?_;refine wq ?_
  (have hX:=@Int.toNat_natCast;(repeat' first|refine zaa [0,1,2,3,4,6] fun K hK=>?_|exact wt|refine wA ?_|(refine wB ?_ ?_<;>intro h<;>first|exact wN h|subst (h:(_:Bool)=_)|skip)|(refine wQ ?_;clear hQ hR hE hM)|refine wC c1 ?_|refine wU c1 ?_|fail);all_goals clear hX)
  all_goals first|rfl|(exfalso;omega)
set_option maxHeartbeats 8000000
theorem bsT_le (l:List TrainD) (n:Int):∀ (m i j:Nat),j-i<=m->i<=j->i<=bsT l n i j/\bsT l n i j<=j:=by
 intro m
 induction m with
 |zero=>intro i j h hij;unfold bsT;rw[dif_neg (by omega)];omega
 |succ m ih =>
  intro i j h hij;unfold bsT;split
  ·split
   ·have:=ih ((i+j) / 2+1) j (by omega) (by omega);omega
   ·have:=ih i ((i+j) / 2) (by omega) (by omega);omega
  ·omega
def fndT (l:List TrainD) (n:Int):Bool:=decide (bsT l n 0 l.length<l.length)&&decide ((nth l (bsT l n 0 l.length)).id-n=0)
theorem bsT_pc (hH:HasAll P inv) (l:List TrainD) (n:Int) (hl:l.length<=1000000) (hid:∀ t∈l,0<=t.id/\t.id<=1000) (hn9:0<=n/\n<=1000):PC P inv 256 [.sl 8 (l.map TrainD.c),.n n,.fn 257 []] (·=.tup [.n (bsT l n 0 l.length),.b (fndT l n)]):=by
 have hb:=bsT_le l n l.length 0 l.length (by omega) (by omega)
 have cc:∀ k,k<l.length->PC P inv 257 [.agg (nth l k).c,.n n] (·=.n ((nth l k).id-n)):=fun k hk=>zsa hH (nth l k) n (hid _ (zac hk)) hn9
 refine wf hH cd256 fun w0 M Q hM hE hQ hR=>?_;refine wq ?_
 (repeat' first|refine zaa kk fun K hK=>?_|exact wt|refine wA ?_|(refine wB ?_ ?_<;>intro h<;>first|exact wN h|subst (h:(_:Bool)=_)|skip)|(refine wQ ?_;clear hQ hR hE hM)|fail)
 refine zbu (ι:=Nat×Nat) (fun k=>[(0,.sl 8 (l.map TrainD.c)),(1,.n n),(2,.fn 257 []),(8,.n l.length),(9,.n k.1),(10,.n k.2)]) (fun _=>[]) (fun k=>k.1<=k.2/\k.2<=l.length/\bsT l n k.1 k.2=bsT l n 0 l.length) (fun k=>k.2-k.1) (0,l.length) ⟨by omega,by omega,rfl⟩ ?_ ?_ ?_
 ·(refine wD ?_;try exact wt)
  rfl
 ·(refine wD ?_;try exact wt)
 rintro ⟨i,j⟩ ⟨h1,h2,hg⟩;dsimp only at h1 h2 hg |-
 rcases Nat.lt_or_ge i j with hlt|hge
 ·rw[zoD hlt]at hg
  have e1:(((i:Int)+j) / 2).toNat=(i+j) / 2:=by omega
  have d1:=cc ((i+j) / 2) (by omega)
  (have hX:=@e1;(repeat' first|refine zaa kk fun K hK=>?_|exact wt|refine wA ?_|(refine wB ?_ ?_<;>intro h<;>first|exact wN h|subst (h:(_:Bool)=_)|skip)|(refine wQ ?_;clear hQ hR hE hM)|refine wC d1 ?_|fail);all_goals clear hX)
  ·rw[if_pos h]at hg
   exact ⟨((i+j) / 2+1,j),by dsimp only;omega,⟨by dsimp only;omega,h2,hg⟩,(by (try dsimp only);(first|omega|(simp;done)|(simp;omega)))⟩
  ·rw[if_neg (by omega)]at hg
   exact ⟨(i,(i+j) / 2),by dsimp only;omega,⟨by dsimp only;omega,by dsimp only;omega,hg⟩,(by (try dsimp only);(first|omega|(simp;done)|(simp;omega)))⟩
 ·obtain rfl:i=j:=by omega
  rw[zk2]at hg;have hF:fndT l n=(decide (i<l.length)&&decide ((nth l i).id-n=0)):=by unfold fndT;rw[<-hg]
  by_cases h7:i<l.length
  ·have d1:=cc i h7
   (repeat' first|refine zaa kk fun K hK=>?_|exact wt|refine wA ?_|(refine wB ?_ ?_<;>intro h<;>first|exact wN h|subst (h:(_:Bool)=_)|skip)|(refine wQ ?_;clear hQ hR hE hM)|refine wC d1 ?_|fail)
   all_goals first|(rw[hF,<-hg];simp[h7];done)|(exfalso;contradiction)
  ·(repeat' first|refine zaa kk fun K hK=>?_|exact wt|refine wA ?_|(refine wB ?_ ?_<;>intro h<;>first|exact wN h|subst (h:(_:Bool)=_)|skip)|(refine wQ ?_;clear hQ hR hE hM)|fail)
   all_goals first|(rw[hF,<-hg];simp[h7];done)|(exfalso;contradiction)
theorem mvR_len (p:Pln) (s:State) (l:List TrainD) (m:MoveD):(mvR p s l m).2.1.length<=l.length+1:=by
 unfold mvR;split
 ·split
  ·unfold zpK;repeat' split
   all_goals first|(simp;done)|(simp[zog];done)
  ·split
   ·unfold zgC zhq;repeat' split
    all_goals simp
   ·split
    ·unfold zgC zja;repeat' split
     all_goals simp
    ·split
     ·unfold zgC zi9;repeat' split
      all_goals simp
     ·split
      ·unfold zgC zje;repeat' split
       all_goals first|(simp;done)|(dsimp only;exact Nat.le_trans (List.length_eraseIdx_le _ _) (by omega))
      ·simp
 ·simp
end Go.Lev
