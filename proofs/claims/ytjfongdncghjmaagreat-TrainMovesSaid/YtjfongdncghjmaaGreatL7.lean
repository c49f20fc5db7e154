/-
  Contracts of functions. Conditions: those that each theorem names.
-/
import Derived.Test.YtjfongdncghjmaaGreatL3
set_option linter.unusedSimpArgs false
set_option linter.unusedVariables false
set_option linter.unusedSectionVars false
namespace Go.Lev
open Go.Eng
set_option maxRecDepth 10000
set_option maxHeartbeats 4000000
variable {P:Program} {inv:Nat->Option Nat}
theorem zrK (hH:HasAll P inv) (l:List Section):PC P inv 21 [.sl 3 (l.map Section.c)] (·=.b (zeL l)):=by
 refine wf hH cd21 fun w0 M Q hM hE hQ hR=>?_;refine wq ?_
 (repeat' first|refine zaa kr fun K hK=>?_|exact wt|refine wA ?_|(refine wB ?_ ?_<;>intro h<;>first|exact wN h|subst (h:(_:Bool)=_)|skip)|(refine wQ ?_;clear hQ hR hE hM)|fail)
 refine zbu (fun k:Nat=>[(0,.sl 3 (l.map Section.c)),(3,.n k)]) (fun _=>[]) (fun k=>k<=l.length/\k<=40/\((l.take 40).drop k).any (fun s=>decide (20<(s.ends.length:Int)))=(l.take 40).any (fun s=>decide (20<(s.ends.length:Int)))) (fun k=>l.length-k) 0 ⟨Nat.zero_le _,Nat.zero_le _,rfl⟩ (by (try dsimp only);(refine wD ?_;try exact wt)<;>omega) (by (try dsimp only);(refine wD ?_;try exact wt)<;>omega) ?_
 rintro k ⟨hk,hk40,hg⟩;rcases Nat.lt_or_ge k (l.take 40).length with hlt|hge
 ·rw[zae hlt]at hg
  rw[List.any_cons,ze1 (by rw[List.length_take]at hlt;omega)]at hg
  rw[List.length_take]at hlt
  (repeat' first|refine zaa kr fun K hK=>?_|exact wt|refine wA ?_|(refine wB ?_ ?_<;>intro h<;>first|exact wN h|subst (h:(_:Bool)=_)|skip)|(refine wQ ?_;clear hQ hR hE hM)|fail)
  ·simp only[zeL,<-hg];simp[h]
  ·have h':¬(20<((nth l k).ends.length:Int)):=by omega
   rw[decide_eq_false h',Bool.false_or]at hg;exact ⟨k+1,by omega,⟨by omega,by omega,hg⟩,(by (try dsimp only);(first|omega|(simp;done)|(simp;omega)))⟩
 ·rw[List.drop_eq_nil_of_le hge]at hg
  rw[List.length_take]at hge
  (repeat' first|refine zaa kr fun K hK=>?_|exact wt|refine wA ?_|(refine wB ?_ ?_<;>intro h<;>first|exact wN h|subst (h:(_:Bool)=_)|skip)|(refine wQ ?_;clear hQ hR hE hM)|fail)
  all_goals (simp only[zeL,<-hg];simp)
end Go.Lev
