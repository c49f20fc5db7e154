/-
  Contracts of functions. Conditions: those that each theorem names.
-/
import Derived.Test.YtjfongdncghjmaaGreatL3
import Derived.Test.YtjfongdncghjmaaGreatL4
set_option linter.unusedSimpArgs false
set_option linter.unusedVariables false
set_option linter.unusedSectionVars false
namespace Go.Lev
open Go.Eng
set_option maxRecDepth 10000
set_option maxHeartbeats 4000000
variable {P:Program} {inv:Nat->Option Nat}
def nextS (x:Section×Int) (e:Int):Join×Int:=if x.2=0 then (if e<0\/(x.1.ends.length:Int)<=e then (⟨0,0⟩,2) else (nth x.1.ends e.toNat,0)) else (⟨0,0⟩,x.2)
def za0 (l:List Section) (id e:Int):Join×Int:=nextS (zaz l id) e
theorem zdC (hH:HasAll P inv) (l:List Section) (id:Int) (hl:l.length<=1000000000) (he:∀ s∈l,s.ends.length<=1000000):PC P inv 22 [.sl 3 (l.map Section.c),.n id] (·=.tup [.agg (zaz l id).1.c,.n (zaz l id).2]):=find_eq l id▸find_pc hH l id hl he
theorem ziw (hH:HasAll P inv) (l:List Section) (id e:Int) (hl:l.length<=1000000000) (he:∀ s∈l,s.ends.length<=1000000):PC P inv 24 [.sl 3 (l.map Section.c),.n id,.n e] (·=.tup [.agg (za0 l id e).1.c,.n (za0 l id e).2]):=by
 refine wf hH cd24 fun w0 M Q hM hE hQ hR=>?_;refine wq ?_
 (repeat' first|refine zaa [0,1,2,6,7,8,9,16,21] fun K hK=>?_|exact wt|refine wA ?_|(refine wB ?_ ?_<;>intro h<;>first|exact wN h|subst (h:(_:Bool)=_)|skip)|(refine wQ ?_;clear hQ hR hE hM)|(refine zak hM (zdC hH _ _ hl he) ?_;try refine wD ?_)|fail)
 all_goals (simp[za0,nextS, *])
end Go.Lev
