/-
  A part of the engine that walks the functions' codes, and of the functions' contracts. Conditions: those that each theorem names.
-/
import Derived.Test.YtfccjknloajclaaGreatL6
import Derived.IntWalk
set_option linter.unusedSimpArgs false
set_option linter.unusedVariables false
set_option linter.unusedSectionVars false
namespace Go.Lev
open Go.Eng
set_option maxRecDepth 10000
set_option maxHeartbeats 4000000
variable {P:Program} {inv:Nat→Option Nat}
theorem zgX (a b:Track):a=b↔a.id=b.id∧a.is=b.is:=by cases a;cases b;simp
theorem zf6 (a b:Switch):a=b↔a.id=b.id∧a.lie=b.lie∧a.call=b.call:=by cases a;cases b;simp
theorem ziN (a b:Lock):a=b↔a.id=b.id∧a.phase=b.phase∧a.gone=b.gone∧a.left=b.left:=by cases a;cases b;simp
theorem zcG (a b:State):a=b↔a.tracks=b.tracks∧a.switches=b.switches∧a.locks=b.locks:=by cases a;cases b;simp
theorem zkq (hH:HasAll P inv) (a b:List Track) (hl:a.length≤1000000000):PC P inv 34 [.sl 2 (a.map Track.c),.sl 2 (b.map Track.c)] (·=.b (decide (a=b))):=by
 refine PC.fn hH cd34 fun w0 M Q hM hE hQ hR=>?_;dsimp only[cd34,qm,ql,qf,qi,qb,qc,qp,qv,qN,qT,qF,qt]at hQ ⊢
 (repeat' first|refine zaa [0,1,4,5,10,12,13,14,24] fun K hK=>?_|(refine hK.go ?_;clear hK K)|with_reducible exact wT|refine wA ?_|(refine wB (fun h=>?_) (fun h=>?_)<;>first|exact wN h|subst (h:(_:Bool)=_)|skip)|(refine wQ ?_;clear hQ hR hE hM)|fail)
 ·have:¬a=b:=fun e=>h (by rw[e])
  simp[this]
 have hab:a.length=b.length:=by omega
 refine zbW (fun k=>[(0,.sl 2 (a.map Track.c)),(1,.sl 2 (b.map Track.c)),(12,.n a.length),(13,.n k)]) (fun k=>[]) (a.length) (fun k=>((a.drop k=b.drop k)↔a=b)) ?_;rintro k ⟨hk,hg⟩;rcases Nat.lt_or_ge k a.length with hlt|hge
 ·rw[zad hlt,zad (l:=b) (i:=k) (by omega),List.cons.injEq,zgX]at hg
  (repeat' first|refine zaa [0,1,4,5,10,12,13,14,24] fun K hK=>?_|(refine hK.go ?_;clear hK K)|with_reducible exact wT|refine wA ?_|(refine wB (fun h=>?_) (fun h=>?_)<;>first|exact wN h|subst (h:(_:Bool)=_)|skip)|(refine wQ ?_;clear hQ hR hE hM)|fail)
  ·have:¬a=b:=by rw[←hg];grind
   simp[this]
  ·exact ⟨k+1,by omega,⟨by omega,by rw[←hg];grind⟩,(by (try dsimp only);(first|omega|(simp;done)|(simp;omega)))⟩
 ·rw[List.drop_eq_nil_of_le hge,List.drop_eq_nil_of_le (by omega)]at hg
  (repeat' first|refine zaa [0,1,4,5,10,12,13,14,24] fun K hK=>?_|(refine hK.go ?_;clear hK K)|with_reducible exact wT|refine wA ?_|(refine wB (fun h=>?_) (fun h=>?_)<;>first|exact wN h|subst (h:(_:Bool)=_)|skip)|(refine wQ ?_;clear hQ hR hE hM)|fail)
  simp[←hg]
theorem ziW (hH:HasAll P inv) (a b:List Switch) (hl:a.length≤1000000000):PC P inv 35 [.sl 3 (a.map Switch.c),.sl 3 (b.map Switch.c)] (·=.b (decide (a=b))):=by
 refine PC.fn hH cd35 fun w0 M Q hM hE hQ hR=>?_;dsimp only[cd35,qm,ql,qf,qi,qb,qc,qp,qv,qN,qT,qF,qt]at hQ ⊢
 (repeat' first|refine zaa [0,1,4,5,10,12,13,14,24] fun K hK=>?_|(refine hK.go ?_;clear hK K)|with_reducible exact wT|refine wA ?_|(refine wB (fun h=>?_) (fun h=>?_)<;>first|exact wN h|subst (h:(_:Bool)=_)|skip)|(refine wQ ?_;clear hQ hR hE hM)|fail)
 ·have:¬a=b:=fun e=>h (by rw[e])
  simp[this]
 have hab:a.length=b.length:=by omega
 refine zbW (fun k=>[(0,.sl 3 (a.map Switch.c)),(1,.sl 3 (b.map Switch.c)),(12,.n a.length),(13,.n k)]) (fun k=>[]) (a.length) (fun k=>((a.drop k=b.drop k)↔a=b)) ?_;rintro k ⟨hk,hg⟩;rcases Nat.lt_or_ge k a.length with hlt|hge
 ·rw[zad hlt,zad (l:=b) (i:=k) (by omega),List.cons.injEq,zf6]at hg
  (repeat' first|refine zaa [0,1,4,5,10,12,13,14,24] fun K hK=>?_|(refine hK.go ?_;clear hK K)|with_reducible exact wT|refine wA ?_|(refine wB (fun h=>?_) (fun h=>?_)<;>first|exact wN h|subst (h:(_:Bool)=_)|skip)|(refine wQ ?_;clear hQ hR hE hM)|fail)
  ·have:¬a=b:=by rw[←hg];grind
   simp[this]
  ·exact ⟨k+1,by omega,⟨by omega,by rw[←hg];grind⟩,(by (try dsimp only);(first|omega|(simp;done)|(simp;omega)))⟩
 ·rw[List.drop_eq_nil_of_le hge,List.drop_eq_nil_of_le (by omega)]at hg
  (repeat' first|refine zaa [0,1,4,5,10,12,13,14,24] fun K hK=>?_|(refine hK.go ?_;clear hK K)|with_reducible exact wT|refine wA ?_|(refine wB (fun h=>?_) (fun h=>?_)<;>first|exact wN h|subst (h:(_:Bool)=_)|skip)|(refine wQ ?_;clear hQ hR hE hM)|fail)
  simp[←hg]
theorem zlx (hH:HasAll P inv) (a b:List Lock) (hl:a.length≤1000000000):PC P inv 36 [.sl 4 (a.map Lock.c),.sl 4 (b.map Lock.c)] (·=.b (decide (a=b))):=by
 refine PC.fn hH cd36 fun w0 M Q hM hE hQ hR=>?_;dsimp only[cd36,qm,ql,qf,qi,qb,qc,qp,qv,qN,qT,qF,qt]at hQ ⊢
 (repeat' first|refine zaa [0,1,4,5,10,12,13,14,24] fun K hK=>?_|(refine hK.go ?_;clear hK K)|with_reducible exact wT|refine wA ?_|(refine wB (fun h=>?_) (fun h=>?_)<;>first|exact wN h|subst (h:(_:Bool)=_)|skip)|(refine wQ ?_;clear hQ hR hE hM)|fail)
 ·have:¬a=b:=fun e=>h (by rw[e])
  simp[this]
 have hab:a.length=b.length:=by omega
 refine zbW (fun k=>[(0,.sl 4 (a.map Lock.c)),(1,.sl 4 (b.map Lock.c)),(12,.n a.length),(13,.n k)]) (fun k=>[]) (a.length) (fun k=>((a.drop k=b.drop k)↔a=b)) ?_;rintro k ⟨hk,hg⟩;rcases Nat.lt_or_ge k a.length with hlt|hge
 ·rw[zad hlt,zad (l:=b) (i:=k) (by omega),List.cons.injEq,ziN]at hg
  (repeat' first|refine zaa [0,1,4,5,10,12,13,14,24] fun K hK=>?_|(refine hK.go ?_;clear hK K)|with_reducible exact wT|refine wA ?_|(refine wB (fun h=>?_) (fun h=>?_)<;>first|exact wN h|subst (h:(_:Bool)=_)|skip)|(refine wQ ?_;clear hQ hR hE hM)|fail)
  ·have:¬a=b:=by rw[←hg];grind
   simp[this]
  ·exact ⟨k+1,by omega,⟨by omega,by rw[←hg];grind⟩,(by (try dsimp only);(first|omega|(simp;done)|(simp;omega)))⟩
 ·rw[List.drop_eq_nil_of_le hge,List.drop_eq_nil_of_le (by omega)]at hg
  (repeat' first|refine zaa [0,1,4,5,10,12,13,14,24] fun K hK=>?_|(refine hK.go ?_;clear hK K)|with_reducible exact wT|refine wA ?_|(refine wB (fun h=>?_) (fun h=>?_)<;>first|exact wN h|subst (h:(_:Bool)=_)|skip)|(refine wQ ?_;clear hQ hR hE hM)|fail)
  simp[←hg]
end Go.Lev
namespace Go.Lev
open Go.Eng
set_option maxRecDepth 10000
set_option maxHeartbeats 4000000
variable {P:Program} {inv:Nat→Option Nat}
theorem zlS (hH:HasAll P inv) (l:List Section) (id:Int) (hl:l.length≤1000000000):PC P inv 49 [.sl 3 (l.map Section.c),.n id] (·=.n (zdE id 0 l)):=by
 refine PC.fn hH cd49 fun w0 M Q hM hE hQ hR=>?_;dsimp only[cd49,qm,ql,qf,qi,qb,qc,qp,qv,qN,qT,qF,qt]at hQ ⊢
 (repeat' first|refine zaa [0,1,4,5,9,18] fun K hK=>?_|(refine hK.go ?_;clear hK K)|with_reducible exact wT|refine wA ?_|(refine wB (fun h=>?_) (fun h=>?_)<;>first|exact wN h|subst (h:(_:Bool)=_)|skip)|(refine wQ ?_;clear hQ hR hE hM)|fail)
 refine zcH (fun k:Nat=>[(0,.sl 3 (l.map Section.c)),(1,.n id),(5,.n k)]) (fun _=>[]) (fun k=>k≤l.length∧zdE id k (l.drop k)=zdE id 0 l) (fun k=>l.length-k) 0 ⟨Nat.zero_le _,rfl⟩ ?_ ?_ ?_
 ·(refine no_implicit_lambda% (st ?_);try with_reducible exact wT)
  rfl
 ·(refine no_implicit_lambda% (st ?_);try with_reducible exact wT)
 rintro k ⟨hk,hg⟩
 rcases Nat.lt_or_ge k l.length with hlt|hge
 ·rw[zad hlt]at hg
  rw[zdE]at hg
  (repeat' first|refine zaa [0,1,4,5,9,18] fun K hK=>?_|(refine hK.go ?_;clear hK K)|with_reducible exact wT|refine wA ?_|(refine wB (fun h=>?_) (fun h=>?_)<;>first|exact wN h|subst (h:(_:Bool)=_)|skip)|(refine wQ ?_;clear hQ hR hE hM)|fail)
  ·rw[if_pos h]at hg;exact hg
  ·rw[if_neg h]at hg;exact ⟨k+1,by omega,⟨by omega,hg⟩,by simp⟩
 ·obtain rfl:k=l.length:=by omega
  rw[List.drop_length]at hg
  (repeat' first|refine zaa [0,1,4,5,9,18] fun K hK=>?_|(refine hK.go ?_;clear hK K)|with_reducible exact wT|refine wA ?_|(refine wB (fun h=>?_) (fun h=>?_)<;>first|exact wN h|subst (h:(_:Bool)=_)|skip)|(refine wQ ?_;clear hQ hR hE hM)|fail)
  exact hg
end Go.Lev
namespace Go.Lev
open Go.Eng
set_option maxRecDepth 10000
set_option maxHeartbeats 4000000
variable {P:Program} {inv:Nat→Option Nat}
theorem zoj (hH:HasAll P inv) (s:Section):PC P inv 43 [.agg s.c] (·=.b (zbt s)):=by
 refine PC.fn hH cd43 fun w0 M Q hM hE hQ hR=>?_;dsimp only[cd43,qm,ql,qf,qi,qb,qc,qp,qv,qN,qT,qF,qt]at hQ ⊢
 (repeat' first|refine zaa [0,1,2,5] fun K hK=>?_|(refine hK.go ?_;clear hK K)|with_reducible exact wT|refine wA ?_|(refine wB (fun h=>?_) (fun h=>?_)<;>first|exact wN h|subst (h:(_:Bool)=_)|skip)|(refine wQ ?_;clear hQ hR hE hM)|fail)
 all_goals (first|rfl|(grind[zbt])|(simp[zbt, *];done)|(simp_all [zbt];done)|(simp_all [zbt]<;>first|omega|((repeat' split)<;>first|rfl|(exfalso;omega))))
theorem zpO (hH:HasAll P inv) (s:Section) (f t:Int):PC P inv 44 [.agg s.c,.n f,.n t] (·=.n (zhS s f t)):=by
 refine PC.fn hH cd44 fun w0 M Q hM hE hQ hR=>?_;dsimp only[cd44,qm,ql,qf,qi,qb,qc,qp,qv,qN,qT,qF,qt]at hQ ⊢
 (repeat' first|refine zaa [0,1,2,3,6,9,23,33,44] fun K hK=>?_|(refine hK.go ?_;clear hK K)|with_reducible exact wT|refine wA ?_|(refine wB (fun h=>?_) (fun h=>?_)<;>first|exact wN h|subst (h:(_:Bool)=_)|skip)|(refine wQ ?_;clear hQ hR hE hM)|fail)
 all_goals (first|rfl|(grind[zhS])|(simp[zhS, *];done)|(simp_all [zhS];done)|(simp_all [zhS]<;>first|omega|((repeat' split)<;>first|rfl|(exfalso;omega))))
end Go.Lev
namespace Go.Lev
open Go.Eng
set_option maxRecDepth 10000
set_option maxHeartbeats 4000000
variable {P:Program} {inv:Nat→Option Nat}
theorem zkz (id:Int):∀ (r:List Section) (k:Nat),zdE id k r=-1∨((k:Int)≤zdE id k r∧zdE id k r<k+r.length)
 |[],k=>.inl rfl
 |x::r,k=>by
  unfold zdE
  split
  ·right;simp only[List.length_cons];omega
  ·have:=zkz id r (k+1)
   simp only[List.length_cons]
   omega
theorem zol (hH:HasAll P inv) (l:List Section) (s:Section) (e:Nat) (he:e<s.ends.length) (hl:l.length≤1000000000):PC P inv 54 [.sl 3 (l.map Section.c),.agg s.c,.n e] (·=.b (zcq l s e)):=by
 have hb:=zkz (nth s.ends e).to l 0
 refine PC.fn hH cd54 fun w0 M Q hM hE hQ hR=>?_;dsimp only[cd54,qm,ql,qf,qi,qb,qc,qp,qv,qN,qT,qF,qt]at hQ ⊢
 (repeat' first|refine zaa [0,1,2,4,6,7,8,9,22,57] fun K hK=>?_|(refine hK.go ?_;clear hK K)|with_reducible exact wT|refine wA ?_|(refine wB (fun h=>?_) (fun h=>?_)<;>first|exact wN h|subst (h:(_:Bool)=_)|skip)|(refine wQ ?_;clear hQ hR hE hM)|(refine zas hM (zlS hH _ _ hl) ?_;try (refine no_implicit_lambda% (st ?_);try with_reducible exact wT))|fail)
 all_goals (first|rfl|(grind[zcq])|(simp[zcq, *];done)|(simp_all [zcq];done)|(simp_all [zcq]<;>first|omega|((repeat' split)<;>first|rfl|(exfalso;omega))))
end Go.Lev
namespace Go.Lev
open Go.Eng
set_option maxRecDepth 10000
set_option maxHeartbeats 4000000
variable {P:Program} {inv:Nat→Option Nat}
theorem zpI (hH:HasAll P inv) (s:State) (h1:s.tracks.length≤1000000) (h2:s.switches.length≤1000000) (h3:s.locks.length≤1000000):PC P inv 14 [.agg s.c] (·=.agg s.c):=by
 refine PC.fn hH cd14 fun w0 M Q hM hE hQ hR=>?_;dsimp only[cd14,qm,ql,qf,qi,qb,qc,qp,qv,qN,qT,qF,qt]at hQ ⊢
 (repeat' first|refine zaa [0,1,2,11] fun K hK=>?_|(refine hK.go ?_;clear hK K)|with_reducible exact wT|refine wA ?_|(refine wB (fun h=>?_) (fun h=>?_)<;>first|exact wN h|subst (h:(_:Bool)=_)|skip)|(refine wQ ?_;clear hQ hR hE hM)|fail)
 all_goals trace_state
theorem sSame_pc (hH:HasAll P inv) (a b:State) (h1:a.tracks.length≤1000000) (h2:a.switches.length≤1000000) (h3:a.locks.length≤1000000):PC P inv 11 [.agg a.c,.agg b.c] (·=.b (decide (a=b))):=by
 refine PC.fn hH cd11 fun w0 M Q hM hE hQ hR=>?_;dsimp only[cd11,qm,ql,qf,qi,qb,qc,qp,qv,qN,qT,qF,qt]at hQ ⊢
 (repeat' first|refine zaa [0,1,2,3,4] fun K hK=>?_|(refine hK.go ?_;clear hK K)|with_reducible exact wT|refine wA ?_|(refine wB (fun h=>?_) (fun h=>?_)<;>first|exact wN h|subst (h:(_:Bool)=_)|skip)|(refine wQ ?_;clear hQ hR hE hM)|(refine zas hM (zkq hH _ _ (by omega)) ?_;try (refine no_implicit_lambda% (st ?_);try with_reducible exact wT))|(refine zas hM (ziW hH _ _ (by omega)) ?_;try (refine no_implicit_lambda% (st ?_);try with_reducible exact wT))|(refine zas hM (zlx hH _ _ (by omega)) ?_;try (refine no_implicit_lambda% (st ?_);try with_reducible exact wT))|fail)
 all_goals (grind[zcG])
theorem zpK (hH:HasAll P inv) (a b:State) (h1:a.tracks.length≤1000000) (h2:a.switches.length≤1000000) (h3:a.locks.length≤1000000):PC P inv 10 [.agg a.c,.agg b.c] (·=.b (decide (a=b))):=by
 refine PC.fn hH cd10 fun w0 M Q hM hE hQ hR=>?_;dsimp only[cd10,qm,ql,qf,qi,qb,qc,qp,qv,qN,qT,qF,qt]at hQ ⊢
 (repeat' first|refine zaa [0,1,2,3,4,5,6,7,32,37,50,55,68,73,86] fun K hK=>?_|(refine hK.go ?_;clear hK K)|with_reducible exact wT|refine wA ?_|(refine wB (fun h=>?_) (fun h=>?_)<;>first|exact wN h|subst (h:(_:Bool)=_)|skip)|(refine wQ ?_;clear hQ hR hE hM)|fail)
 all_goals (try (have h':¬a=b:=(fun e=>by subst e;simp at *);simp[h'];done))
 have l1:a.tracks.length=b.tracks.length:=by omega
 have l2:a.switches.length=b.switches.length:=by omega
 have l3:a.locks.length=b.locks.length:=by omega
 refine zbW (fun k=>[(2,.ptr 0 3 0),(3,.ptr 1 3 0),(5,.n k)]) (fun k=>[(0,.cells a.c true),(1,.cells b.c true)]) (a.tracks.length) (fun k=>((a.tracks.drop k=b.tracks.drop k)↔a.tracks=b.tracks)) ?_;rintro k ⟨hk,hg⟩;rcases Nat.lt_or_ge k a.tracks.length with hlt|hge
 ·rw[zad hlt,zad (l:=b.tracks) (i:=k) (by omega),List.cons.injEq,zgX]at hg
  (repeat' first|refine zaa [0,1,2,3,4,5,6,7,32,37,50,55,68,73,86] fun K hK=>?_|(refine hK.go ?_;clear hK K)|with_reducible exact wT|refine wA ?_|(refine wB (fun h=>?_) (fun h=>?_)<;>first|exact wN h|subst (h:(_:Bool)=_)|skip)|(refine wQ ?_;clear hQ hR hE hM)|fail)
  ·have:¬a.tracks=b.tracks:=by rw[←hg];grind
   simp[zcG,this]
  ·exact ⟨k+1,by omega,⟨by omega,by rw[←hg];grind⟩,(by (try dsimp only);(first|omega|(simp;done)|(simp;omega)))⟩
 ·rw[List.drop_eq_nil_of_le hge,List.drop_eq_nil_of_le (by omega)]at hg
  have q0:a.tracks=b.tracks:=hg.1 rfl
  (repeat' first|refine zaa [0,1,2,3,4,5,6,7,32,37,50,55,68,73,86] fun K hK=>?_|(refine hK.go ?_;clear hK K)|with_reducible exact wT|refine wA ?_|(refine wB (fun h=>?_) (fun h=>?_)<;>first|exact wN h|subst (h:(_:Bool)=_)|skip)|(refine wQ ?_;clear hQ hR hE hM)|fail)
  refine zbW (fun k=>[(2,.ptr 0 3 0),(3,.ptr 1 3 0),(6,.n k)]) (fun k=>[(0,.cells a.c true),(1,.cells b.c true)]) (a.switches.length) (fun k=>((a.switches.drop k=b.switches.drop k)↔a.switches=b.switches)) ?_;rintro k ⟨hk,hg⟩;rcases Nat.lt_or_ge k a.switches.length with hlt|hge
  ·rw[zad hlt,zad (l:=b.switches) (i:=k) (by omega),List.cons.injEq,zf6]at hg
   (repeat' first|refine zaa [0,1,2,3,4,5,6,7,32,37,50,55,68,73,86] fun K hK=>?_|(refine hK.go ?_;clear hK K)|with_reducible exact wT|refine wA ?_|(refine wB (fun h=>?_) (fun h=>?_)<;>first|exact wN h|subst (h:(_:Bool)=_)|skip)|(refine wQ ?_;clear hQ hR hE hM)|fail)
   ·have:¬a.switches=b.switches:=by rw[←hg];grind
    simp[zcG,this]
   ·exact ⟨k+1,by omega,⟨by omega,by rw[←hg];grind⟩,(by (try dsimp only);(first|omega|(simp;done)|(simp;omega)))⟩
  ·rw[List.drop_eq_nil_of_le hge,List.drop_eq_nil_of_le (by omega)]at hg
   have q1:a.switches=b.switches:=hg.1 rfl
   (repeat' first|refine zaa [0,1,2,3,4,5,6,7,32,37,50,55,68,73,86] fun K hK=>?_|(refine hK.go ?_;clear hK K)|with_reducible exact wT|refine wA ?_|(refine wB (fun h=>?_) (fun h=>?_)<;>first|exact wN h|subst (h:(_:Bool)=_)|skip)|(refine wQ ?_;clear hQ hR hE hM)|fail)
   refine zbW (fun k=>[(2,.ptr 0 3 0),(3,.ptr 1 3 0),(7,.n k)]) (fun k=>[(0,.cells a.c true),(1,.cells b.c true)]) (a.locks.length) (fun k=>((a.locks.drop k=b.locks.drop k)↔a.locks=b.locks)) ?_;rintro k ⟨hk,hg⟩;rcases Nat.lt_or_ge k a.locks.length with hlt|hge
   ·rw[zad hlt,zad (l:=b.locks) (i:=k) (by omega),List.cons.injEq,ziN]at hg
    (repeat' first|refine zaa [0,1,2,3,4,5,6,7,32,37,50,55,68,73,86] fun K hK=>?_|(refine hK.go ?_;clear hK K)|with_reducible exact wT|refine wA ?_|(refine wB (fun h=>?_) (fun h=>?_)<;>first|exact wN h|subst (h:(_:Bool)=_)|skip)|(refine wQ ?_;clear hQ hR hE hM)|fail)
    ·have:¬a.locks=b.locks:=by rw[←hg];grind
     simp[zcG,this]
    ·exact ⟨k+1,by omega,⟨by omega,by rw[←hg];grind⟩,(by (try dsimp only);(first|omega|(simp;done)|(simp;omega)))⟩
   ·rw[List.drop_eq_nil_of_le hge,List.drop_eq_nil_of_le (by omega)]at hg
    have q2:a.locks=b.locks:=hg.1 rfl
    (repeat' first|refine zaa [0,1,2,3,4,5,6,7,32,37,50,55,68,73,86] fun K hK=>?_|(refine hK.go ?_;clear hK K)|with_reducible exact wT|refine wA ?_|(refine wB (fun h=>?_) (fun h=>?_)<;>first|exact wN h|subst (h:(_:Bool)=_)|skip)|(refine wQ ?_;clear hQ hR hE hM)|fail)
    simp[zcG,q0,q1,q2]
end Go.Lev
namespace Go.Lev
open Go.Eng
set_option maxRecDepth 10000
set_option maxHeartbeats 4000000
variable {P:Program} {inv:Nat→Option Nat} {w0:World} {M:Nat→Prop}
theorem secR_ref (hH:HasAll P inv) (p:Pln) (hl:p.sections.length≤1000000000) (n:Int):PC P inv 293 [.agg p.c,.n n] (·=.n (zaW (fun x=>decide (Section.id x=n)) 0 p.sections)):=by
 refine PC.fn hH cd293 fun w0 M Q hM hE hQ hR=>?_;dsimp only[cd293,qm,ql,qf,qi,qb,qc,qp,qv,qN,qT,qF,qt]at hQ ⊢
 (repeat' first|refine zaa [0,1,2,4,5,10,20] fun K hK=>?_|(refine hK.go ?_;clear hK K)|with_reducible exact wT|refine wA ?_|(refine wB (fun h=>?_) (fun h=>?_)<;>first|exact wN h|subst (h:(_:Bool)=_)|skip)|(refine wQ ?_;clear hQ hR hE hM)|fail)
 refine zai (ι:=Nat) [1,2,4,5] (fun z=>[(5,.n z)]) (fun _=>[]) (fun z=>z) (p.sections.length) (fun z=>(zaW (fun x=>decide (Section.id x=n)) (z:Int) (p.sections.drop z)=zaW (fun x=>decide (Section.id x=n)) 0 p.sections)) (0) ?_;rintro k ⟨hk,hg⟩;(try dsimp only at hk hg ⊢);rcases Nat.lt_or_ge k p.sections.length with hlt|hge
 ·rw[zad hlt,zaW]at hg
  by_cases e:(nth p.sections k).id=n
  ·have e2:decide ((nth p.sections k).id=n)=true:=decide_eq_true e
   rw[if_pos e2]at hg
   skip
   (have hX:=@e2;(repeat' first|refine zaa [0,1,2,4,5,10,20] fun K hK=>?_|(refine hK.go ?_;clear hK K)|with_reducible exact wT|refine wA ?_|(refine wB (fun h=>?_) (fun h=>?_)<;>first|exact wN h|subst (h:(_:Bool)=_)|skip)|(refine wQ ?_;clear hQ hR hE hM)|fail);all_goals clear hX)
   all_goals first|rfl|exact hg|exact congrArg AV.n hg|(exfalso;contradiction)|(rw[←hg];done)|(rw[←hg];rfl)|(simp[*];done)|trace_state
  ·have e2:decide ((nth p.sections k).id=n)=false:=decide_eq_false e
   rw[if_neg (by simp[e])]at hg
   (have hX:=@e2;(repeat' first|refine zaa [0,1,2,4,5,10,20] fun K hK=>?_|(refine hK.go ?_;clear hK K)|with_reducible exact wT|refine wA ?_|(refine wB (fun h=>?_) (fun h=>?_)<;>first|exact wN h|subst (h:(_:Bool)=_)|skip)|(refine wQ ?_;clear hQ hR hE hM)|fail);all_goals clear hX)
   all_goals first|(exfalso;contradiction)|exact ⟨k+1,by omega,⟨by omega,hg⟩,by omega⟩|trace_state
 ·rw[List.drop_eq_nil_of_le hge,zaW]at hg
  (repeat' first|refine zaa [0,1,2,4,5,10,20] fun K hK=>?_|(refine hK.go ?_;clear hK K)|with_reducible exact wT|refine wA ?_|(refine wB (fun h=>?_) (fun h=>?_)<;>first|exact wN h|subst (h:(_:Bool)=_)|skip)|(refine wQ ?_;clear hQ hR hE hM)|fail)
  all_goals first|exact hg|(rw[←hg];done)|trace_state
theorem znv (hH:HasAll P inv) (p:Pln) (hl:p.points.length≤1000000000) (n:Int):PC P inv 294 [.agg p.c,.n n] (·=.n (zaW (fun x=>decide (Pnt.id x=n)) 0 p.points)):=by
 refine PC.fn hH cd294 fun w0 M Q hM hE hQ hR=>?_;dsimp only[cd294,qm,ql,qf,qi,qb,qc,qp,qv,qN,qT,qF,qt]at hQ ⊢
 (repeat' first|refine zaa [0,1,2,4,5,10,20] fun K hK=>?_|(refine hK.go ?_;clear hK K)|with_reducible exact wT|refine wA ?_|(refine wB (fun h=>?_) (fun h=>?_)<;>first|exact wN h|subst (h:(_:Bool)=_)|skip)|(refine wQ ?_;clear hQ hR hE hM)|fail)
 refine zai (ι:=Nat) [1,2,4,5] (fun z=>[(5,.n z)]) (fun _=>[]) (fun z=>z) (p.points.length) (fun z=>(zaW (fun x=>decide (Pnt.id x=n)) (z:Int) (p.points.drop z)=zaW (fun x=>decide (Pnt.id x=n)) 0 p.points)) (0) ?_;rintro k ⟨hk,hg⟩;(try dsimp only at hk hg ⊢);rcases Nat.lt_or_ge k p.points.length with hlt|hge
 ·rw[zad hlt,zaW]at hg
  by_cases e:(nth p.points k).id=n
  ·have e2:decide ((nth p.points k).id=n)=true:=decide_eq_true e
   rw[if_pos e2]at hg
   skip
   (have hX:=@e2;(repeat' first|refine zaa [0,1,2,4,5,10,20] fun K hK=>?_|(refine hK.go ?_;clear hK K)|with_reducible exact wT|refine wA ?_|(refine wB (fun h=>?_) (fun h=>?_)<;>first|exact wN h|subst (h:(_:Bool)=_)|skip)|(refine wQ ?_;clear hQ hR hE hM)|fail);all_goals clear hX)
   all_goals first|rfl|exact hg|exact congrArg AV.n hg|(exfalso;contradiction)|(rw[←hg];done)|(rw[←hg];rfl)|(simp[*];done)|trace_state
  ·have e2:decide ((nth p.points k).id=n)=false:=decide_eq_false e
   rw[if_neg (by simp[e])]at hg
   (have hX:=@e2;(repeat' first|refine zaa [0,1,2,4,5,10,20] fun K hK=>?_|(refine hK.go ?_;clear hK K)|with_reducible exact wT|refine wA ?_|(refine wB (fun h=>?_) (fun h=>?_)<;>first|exact wN h|subst (h:(_:Bool)=_)|skip)|(refine wQ ?_;clear hQ hR hE hM)|fail);all_goals clear hX)
   all_goals first|(exfalso;contradiction)|exact ⟨k+1,by omega,⟨by omega,hg⟩,by omega⟩|trace_state
 ·rw[List.drop_eq_nil_of_le hge,zaW]at hg
  (repeat' first|refine zaa [0,1,2,4,5,10,20] fun K hK=>?_|(refine hK.go ?_;clear hK K)|with_reducible exact wT|refine wA ?_|(refine wB (fun h=>?_) (fun h=>?_)<;>first|exact wN h|subst (h:(_:Bool)=_)|skip)|(refine wQ ?_;clear hQ hR hE hM)|fail)
  all_goals first|exact hg|(rw[←hg];done)|trace_state
theorem rteR_ref (hH:HasAll P inv) (p:Pln) (hl:p.routes.length≤1000000000) (n:Int):PC P inv 334 [.agg p.c,.n n] (·=.n (zaW (fun x=>decide (Rte.id x=n)) 0 p.routes)):=by
 refine PC.fn hH cd334 fun w0 M Q hM hE hQ hR=>?_;dsimp only[cd334,qm,ql,qf,qi,qb,qc,qp,qv,qN,qT,qF,qt]at hQ ⊢
 (repeat' first|refine zaa [0,1,2,4,5,10,20] fun K hK=>?_|(refine hK.go ?_;clear hK K)|with_reducible exact wT|refine wA ?_|(refine wB (fun h=>?_) (fun h=>?_)<;>first|exact wN h|subst (h:(_:Bool)=_)|skip)|(refine wQ ?_;clear hQ hR hE hM)|fail)
 refine zai (ι:=Nat) [1,2,4,5] (fun z=>[(5,.n z)]) (fun _=>[]) (fun z=>z) (p.routes.length) (fun z=>(zaW (fun x=>decide (Rte.id x=n)) (z:Int) (p.routes.drop z)=zaW (fun x=>decide (Rte.id x=n)) 0 p.routes)) (0) ?_;rintro k ⟨hk,hg⟩;(try dsimp only at hk hg ⊢);rcases Nat.lt_or_ge k p.routes.length with hlt|hge
 ·rw[zad hlt,zaW]at hg
  by_cases e:(nth p.routes k).id=n
  ·have e2:decide ((nth p.routes k).id=n)=true:=decide_eq_true e
   rw[if_pos e2]at hg
   skip
   (have hX:=@e2;(repeat' first|refine zaa [0,1,2,4,5,10,20] fun K hK=>?_|(refine hK.go ?_;clear hK K)|with_reducible exact wT|refine wA ?_|(refine wB (fun h=>?_) (fun h=>?_)<;>first|exact wN h|subst (h:(_:Bool)=_)|skip)|(refine wQ ?_;clear hQ hR hE hM)|fail);all_goals clear hX)
   all_goals first|rfl|exact hg|exact congrArg AV.n hg|(exfalso;contradiction)|(rw[←hg];done)|(rw[←hg];rfl)|(simp[*];done)|trace_state
  ·have e2:decide ((nth p.routes k).id=n)=false:=decide_eq_false e
   rw[if_neg (by simp[e])]at hg
   (have hX:=@e2;(repeat' first|refine zaa [0,1,2,4,5,10,20] fun K hK=>?_|(refine hK.go ?_;clear hK K)|with_reducible exact wT|refine wA ?_|(refine wB (fun h=>?_) (fun h=>?_)<;>first|exact wN h|subst (h:(_:Bool)=_)|skip)|(refine wQ ?_;clear hQ hR hE hM)|fail);all_goals clear hX)
   all_goals first|(exfalso;contradiction)|exact ⟨k+1,by omega,⟨by omega,hg⟩,by omega⟩|trace_state
 ·rw[List.drop_eq_nil_of_le hge,zaW]at hg
  (repeat' first|refine zaa [0,1,2,4,5,10,20] fun K hK=>?_|(refine hK.go ?_;clear hK K)|with_reducible exact wT|refine wA ?_|(refine wB (fun h=>?_) (fun h=>?_)<;>first|exact wN h|subst (h:(_:Bool)=_)|skip)|(refine wQ ?_;clear hQ hR hE hM)|fail)
  all_goals first|exact hg|(rw[←hg];done)|trace_state
theorem zpG (hH:HasAll P inv) (l:List Rte) (hl:l.length≤1000000000) (n:Int):PC P inv 310 [.sl 7 (l.map Rte.c),.n n] (·=.n (zaW (fun x=>decide (Rte.id x=n)) 0 l)):=by
 refine PC.fn hH cd310 fun w0 M Q hM hE hQ hR=>?_;dsimp only[cd310,qm,ql,qf,qi,qb,qc,qp,qv,qN,qT,qF,qt]at hQ ⊢
 (repeat' first|refine zaa [0,1,4,5,9,18] fun K hK=>?_|(refine hK.go ?_;clear hK K)|with_reducible exact wT|refine wA ?_|(refine wB (fun h=>?_) (fun h=>?_)<;>first|exact wN h|subst (h:(_:Bool)=_)|skip)|(refine wQ ?_;clear hQ hR hE hM)|fail)
 refine zai (ι:=Nat) [0,1,4,5] (fun z=>[(5,.n z)]) (fun _=>[]) (fun z=>z) (l.length) (fun z=>(zaW (fun x=>decide (Rte.id x=n)) (z:Int) (l.drop z)=zaW (fun x=>decide (Rte.id x=n)) 0 l)) (0) ?_;rintro k ⟨hk,hg⟩;(try dsimp only at hk hg ⊢);rcases Nat.lt_or_ge k l.length with hlt|hge
 ·rw[zad hlt,zaW]at hg
  by_cases e:(nth l k).id=n
  ·have e2:decide ((nth l k).id=n)=true:=decide_eq_true e
   rw[if_pos e2]at hg
   skip
   (have hX:=@e2;(repeat' first|refine zaa [0,1,4,5,9,18] fun K hK=>?_|(refine hK.go ?_;clear hK K)|with_reducible exact wT|refine wA ?_|(refine wB (fun h=>?_) (fun h=>?_)<;>first|exact wN h|subst (h:(_:Bool)=_)|skip)|(refine wQ ?_;clear hQ hR hE hM)|fail);all_goals clear hX)
   all_goals first|rfl|exact hg|exact congrArg AV.n hg|(exfalso;contradiction)|(rw[←hg];done)|(rw[←hg];rfl)|(simp[*];done)|trace_state
  ·have e2:decide ((nth l k).id=n)=false:=decide_eq_false e
   rw[if_neg (by simp[e])]at hg
   (have hX:=@e2;(repeat' first|refine zaa [0,1,4,5,9,18] fun K hK=>?_|(refine hK.go ?_;clear hK K)|with_reducible exact wT|refine wA ?_|(refine wB (fun h=>?_) (fun h=>?_)<;>first|exact wN h|subst (h:(_:Bool)=_)|skip)|(refine wQ ?_;clear hQ hR hE hM)|fail);all_goals clear hX)
   all_goals first|(exfalso;contradiction)|exact ⟨k+1,by omega,⟨by omega,hg⟩,by omega⟩|trace_state
 ·rw[List.drop_eq_nil_of_le hge,zaW]at hg
  (repeat' first|refine zaa [0,1,4,5,9,18] fun K hK=>?_|(refine hK.go ?_;clear hK K)|with_reducible exact wT|refine wA ?_|(refine wB (fun h=>?_) (fun h=>?_)<;>first|exact wN h|subst (h:(_:Bool)=_)|skip)|(refine wQ ?_;clear hQ hR hE hM)|fail)
  all_goals first|exact hg|(rw[←hg];done)|trace_state
theorem zfx (hH:HasAll P inv) (l:List Sgn) (hl:l.length≤1000000000) (n:Int):PC P inv 314 [.sl 3 (l.map Sgn.c),.n n] (·=.n (zaW (fun x=>decide (Sgn.id x=n)) 0 l)):=by
 refine PC.fn hH cd314 fun w0 M Q hM hE hQ hR=>?_;dsimp only[cd314,qm,ql,qf,qi,qb,qc,qp,qv,qN,qT,qF,qt]at hQ ⊢
 (repeat' first|refine zaa [0,1,4,5,9,18] fun K hK=>?_|(refine hK.go ?_;clear hK K)|with_reducible exact wT|refine wA ?_|(refine wB (fun h=>?_) (fun h=>?_)<;>first|exact wN h|subst (h:(_:Bool)=_)|skip)|(refine wQ ?_;clear hQ hR hE hM)|fail)
 refine zai (ι:=Nat) [0,1,4,5] (fun z=>[(5,.n z)]) (fun _=>[]) (fun z=>z) (l.length) (fun z=>(zaW (fun x=>decide (Sgn.id x=n)) (z:Int) (l.drop z)=zaW (fun x=>decide (Sgn.id x=n)) 0 l)) (0) ?_;rintro k ⟨hk,hg⟩;(try dsimp only at hk hg ⊢);rcases Nat.lt_or_ge k l.length with hlt|hge
 ·rw[zad hlt,zaW]at hg
  by_cases e:(nth l k).id=n
  ·have e2:decide ((nth l k).id=n)=true:=decide_eq_true e
   rw[if_pos e2]at hg
   skip
   (have hX:=@e2;(repeat' first|refine zaa [0,1,4,5,9,18] fun K hK=>?_|(refine hK.go ?_;clear hK K)|with_reducible exact wT|refine wA ?_|(refine wB (fun h=>?_) (fun h=>?_)<;>first|exact wN h|subst (h:(_:Bool)=_)|skip)|(refine wQ ?_;clear hQ hR hE hM)|fail);all_goals clear hX)
   all_goals first|rfl|exact hg|exact congrArg AV.n hg|(exfalso;contradiction)|(rw[←hg];done)|(rw[←hg];rfl)|(simp[*];done)|trace_state
  ·have e2:decide ((nth l k).id=n)=false:=decide_eq_false e
   rw[if_neg (by simp[e])]at hg
   (have hX:=@e2;(repeat' first|refine zaa [0,1,4,5,9,18] fun K hK=>?_|(refine hK.go ?_;clear hK K)|with_reducible exact wT|refine wA ?_|(refine wB (fun h=>?_) (fun h=>?_)<;>first|exact wN h|subst (h:(_:Bool)=_)|skip)|(refine wQ ?_;clear hQ hR hE hM)|fail);all_goals clear hX)
   all_goals first|(exfalso;contradiction)|exact ⟨k+1,by omega,⟨by omega,hg⟩,by omega⟩|trace_state
 ·rw[List.drop_eq_nil_of_le hge,zaW]at hg
  (repeat' first|refine zaa [0,1,4,5,9,18] fun K hK=>?_|(refine hK.go ?_;clear hK K)|with_reducible exact wT|refine wA ?_|(refine wB (fun h=>?_) (fun h=>?_)<;>first|exact wN h|subst (h:(_:Bool)=_)|skip)|(refine wQ ?_;clear hQ hR hE hM)|fail)
  all_goals first|exact hg|(rw[←hg];done)|trace_state
theorem zp3 (hH:HasAll P inv) (l:List Pnt) (hl:l.length≤1000000000) (n:Int):PC P inv 316 [.sl 2 (l.map Pnt.c),.n n] (·=.n (zaW (fun x=>decide (Pnt.id x=n)) 0 l)):=by
 refine PC.fn hH cd316 fun w0 M Q hM hE hQ hR=>?_;dsimp only[cd316,qm,ql,qf,qi,qb,qc,qp,qv,qN,qT,qF,qt]at hQ ⊢
 (repeat' first|refine zaa [0,1,4,5,9,18] fun K hK=>?_|(refine hK.go ?_;clear hK K)|with_reducible exact wT|refine wA ?_|(refine wB (fun h=>?_) (fun h=>?_)<;>first|exact wN h|subst (h:(_:Bool)=_)|skip)|(refine wQ ?_;clear hQ hR hE hM)|fail)
 refine zai (ι:=Nat) [0,1,4,5] (fun z=>[(5,.n z)]) (fun _=>[]) (fun z=>z) (l.length) (fun z=>(zaW (fun x=>decide (Pnt.id x=n)) (z:Int) (l.drop z)=zaW (fun x=>decide (Pnt.id x=n)) 0 l)) (0) ?_;rintro k ⟨hk,hg⟩;(try dsimp only at hk hg ⊢);rcases Nat.lt_or_ge k l.length with hlt|hge
 ·rw[zad hlt,zaW]at hg
  by_cases e:(nth l k).id=n
  ·have e2:decide ((nth l k).id=n)=true:=decide_eq_true e
   rw[if_pos e2]at hg
   skip
   (have hX:=@e2;(repeat' first|refine zaa [0,1,4,5,9,18] fun K hK=>?_|(refine hK.go ?_;clear hK K)|with_reducible exact wT|refine wA ?_|(refine wB (fun h=>?_) (fun h=>?_)<;>first|exact wN h|subst (h:(_:Bool)=_)|skip)|(refine wQ ?_;clear hQ hR hE hM)|fail);all_goals clear hX)
   all_goals first|rfl|exact hg|exact congrArg AV.n hg|(exfalso;contradiction)|(rw[←hg];done)|(rw[←hg];rfl)|(simp[*];done)|trace_state
  ·have e2:decide ((nth l k).id=n)=false:=decide_eq_false e
   rw[if_neg (by simp[e])]at hg
   (have hX:=@e2;(repeat' first|refine zaa [0,1,4,5,9,18] fun K hK=>?_|(refine hK.go ?_;clear hK K)|with_reducible exact wT|refine wA ?_|(refine wB (fun h=>?_) (fun h=>?_)<;>first|exact wN h|subst (h:(_:Bool)=_)|skip)|(refine wQ ?_;clear hQ hR hE hM)|fail);all_goals clear hX)
   all_goals first|(exfalso;contradiction)|exact ⟨k+1,by omega,⟨by omega,hg⟩,by omega⟩|trace_state
 ·rw[List.drop_eq_nil_of_le hge,zaW]at hg
  (repeat' first|refine zaa [0,1,4,5,9,18] fun K hK=>?_|(refine hK.go ?_;clear hK K)|with_reducible exact wT|refine wA ?_|(refine wB (fun h=>?_) (fun h=>?_)<;>first|exact wN h|subst (h:(_:Bool)=_)|skip)|(refine wQ ?_;clear hQ hR hE hM)|fail)
  all_goals first|exact hg|(rw[←hg];done)|trace_state
theorem at_ref (hH:HasAll P inv) (p:Pln) (hl:p.signals.length≤1000000000) (a b:Int):PC P inv 311 [.agg p.c,.n a,.n b] (·=.n (zob p a b)):=by
 unfold zob
 refine PC.fn hH cd311 fun w0 M Q hM hE hQ hR=>?_;dsimp only[cd311,qm,ql,qf,qi,qb,qc,qp,qv,qN,qT,qF,qt]at hQ ⊢
 (repeat' first|refine zaa [0,1,2,3,6,7,12,32] fun K hK=>?_|(refine hK.go ?_;clear hK K)|with_reducible exact wT|refine wA ?_|(refine wB (fun h=>?_) (fun h=>?_)<;>first|exact wN h|subst (h:(_:Bool)=_)|skip)|(refine wQ ?_;clear hQ hR hE hM)|fail)
 refine zai (ι:=Nat) [1,2,3,6,7] (fun z=>[(7,.n z)]) (fun _=>[]) (fun z=>z) (p.signals.length) (fun z=>((p.signals.drop z).find? (fun x=>decide (x.sec=a)&&decide (x.ed=b))=p.signals.find? (fun x=>decide (x.sec=a)&&decide (x.ed=b)))) (0) ?_;rintro k ⟨hk,hg⟩;(try dsimp only at hk hg ⊢);rcases Nat.lt_or_ge k p.signals.length with hlt|hge
 ·rw[zad hlt,List.find?_cons]at hg
  by_cases e:(nth p.signals k).sec=a
  ·by_cases e3:(nth p.signals k).ed=b
   ·have e2:decide ((nth p.signals k).sec=a)=true:=decide_eq_true e
    have e4:decide ((nth p.signals k).ed=b)=true:=decide_eq_true e3
    rw[e2,e4]at hg
    skip
    (have hX:=zA @e2 @e4;(repeat' first|refine zaa [0,1,2,3,6,7,12,32] fun K hK=>?_|(refine hK.go ?_;clear hK K)|with_reducible exact wT|refine wA ?_|(refine wB (fun h=>?_) (fun h=>?_)<;>first|exact wN h|subst (h:(_:Bool)=_)|skip)|(refine wQ ?_;clear hQ hR hE hM)|fail);all_goals clear hX)
    all_goals first|rfl|exact hg|exact congrArg AV.n hg|(exfalso;contradiction)|(rw[←hg];done)|(rw[←hg];rfl)|(simp[*];done)|trace_state
   ·have e2:decide ((nth p.signals k).sec=a)=true:=decide_eq_true e
    have e4:decide ((nth p.signals k).ed=b)=false:=decide_eq_false e3
    rw[e2,e4]at hg
    (have hX:=zA @e2 @e4;(repeat' first|refine zaa [0,1,2,3,6,7,12,32] fun K hK=>?_|(refine hK.go ?_;clear hK K)|with_reducible exact wT|refine wA ?_|(refine wB (fun h=>?_) (fun h=>?_)<;>first|exact wN h|subst (h:(_:Bool)=_)|skip)|(refine wQ ?_;clear hQ hR hE hM)|fail);all_goals clear hX)
    all_goals first|(exfalso;contradiction)|exact ⟨k+1,by omega,⟨by omega,hg⟩,by omega⟩|trace_state
  ·have e2:decide ((nth p.signals k).sec=a)=false:=decide_eq_false e
   rw[e2]at hg
   (have hX:=@e2;(repeat' first|refine zaa [0,1,2,3,6,7,12,32] fun K hK=>?_|(refine hK.go ?_;clear hK K)|with_reducible exact wT|refine wA ?_|(refine wB (fun h=>?_) (fun h=>?_)<;>first|exact wN h|subst (h:(_:Bool)=_)|skip)|(refine wQ ?_;clear hQ hR hE hM)|fail);all_goals clear hX)
   all_goals first|(exfalso;contradiction)|exact ⟨k+1,by omega,⟨by omega,hg⟩,by omega⟩|trace_state
 ·rw[List.drop_eq_nil_of_le hge,List.find?_nil]at hg
  (repeat' first|refine zaa [0,1,2,3,6,7,12,32] fun K hK=>?_|(refine hK.go ?_;clear hK K)|with_reducible exact wT|refine wA ?_|(refine wB (fun h=>?_) (fun h=>?_)<;>first|exact wN h|subst (h:(_:Bool)=_)|skip)|(refine wQ ?_;clear hQ hR hE hM)|fail)
  all_goals first|exact hg|(rw[←hg];done)|trace_state
theorem zjO (hH:HasAll P inv) (r:Rte) (h1:r.path.length≤1000000) (h2:r.over.length≤1000000):PC P inv 315 [.agg r.c] (·=.sl 1 ((r.path++r.over).map zck)):=by
 have f0:(r.path.map zck).flatten++(r.over.map zck).flatten=((r.path++r.over).map zck).flatten:=by simp
 have f1:r.path.length+r.over.length=(r.path++r.over).length:=by simp
 generalize r.path++r.over=all at *
 refine PC.fn hH cd315 fun w0 M Q hM hE hQ hR=>?_;dsimp only[cd315,qm,ql,qf,qi,qb,qc,qp,qv,qN,qT,qF,qt]at hQ ⊢
 (have hX:=zA @f0 @f1;(repeat' first|refine zaa [0,1,2,3] fun K hK=>?_|(refine hK.go ?_;clear hK K)|with_reducible exact wT|refine wA ?_|(refine wB (fun h=>?_) (fun h=>?_)<;>first|exact wN h|subst (h:(_:Bool)=_)|skip)|(refine wQ ?_;clear hQ hR hE hM)|fail);all_goals clear hX)
 all_goals first|rfl|trace_state
theorem zp5 (hH:HasAll P inv) (l:Lock) (x:Rte) (h:x.path.length≤1000000):PC P inv 313 [.agg l.c,.n x.path.length,.n x.timer] (·=.b (zb3 l x)):=by
 refine PC.fn hH cd313 fun w0 M Q hM hE hQ hR=>?_;dsimp only[cd313,qm,ql,qf,qi,qb,qc,qp,qv,qN,qT,qF,qt]at hQ ⊢
 (repeat' first|refine zaa [0,1,2,3,6,7,18,19,30,46,56] fun K hK=>?_|(refine hK.go ?_;clear hK K)|with_reducible exact wT|refine wA ?_|(refine wB (fun h=>?_) (fun h=>?_)<;>first|exact wN h|subst (h:(_:Bool)=_)|skip)|(refine wQ ?_;clear hQ hR hE hM)|fail)
 all_goals (unfold zb3;simp[*])
 all_goals first|omega|trace_state
end Go.Lev
namespace Go.Lev
open Go.Eng
theorem zjS {α:Type} [Inhabited α] (f:α→Int):∀ (l:List α),(l.map f).Pairwise (· < ·)↔∀ i,0<i→i<l.length→f (nth l (i-1))<f (nth l i)
 |[]=>by simp
 |[x]=>by
  simp
  intro i h1 h2
  omega
 |x::y::r=>by
  have ih:=zjS f (y::r)
  rw[List.map_cons,List.pairwise_cons,ih]
  constructor
  ·rintro ⟨h1,h2⟩ i hi hl
   match i,hi with
   |1,_=>exact h1 (f y) (by simp)
   |i+2,_=>exact h2 (i+1) (by omega) (by simpa using hl)
  ·intro h
   have h2:∀ i,0<i→i<(y::r).length→f (nth (y::r) (i-1))<f (nth (y::r) i):=fun i hi hl=>by
    have:=h (i+1) (by omega) (by simpa using hl)
    match i,hi with
    |i+1,_=>exact this
   refine ⟨fun z hz=>?_,h2⟩
   have h3:f x<f y:=h 1 (by omega) (by simp)
   have h4:=ih.2 h2
   rw[List.map_cons,List.pairwise_cons]at h4
   rcases List.mem_cons.1 hz with rfl|hz
   ·exact h3
   ·have:=h4.1 z hz
    omega
theorem zgn:∀ (l:List Section) (a:List Int) (m:Int) (i:Nat),a.length=100→(∀ s∈l,s.pt≤99)→(∀ s∈l,0<s.pt→s.pt.toNat≠i)→nth (zl2 a m l).1 i=nth a i
 |[],_,_,_,_,_,_=>rfl
 |s::r,a,m,i,ha,h9,h=>by
  rw[zl2]
  split
  ·rename_i h0
   have:=h9 s (by simp)
   rw[zgn r _ _ i (by simpa using ha) (fun t ht=>h9 t (by simp[ht])) (fun t ht=>h t (by simp[ht])),zbe _ _ _ _ (by omega),if_neg (fun e=>h s (by simp) h0 e.symm)]
  ·exact zgn r _ _ i ha (fun t ht=>h9 t (by simp[ht])) fun t ht=>h t (by simp[ht])
theorem zjZ:∀ (l:List Section) (a:List Int) (m:Int),a.length=100→(∀ s∈l,s.pt≤99)→l.Pairwise Pw→∀ s∈l,0<s.pt→nth (zl2 a m l).1 s.pt.toNat=s.id
 |[],_,_,_,_,_,s,hs,_=>by cases hs
 |t::r,a,m,ha,h9,hp,s,hs,h0=>by
  rw[List.pairwise_cons]at hp
  have h9t:=h9 t (by simp)
  rw[zl2]
  rcases List.mem_cons.1 hs with rfl|hs
  ·rw[if_pos h0,zgn r _ _ _ (by simpa using ha) (fun u hu=>h9 u (by simp[hu])) (fun u hu h1 e=>(hp.1 u hu).2 (by omega) (by omega)),zbe _ _ _ _ (by omega),if_pos rfl]
  ·split
   ·exact zjZ r _ _ (by simpa using ha) (fun u hu=>h9 u (by simp[hu])) hp.2 s hs h0
   ·exact zjZ r _ _ ha (fun u hu=>h9 u (by simp[hu])) hp.2 s hs h0
theorem znu {p:Pln} (h:zbU p.sections=true):points p=true↔PtsP p:=by
 have hs:=zbd h
 have hm:=(zgM _).1 h
 have h9:∀ s∈p.sections,s.pt≤99:=fun s hs'=>(hs s hs').2.2.2.1
 have hlen:(List.replicate 100 (0:Int)).length=100:=by simp
 unfold points
 simp only[Bool.and_eq_true,zdL,decide_eq_true_eq,Bool.not_eq_true',List.any_eq_false]
 unfold pts
 rw[zeF,zjS]
 constructor
 ·rintro ⟨⟨h1,h2,h3⟩,h4,h5⟩
  refine ⟨fun x hx=>h1 x.id (List.mem_map_of_mem hx),h2,fun x hx=>?_,by simpa using h3,by omega⟩
  have h6:=h5 x hx
  unfold zj1 at h6
  simp only[Bool.or_eq_true,Bool.not_eq_true',decide_eq_true_eq,decide_eq_false_iff_not,not_or,Classical.not_not]at h6
  have hx1:=h1 x.id (List.mem_map_of_mem hx)
  rcases zj0 p.sections (List.replicate 100 0) 0 x.id.toNat h9 hlen with h7|⟨s,hs1,hs2,hs3,hs4⟩
  ·rw[h6.2,zdg _ _ _ (by omega)]at h7
   exact absurd h7 h6.1
  ·exact ⟨s,hs1,by rw[hs4,h6.2],by omega⟩
 ·rintro ⟨h1,h2,h3,h4,h5⟩
  refine ⟨⟨fun n hn=>?_,h2,by simpa using h4⟩,by omega,fun x hx=>?_⟩
  ·obtain ⟨x,hx,rfl⟩:=List.mem_map.1 hn
   exact h1 x hx
  ·obtain ⟨s,hs1,hs2,hs3⟩:=h3 x hx
   have h6:=zjZ p.sections (List.replicate 100 0) 0 hlen h9 hm.pw s hs1 (by have:=h1 x hx;omega)
   have h7:=(hs s hs1).1
   unfold zj1
   rw[←hs3,h6,←hs2]
   simp
   omega
theorem rpF_eq {p:Pln} (h:zbU p.sections=true):rpF p=points p:=by
 have hs:=zbd h
 have hm:=(zgM _).1 h
 have hso:zd2 p.sections:=zdm h
 generalize hX:points p=X
 have hiff:X=true↔PtsP p:=by rw[←hX];exact znu h
 have good1:∀ {b:Bool},(b=true↔PtsP p)→b=X:=fun hb=>by rw[Bool.eq_iff_iff,hb,hiff]
 unfold rpF
 refine zaU (·=X) (fun k m=>m=((((p.sections.take k).filter fun s=>decide (0<s.pt)).length:Nat):Int)) rfl ?_ ?_
 ·rintro k m za0 hk rfl hn
  have h1:=hs _ (zab hk)
  have h2:(p.sections.take (k+1)).filter (fun s=>decide (0<s.pt))=(p.sections.take k).filter (fun s=>decide (0<s.pt))++(if 0<(nth p.sections k).pt then [nth p.sections k] else []):=by
   rw[←zjH hk,List.filter_append]
   congr 1
   by_cases e:0<(nth p.sections k).pt
   ·simp[e]
   ·simp[e]
  by_cases e:(nth p.sections k).pt=0
  ·rw[decide_eq_true e,Bool.not_true,cond_false]
   refine hn _ ?_
   rw[h2,if_neg (by omega),List.append_nil]
  ·rw[decide_eq_false e,Bool.not_false,cond_true]
   refine hn _ ?_
   rw[h2,if_pos (by omega),List.length_append]
   simp
 ·rintro m rfl
  rw[List.take_of_length_le (Nat.le_refl _)]
  refine zaU (·=X) (fun k _=>∀ i,i<k→(1≤(nth p.points i).id∧(nth p.points i).id≤99)∧(0<i→(nth p.points (i-1)).id<(nth p.points i).id)∧∃ s∈p.sections,s.id=(nth p.points i).sec∧s.pt=(nth p.points i).id) (fun i hi=>by omega) ?_ ?_
  ·intro k _ za0 hk hK hn
   by_cases hok:(1≤(nth p.points k).id∧(nth p.points k).id≤99)∧(0<k→(nth p.points (k-1)).id<(nth p.points k).id)∧∃ s∈p.sections,s.id=(nth p.points k).sec∧s.pt=(nth p.points k).id
   ·obtain ⟨h1,h2,s,hs1,hs2,hs3⟩:=hok
    have h4:=zdl hso hs1
    rw[hs2]at h4
    have:(decide ((nth p.points k).id<1)||(decide (99<(nth p.points k).id)||(decide ((0:Int)<k)&&decide ((nth p.points k).id≤(nth p.points (k-1)).id)||(decide (zdE (nth p.points k).sec 0 p.sections<0)||!decide ((nth p.sections (zdE (nth p.points k).sec 0 p.sections).toNat).pt=(nth p.points k).id)))))=false:=by
     rw[h4.1,hs3]
     simp only[Bool.or_eq_false_iff,Bool.and_eq_false_imp,decide_eq_false_iff_not,decide_eq_true_eq,Bool.not_eq_false']
     refine ⟨by omega,by omega,fun h=>?_,by omega,trivial⟩
     have:=h2 (by omega)
     omega
    rw[this,cond_false]
    refine hn () fun i hi=>?_
    rcases Nat.lt_or_ge i k with h|h
    ·exact hK i h
    ·obtain rfl:i=k:=by omega
     exact ⟨h1,h2,s,hs1,hs2,hs3⟩
   ·have:(decide ((nth p.points k).id<1)||(decide (99<(nth p.points k).id)||(decide ((0:Int)<k)&&decide ((nth p.points k).id≤(nth p.points (k-1)).id)||(decide (zdE (nth p.points k).sec 0 p.sections<0)||!decide ((nth p.sections (zdE (nth p.points k).sec 0 p.sections).toNat).pt=(nth p.points k).id)))))=true:=by
     rw[←Bool.not_eq_false]
     intro hf
     simp only[Bool.or_eq_false_iff,Bool.and_eq_false_imp,decide_eq_false_iff_not,decide_eq_true_eq,Bool.not_eq_false']at hf
     obtain ⟨h1,h2,h3,h4,h5⟩:=hf
     refine hok ⟨⟨by omega,by omega⟩,fun h=>?_, ?_⟩
     ·have:=h3 (by omega)
      omega
     ·rcases zcF (nth p.points k).sec p.sections 0 with ⟨e,_⟩|⟨q,hq,e,e2⟩
      ·rw[e]at h4;exact absurd (by decide) h4
      ·have e3:(zdE (nth p.points k).sec 0 p.sections).toNat=q:=by omega
       rw[e3]at h5
       exact ⟨_,zab hq,e2,h5⟩
    rw[this,cond_true]
    refine good1 ⟨fun h=>(by cases h),fun hp=>absurd ?_ hok⟩
    exact ⟨hp.id _ (zab hk),fun h=>hp.up k h hk,hp.sec _ (zab hk)⟩
  ·intro _ hK
   refine good1 ?_
   simp only[Bool.and_eq_true,decide_eq_true_eq]
   constructor
   ·rintro ⟨h1,h2⟩
    refine ⟨fun x hx=>?_,fun i h0 hi=>(hK i hi).2.1 h0,fun x hx=>?_,h1,h2⟩
    ·obtain ⟨i,hi,rfl⟩:=zbb hx
     exact (hK i hi).1
    ·obtain ⟨i,hi,rfl⟩:=zbb hx
     exact (hK i hi).2.2
   ·intro hp
    exact ⟨hp.len,hp.many⟩
end Go.Lev
namespace Go.Lev
open Go.Eng
theorem zi6 {sec:List Int} (h3:∀ i,nth sec i≤3) {x y:Sgn} (hx:zbT sec x.sec=true∧0≤x.ed∧x.ed<nth sec x.sec.toNat) (hy:zbT sec y.sec=true∧0≤y.ed∧y.ed<nth sec y.sec.toNat):zcC x=zcC y↔x.sec=y.sec∧x.ed=y.ed:=by
 have h4:=h3 x.sec.toNat
 have h5:=h3 y.sec.toNat
 have h6:0≤x.sec∧x.sec≤99:=by have:=hx.1;simp only[zbT,Bool.and_eq_true,decide_eq_true_eq]at this;omega
 have h7:0≤y.sec∧y.sec≤99:=by have:=hy.1;simp only[zbT,Bool.and_eq_true,decide_eq_true_eq]at this;omega
 unfold zcC
 constructor
 ·intro h;omega
 ·rintro ⟨h1,h2⟩;rw[h1,h2]
theorem zht {sec:List Int} (h3:∀ i,nth sec i≤3) {x:Sgn} (hx:zbT sec x.sec=true∧0≤x.ed∧x.ed<nth sec x.sec.toNat):zcC x<300:=by
 have h4:=h3 x.sec.toNat
 have h6:0≤x.sec∧x.sec≤99:=by have:=hx.1;simp only[zbT,Bool.and_eq_true,decide_eq_true_eq]at this;omega
 unfold zcC
 omega
theorem zkN {sec:List Int} (h3:∀ i,nth sec i≤3):∀ (l:List Sgn) (m:List Bool),m.length=300→(zhs sec m l=true↔(∀ x∈l,(zbT sec x.sec=true∧0≤x.ed∧x.ed<nth sec x.sec.toNat)∧nth m (zcC x)=false)∧l.Pairwise fun x y=>zcC x≠zcC y)
 |[],m,_=>by simp[zhs]
 |x::r,m,hm=>by
  have ih:=zkN h3 r (m.set (zcC x) true) (by simpa using hm)
  rw[zhs,Bool.and_eq_true,ih,List.pairwise_cons]
  have hb:(!zc9 sec m x)=true↔(zbT sec x.sec=true∧0≤x.ed∧x.ed<nth sec x.sec.toNat)∧nth m (zcC x)=false:=by
   unfold zc9
   simp only[Bool.not_eq_true',Bool.or_eq_false_iff,Bool.not_eq_false',decide_eq_false_iff_not]
   constructor
   ·rintro ⟨h1,h2,h4,h5⟩;exact ⟨⟨h1,by omega,by omega⟩,h5⟩
   ·rintro ⟨⟨h1,h2,h4⟩,h5⟩;exact ⟨h1,by omega,by omega,h5⟩
  rw[hb]
  constructor
  ·rintro ⟨h1,h2,h4⟩
   have hl:=zht h3 h1.1
   refine ⟨fun y hy=>?_,fun y hy e=>?_,h4⟩
   ·rcases List.mem_cons.1 hy with rfl|hy
    ·exact h1
    ·have h5:=h2 y hy
     refine ⟨h5.1, ?_⟩
     have h6:=h5.2
     rw[zbe _ _ _ _ (by omega)]at h6
     split at h6
     ·cases h6
     ·exact h6
   ·have h6:=(h2 y hy).2
    rw[zbe _ _ _ _ (by omega),if_pos e.symm]at h6
    cases h6
  ·rintro ⟨h1,h2,h4⟩
   have h0:=h1 x (by simp)
   have hl:=zht h3 h0.1
   refine ⟨h0,fun y hy=>?_,h4⟩
   have h5:=h1 y (by simp[hy])
   refine ⟨h5.1, ?_⟩
   rw[zbe _ _ _ _ (by omega),if_neg (fun e=>h2 y hy e.symm)]
   exact h5.2
theorem zfL {α:Type} [Inhabited α] {R:α→α→Prop} {l:List α}:l.Pairwise R↔∀ i,i<l.length→∀ m,m<i→R (nth l m) (nth l i):=by
 rw[List.pairwise_iff_getElem]
 constructor
 ·intro h i hi m hm
  have:=h m i (by omega) hi hm
  rw[←zaT (by omega),←zaT hi]at this
  exact this
 ·intro h i j hi hj hij
  have:=h j hj i hij
  rw[zaT hi,zaT hj]at this
  exact this
theorem zks {p:Pln} (h:zbU p.sections=true) (x:Sgn):(zbT (ends p.sections) x.sec=true∧0≤x.ed∧x.ed<nth (ends p.sections) x.sec.toNat)↔∃ s∈p.sections,s.id=x.sec∧0≤x.ed∧x.ed<s.ends.length:=by
 rw[zeb h]
 constructor
 ·rintro ⟨⟨s,hs,e⟩,h1,h2⟩
  rw[←e,zit h hs]at h2
  exact ⟨s,hs,e,h1,h2⟩
 ·rintro ⟨s,hs,e,h1,h2⟩
  exact ⟨⟨s,hs,e⟩,h1,by rw[←e,zit h hs];exact h2⟩
theorem zhq {p:Pln} (h:zbU p.sections=true):signals p (ends p.sections)=true↔SgsP p:=by
 have h3:=zq4 h
 unfold signals
 rw[Bool.and_eq_true,zdL,zkN h3 _ _ List.length_replicate]
 have hpw:(p.signals.map Sgn.id).Pairwise (· < ·)↔∀ i,i<p.signals.length→∀ m,m<i→(nth p.signals m).id<(nth p.signals i).id:=by
  rw[List.pairwise_map,zfL]
 rw[hpw,zfL]
 constructor
 ·rintro ⟨⟨h1,h2,h4⟩,h5,h6⟩
  refine ⟨fun x hx=>h1 x.id (List.mem_map_of_mem hx),h2,fun i hi m hm e=>?_,fun x hx=>(zks h x).1 (h5 x hx).1,by simpa using h4⟩
  exact h6 i hi m hm ((zi6 h3 (h5 _ (zab (by omega))).1 (h5 _ (zab hi)).1).2 e)
 ·rintro ⟨h1,h2,h4,h5,h6⟩
  refine ⟨⟨fun n hn=>?_,h2,by simpa using h6⟩,fun x hx=>?_,fun i hi m hm e=>?_⟩
  ·obtain ⟨x,hx,rfl⟩:=List.mem_map.1 hn
   exact h1 x hx
  ·have h7:=(zks h x).2 (h5 x hx)
   exact ⟨h7,zdg _ _ _ (zht h3 h7)⟩
  ·exact h4 i hi m hm ((zi6 h3 ((zks h _).2 (h5 _ (zab (by omega)))) ((zks h _).2 (h5 _ (zab hi)))).1 e)
theorem zhE {p:Pln} (h:zbU p.sections=true) (x:Sgn):zok p x=false↔(1≤x.id∧x.id≤99)∧∃ s∈p.sections,s.id=x.sec∧0≤x.ed∧x.ed<s.ends.length:=by
 have hso:zd2 p.sections:=zdm h
 unfold zok
 simp only[Bool.or_eq_false_iff,decide_eq_false_iff_not]
 constructor
 ·rintro ⟨h1,h2,h3,h4,h5⟩
  refine ⟨by omega, ?_⟩
  rcases zcF x.sec p.sections 0 with ⟨e,_⟩|⟨q,hq,e,e2⟩
  ·rw[e]at h3;exact absurd (by decide) h3
  ·have e3:(zdE x.sec 0 p.sections).toNat=q:=by omega
   rw[e3]at h5
   exact ⟨_,zab hq,e2,by omega,by omega⟩
 ·rintro ⟨h1,s,hs1,hs2,h3,h4⟩
  have h5:=zdl hso hs1
  rw[hs2]at h5
  rw[h5.1]
  refine ⟨by omega,by omega,by omega,by omega,by omega⟩
theorem rsF_eq {p:Pln} (h:zbU p.sections=true):rsF p=signals p (ends p.sections):=by
 generalize hX:signals p (ends p.sections)=X
 have hiff:X=true↔SgsP p:=by rw[←hX];exact zhq h
 have good1:∀ {b:Bool},(b=true↔SgsP p)→b=X:=fun hb=>by rw[Bool.eq_iff_iff,hb,hiff]
 unfold rsF
 refine zaU (·=X) (fun k _=>∀ i,i<k→zok p (nth p.signals i)=false∧∀ m,m<i→(nth p.signals m).id<(nth p.signals i).id∧¬((nth p.signals m).sec=(nth p.signals i).sec∧(nth p.signals m).ed=(nth p.signals i).ed)) (fun i hi=>by omega) ?_ ?_
 ·intro k _ za0 hk hK hn
  cases hb:zok p (nth p.signals k) with
  |true =>
   rw[cond_true]
   refine good1 ⟨fun h=>(by cases h),fun hp=>?_⟩
   have:=(zhE h (nth p.signals k)).2 ⟨hp.id _ (zab hk),hp.sec _ (zab hk)⟩
   rw[hb]at this
   cases this
  |false =>
   rw[cond_false]
   refine zaU (·=X) (fun m _=>∀ j,j<m→(nth p.signals j).id<(nth p.signals k).id∧¬((nth p.signals j).sec=(nth p.signals k).sec∧(nth p.signals j).ed=(nth p.signals k).ed)) (fun j hj=>by omega) ?_ ?_
   ·intro m _ next2 hm hM hn2
    by_cases e:(nth p.signals m).id<(nth p.signals k).id∧¬((nth p.signals m).sec=(nth p.signals k).sec∧(nth p.signals m).ed=(nth p.signals k).ed)
    ·have:(decide ((nth p.signals k).id≤(nth p.signals m).id)||(decide ((nth p.signals m).sec=(nth p.signals k).sec)&&decide ((nth p.signals m).ed=(nth p.signals k).ed)))=false:=by
      simp only[Bool.or_eq_false_iff,Bool.and_eq_false_imp,decide_eq_false_iff_not,decide_eq_true_eq]
      exact ⟨by omega,fun h1 h2=>e.2 ⟨h1,h2⟩⟩
     rw[this,cond_false]
     refine hn2 () fun j hj=>?_
     rcases Nat.lt_or_ge j m with h1|h1
     ·exact hM j h1
     ·obtain rfl:j=m:=by omega
      exact e
    ·have:(decide ((nth p.signals k).id≤(nth p.signals m).id)||(decide ((nth p.signals m).sec=(nth p.signals k).sec)&&decide ((nth p.signals m).ed=(nth p.signals k).ed)))=true:=by
      rw[←Bool.not_eq_false]
      intro hf
      simp only[Bool.or_eq_false_iff,Bool.and_eq_false_imp,decide_eq_false_iff_not,decide_eq_true_eq]at hf
      exact e ⟨by omega,fun h1=>hf.2 h1.1 h1.2⟩
     rw[this,cond_true]
     refine good1 ⟨fun h=>(by cases h),fun hp=>absurd ?_ e⟩
     exact ⟨hp.up k hk m hm,hp.apart k hk m hm⟩
   ·intro _ hM
    refine hn () fun i hi=>?_
    rcases Nat.lt_or_ge i k with h1|h1
    ·exact hK i h1
    ·obtain rfl:i=k:=by omega
     exact ⟨hb,hM⟩
 ·intro _ hK
  refine good1 ?_
  rw[decide_eq_true_eq]
  constructor
  ·intro hl
   refine ⟨fun x hx=>?_,fun i hi m hm=>((hK i hi).2 m hm).1,fun i hi m hm=>((hK i hi).2 m hm).2,fun x hx=>?_,hl⟩
   ·obtain ⟨i,hi,rfl⟩:=zbb hx
    exact ((zhE h _).1 (hK i hi).1).1
   ·obtain ⟨i,hi,rfl⟩:=zbb hx
    exact ((zhE h _).1 (hK i hi).1).2
  ·exact fun hp=>hp.len
end Go.Lev
namespace Go.Lev
open Go.Eng
theorem zhe {α:Type} [Inhabited α] (f:α→Int) (n:Int) (d:α) (l:List α):(zaW (fun x=>decide (f x=n)) 0 l=-1∧l.find? (fun x=>decide (f x=n))=none)∨∃ i:Nat,i<l.length∧zaW (fun x=>decide (f x=n)) 0 l=(i:Int)∧f (nth l i)=n∧l.find? (fun x=>decide (f x=n))=some (nth l i):=by
 rcases zbJ (fun x:α=>decide (f x=n)) l 0 with ⟨h1,h2⟩|⟨i,h1,h2,h3⟩
 ·exact .inl ⟨h1,h2⟩
 ·exact .inr ⟨i,h1,by omega,(zdA (f:=f) h3).2,h3⟩
theorem zc1 {α:Type} (f:α→Int) (n:Int) (l:List α):(l.find? fun x=>decide (f x=n)).isSome=true↔∃ x∈l,f x=n:=by
 rw[List.find?_isSome]
 constructor
 ·rintro ⟨x,hx,e⟩;exact ⟨x,hx,by simpa using e⟩
 ·rintro ⟨x,hx,e⟩;exact ⟨x,hx,by simpa using e⟩
theorem zoO (p:Pln) (pr:Option Int) (f:Flk):zlr p.points pr f=false↔FlkOk p pr f:=by
 unfold zlr FlkOk
 rw[Bool.or_eq_false_iff,Bool.or_eq_false_iff,Bool.not_eq_false',zc1 Pnt.id]
 refine and_congr Iff.rfl (and_congr ?_ ?_)
 ·cases pr with
  |none=>simp
  |some y=>simp
 ·by_cases h:f.lie=1
  ·simp[h]
  ·simp[h]
theorem znP (p:Pln):∀ (l:List Flk) (pr:Option Int),zoN p.points pr l=true↔∀ i,i<l.length→FlkOk p (if i=0 then pr else some (nth l (i-1)).pnt) (nth l i)
 |[],pr=>by simp[zoN]
 |f::r,pr=>by
  rw[zoN,Bool.and_eq_true,Bool.not_eq_true',zoO,znP p r]
  constructor
  ·rintro ⟨h1,h2⟩ i hi
   match i with
   |0=>rw[if_pos rfl];exact h1
   |1=>exact h2 0 (by simpa using hi)
   |i+2 =>
    have:=h2 (i+1) (by simp at hi;omega)
    rw[if_neg (by omega)]at this ⊢
    exact this
  ·intro h
   refine ⟨by have:=h 0 (by simp);rw[if_pos rfl]at this;exact this,fun i hi=>?_⟩
   have:=h (i+1) (by simpa using hi)
   rw[if_neg (by omega)]at this
   match i with
   |0=>exact this
   |i+1=>rw[if_neg (by omega)];exact this
theorem zpN {p:Pln} (h:zbU p.sections=true) (hg:SgsP p) (r:Rte):zcj p r (ends p.sections)=true↔RteP p r:=by
 unfold zcj
 rw[Bool.and_eq_true,Bool.and_eq_true,Bool.and_eq_true,Bool.and_eq_true]
 unfold zhD zfe zeC zhC
 rw[zj7 _ _ _ (by rw[List.length_set,List.length_replicate]),znP]
 have hent:(p.signals.find? fun x=>decide (x.id=r.entry)).isSome=true→0≤((p.signals.find? fun x=>decide (x.id=r.entry)).getD Sgn.z).sec∧((p.signals.find? fun x=>decide (x.id=r.entry)).getD Sgn.z).sec≤99:=fun h1=>by
  obtain ⟨x,hx⟩:=Option.isSome_iff_exists.1 h1
  rw[hx]
  obtain ⟨s,hs,e,_⟩:=hg.sec x (List.mem_of_find?_eq_some hx)
  have:=zbd h s hs
  show 0≤x.sec∧x.sec≤99
  omega
 have hmark:(p.signals.find? fun x=>decide (x.id=r.entry)).isSome=true→∀ x:Int,0≤x∧x≤99→(nth ((List.replicate 100 false).set ((p.signals.find? fun x=>decide (x.id=r.entry)).getD Sgn.z).sec.toNat true) x.toNat=false↔¬x=((p.signals.find? fun x=>decide (x.id=r.entry)).getD Sgn.z).sec):=fun h1 x hx=>by
  have h2:=hent h1
  rw[zbe _ _ _ _ (by rw[List.length_replicate];omega)]
  by_cases e:x=((p.signals.find? fun x=>decide (x.id=r.entry)).getD Sgn.z).sec
  ·rw[if_pos (by rw[e])];simp[e]
  ·rw[if_neg (by omega),zdg _ _ _ (by omega)];simp[e]
 have hth:∀ x:Int,zbT (ends p.sections) x=true→0≤x∧x≤99:=fun x hx=>by
  obtain ⟨s,hs,e⟩:=(zeb h x).1 hx
  have:=zbd h s hs
  omega
 constructor
 ·rintro ⟨h1,h2,h3,⟨h4,h5⟩,h6⟩
  simp only[Bool.and_eq_true,Bool.not_eq_true',Bool.and_eq_false_imp,Bool.or_eq_false_iff,Bool.not_eq_false',decide_eq_true_eq,decide_eq_false_iff_not]at h1 h2 h3
  obtain ⟨h7,h8,h9⟩:=h1
  refine ⟨(zc1 Sgn.id _ _).1 h7,fun e=>?_,fun e=>?_,by omega,fun x hx=>?_,h5,fun i hi=>?_⟩
  ·have:=h8 e
   exact ⟨(zc1 Sgn.id _ _).1 this.1,this.2⟩
  ·have:=h9 e;omega
  ·obtain ⟨h10,h11⟩:=h4 x hx
   exact ⟨(zeb h x).1 h10,(hmark h7 x (hth x h10)).1 h11⟩
  ·have:=h6 i hi
   refine ⟨this.1,fun h0=>?_,this.2.2⟩
   exact this.2.1 _ (by rw[if_neg (by omega)])
 ·intro hr
  have h7:=(zc1 Sgn.id _ _).2 hr.ent
  refine ⟨?_, ?_, ?_,⟨fun x hx=>?_,hr.nd⟩,fun i hi=>?_⟩
  ·simp only[Bool.and_eq_true,Bool.not_eq_true',Bool.and_eq_false_imp,Bool.or_eq_false_iff,Bool.not_eq_false',decide_eq_true_eq,decide_eq_false_iff_not]
   refine ⟨h7,fun e=>⟨(zc1 Sgn.id _ _).2 (hr.ex e).1,(hr.ex e).2⟩,fun e=>?_⟩
   have:=hr.ov e
   omega
  ·have:=hr.lens
   simp only[Bool.and_eq_true,Bool.not_eq_true',decide_eq_false_iff_not]
   omega
  ·have:=hr.lens
   simp only[Bool.and_eq_true,Bool.not_eq_true',decide_eq_false_iff_not]
   omega
  ·obtain ⟨h10,h11⟩:=hr.secs x hx
   have h12:=(zeb h x).2 h10
   exact ⟨h12,(hmark h7 x (hth x h12)).2 h11⟩
  ·obtain ⟨h10,h11,h12⟩:=hr.flk i hi
   refine ⟨h10,fun y hy=>?_,h12⟩
   by_cases h0:i=0
   ·rw[if_pos h0]at hy;cases hy
   ·rw[if_neg h0]at hy
    cases hy
    exact h11 (by omega)
theorem zh5 {l:List Int}:l.Nodup↔∀ i,i<l.length→∀ m,m<i→¬nth l m=nth l i:=by
 rw[List.nodup_iff_pairwise_ne,zfL]
theorem rrF_eq {p:Pln} (h:zbU p.sections=true) (hg:SgsP p) (r:Rte):rrF p r (zaW (fun x=>decide (Sgn.id x=r.entry)) 0 p.signals) (zaW (fun x=>decide (Sgn.id x=r.exit)) 0 p.signals) (r.path++r.over)=zcj p r (ends p.sections):=by
 generalize hX:zcj p r (ends p.sections)=X
 have hiff:X=true↔RteP p r:=by rw[←hX];exact zpN h hg r
 have good1:∀ {b:Bool},(b=true↔RteP p r)→b=X:=fun hb=>by rw[Bool.eq_iff_iff,hb,hiff]
 have bad:¬RteP p r→false=X:=fun hb=>good1 ⟨fun h=>(by cases h),fun hr=>absurd hr hb⟩
 have hso:zd2 p.sections:=zdm h
 unfold rrF
 cases h1:rrT1 p r (zaW (fun x=>decide (Sgn.id x=r.entry)) 0 p.signals) (zaW (fun x=>decide (Sgn.id x=r.exit)) 0 p.signals) with
 |true =>
  rw[cond_true]
  refine bad fun hr=>?_
  have hent:=hr.ent
  have:rrT1 p r (zaW (fun x=>decide (Sgn.id x=r.entry)) 0 p.signals) (zaW (fun x=>decide (Sgn.id x=r.exit)) 0 p.signals)=false:=by
   unfold rrT1
   simp only[Bool.or_eq_false_iff,Bool.and_eq_false_imp,decide_eq_false_iff_not,decide_eq_true_eq,Bool.not_eq_true',Bool.not_eq_false']
   refine ⟨?_,fun e=>?_,fun e=>?_⟩
   ·rcases zhe Sgn.id r.entry Sgn.z p.signals with ⟨_,e2⟩|⟨i,_,e2,_⟩
    ·obtain ⟨x,hx,ex⟩:=hent
     have:=List.find?_eq_none.1 e2 x hx
     simp[ex]at this
    ·omega
   ·refine ⟨?_,(hr.ex e).2⟩
    rcases zhe Sgn.id r.exit Sgn.z p.signals with ⟨_,e2⟩|⟨i,_,e2,_⟩
    ·obtain ⟨x,hx,ex⟩:=(hr.ex e).1
     have:=List.find?_eq_none.1 e2 x hx
     simp[ex]at this
    ·omega
   ·have:=hr.ov e
    omega
  rw[this]at h1
  cases h1
 |false =>
  rw[cond_false]
  unfold rrT1 at h1
  simp only[Bool.or_eq_false_iff,Bool.and_eq_false_imp,decide_eq_false_iff_not,decide_eq_true_eq,Bool.not_eq_true',Bool.not_eq_false']at h1
  obtain ⟨h1a,h1b,h1c⟩:=h1
  rcases zhe Sgn.id r.entry Sgn.z p.signals with ⟨e,_⟩|⟨k,hk,e,ek,ef⟩
  ·rw[e]at h1a;exact absurd (by decide) h1a
  ·rw[e]
   have hsec:((p.signals.find? fun x=>decide (x.id=r.entry)).getD Sgn.z).sec=(nth p.signals k).sec:=by rw[ef];rfl
   cases h2:rrT2 r with
   |true =>
    rw[cond_true]
    refine bad fun hr=>?_
    have:=hr.lens
    have:rrT2 r=false:=by
     unfold rrT2
     simp only[Bool.or_eq_false_iff,decide_eq_false_iff_not]
     omega
    rw[this]at h2
    cases h2
   |false =>
    rw[cond_false]
    unfold rrT2 at h2
    simp only[Bool.or_eq_false_iff,decide_eq_false_iff_not]at h2
    have hS:∀ n:Int,rrS p (k:Int) n=false↔(∃ s∈p.sections,s.id=n)∧¬n=(nth p.signals k).sec:=fun n=>by
     unfold rrS
     rw[Int.toNat_natCast,Bool.or_eq_false_iff,decide_eq_false_iff_not,decide_eq_false_iff_not]
     refine and_congr ?_ Iff.rfl
     constructor
     ·intro h3
      rcases zcF n p.sections 0 with ⟨e3,_⟩|⟨q,hq,e3,e4⟩
      ·rw[e3]at h3;exact absurd (by decide) h3
      ·exact ⟨_,zab hq,e4⟩
     ·rintro ⟨s,hs,e3⟩
      have:=(zdl hso hs).2
      rw[e3]at this
      omega
    have hK:∀ i,rrK p r i=false↔(∃ x∈p.points,x.id=(nth r.flanks i).pnt)∧(0<i→(nth r.flanks (i-1)).pnt<(nth r.flanks i).pnt)∧((nth r.flanks i).lie=1∨(nth r.flanks i).lie=2):=fun i=>by
     unfold rrK
     simp only[Bool.or_eq_false_iff,Bool.and_eq_false_imp,decide_eq_false_iff_not,decide_eq_true_eq]
     refine and_congr ?_ (and_congr ?_ ?_)
     ·rcases zaP Pnt.id (nth r.flanks i).pnt p.points with ⟨e3,e4⟩|⟨q,hq,e3,e4⟩
      ·rw[e3]
       constructor
       ·intro h3;exact absurd (by decide) h3
       ·rintro ⟨x,hx,ex⟩;exact absurd ex (e4 x hx)
      ·rw[e3]
       exact ⟨fun _=>⟨_,zab hq,e4⟩,fun _=>by omega⟩
     ·constructor
      ·intro h3 h4;have:=h3 (by omega);omega
      ·intro h3 h4;have:=h3 (by omega);omega
     ·omega
    refine zaU (·=X) (fun i _=>∀ j,j<i→((∃ s∈p.sections,s.id=nth (r.path++r.over) j)∧¬nth (r.path++r.over) j=(nth p.signals k).sec)∧∀ m,m<j→¬nth (r.path++r.over) m=nth (r.path++r.over) j) (fun j hj=>by omega) ?_ ?_
    ·intro i _ za0 hi hI hn
     cases h3:rrS p (k:Int) (nth (r.path++r.over) i) with
     |true =>
      rw[cond_true]
      refine bad fun hr=>?_
      have:=hr.secs _ (zab hi)
      rw[hsec]at this
      rw[(hS _).2 this]at h3
      cases h3
     |false =>
      rw[cond_false]
      refine zaU (·=X) (fun m _=>∀ j,j<m→¬nth (r.path++r.over) j=nth (r.path++r.over) i) (fun j hj=>by omega) ?_ ?_
      ·intro m _ next2 hm hM hn2
       by_cases e4:nth (r.path++r.over) m=nth (r.path++r.over) i
       ·rw[decide_eq_true e4,cond_true]
        exact bad fun hr=>zh5.1 hr.nd i hi m hm e4
       ·rw[decide_eq_false e4,cond_false]
        refine hn2 () fun j hj=>?_
        rcases Nat.lt_or_ge j m with h5|h5
        ·exact hM j h5
        ·obtain rfl:j=m:=by omega
         exact e4
      ·intro _ hM
       refine hn () fun j hj=>?_
       rcases Nat.lt_or_ge j i with h5|h5
       ·exact hI j h5
       ·obtain rfl:j=i:=by omega
        exact ⟨(hS _).1 h3,hM⟩
    ·intro _ hI
     refine zaU (·=X) (fun i _=>∀ j,j<i→rrK p r j=false) (fun j hj=>by omega) ?_ ?_
     ·intro i _ za0 hi hJ hn
      cases h3:rrK p r i with
      |true =>
       rw[cond_true]
       refine bad fun hr=>?_
       rw[(hK i).2 (hr.flk i hi)]at h3
       cases h3
      |false =>
       rw[cond_false]
       refine hn () fun j hj=>?_
       rcases Nat.lt_or_ge j i with h5|h5
       ·exact hJ j h5
       ·obtain rfl:j=i:=by omega
        exact h3
     ·intro _ hJ
      refine good1 ⟨fun _=>?_,fun _=>rfl⟩
      refine ⟨⟨_,zab hk,ek⟩,fun e4=>?_,fun e4=>?_,by omega,fun x hx=>?_,zh5.2 fun i hi m hm=>(hI i hi).2 m hm,fun i hi=>(hK i).1 (hJ i hi)⟩
      ·have:=h1b e4
       refine ⟨?_,this.2⟩
       rcases zhe Sgn.id r.exit Sgn.z p.signals with ⟨e5,_⟩|⟨q,hq,e5,e6,_⟩
       ·rw[e5]at this;exact absurd (by decide) this.1
       ·exact ⟨_,zab hq,e6⟩
      ·have:=h1c e4;omega
      ·obtain ⟨i,hi,rfl⟩:=zbb hx
       rw[hsec]
       exact (hI i hi).1
end Go.Lev
namespace Go.Lev
open Go.Eng
theorem rmF_eq (p:Pln):rmF p (zbU p.sections) (points p) (signals p (ends p.sections)) (fun r=>zcj p r (ends p.sections))=zbB p:=by
 have key:∀ X:Bool,zbB p=X→rmF p (zbU p.sections) (points p) (signals p (ends p.sections)) (fun r=>zcj p r (ends p.sections))=X:=by
  intro X hX
  have hiff:X=true↔rmT p=false∧(zbU p.sections=true∧points p=true∧signals p (ends p.sections)=true)∧∀ i,i<p.routes.length→rmR p (fun r=>zcj p r (ends p.sections)) i=false:=by
   rw[←hX]
   unfold zbB rmT rmR
   simp only[Bool.and_eq_true,Bool.not_eq_true',Bool.or_eq_false_iff,Bool.and_eq_false_imp,decide_eq_false_iff_not,decide_eq_true_eq,Bool.not_eq_false',zdL,zjS,List.all_eq_true]
   constructor
   ·rintro ⟨⟨h1,h2,h3,h4,h5⟩,h6,h7,⟨h8,h9,h10⟩,h11⟩
    refine ⟨⟨h1,h2,h3,h4,by simp only[List.length_map]at h10;omega⟩,⟨h5,h6,h7⟩,fun i hi=>?_⟩
    have:=h8 (nth p.routes i).id (List.mem_map_of_mem (zab hi))
    refine ⟨by omega,by omega,fun h=>?_,h11 _ (zab hi)⟩
    have:=h9 i (by omega) hi
    omega
   ·rintro ⟨⟨h1,h2,h3,h4,h10⟩,⟨h5,h6,h7⟩,h8⟩
    refine ⟨⟨h1,h2,h3,h4,h5⟩,h6,h7,⟨fun n hn=>?_,fun i h0 hi=>?_,by simp only[List.length_map];omega⟩,fun r hr=>?_⟩
    ·obtain ⟨r,hr,rfl⟩:=List.mem_map.1 hn
     obtain ⟨i,hi,rfl⟩:=zbb hr
     have:=h8 i hi
     omega
    ·have:=(h8 i hi).2.2.1 (by omega)
     omega
    ·obtain ⟨i,hi,rfl⟩:=zbb hr
     exact (h8 i hi).2.2.2
  have bad:¬(rmT p=false∧(zbU p.sections=true∧points p=true∧signals p (ends p.sections)=true)∧∀ i,i<p.routes.length→rmR p (fun r=>zcj p r (ends p.sections)) i=false)→false=X:=fun h=>by
   cases X with
   |false=>rfl
   |true=>exact absurd (hiff.1 rfl) h
  unfold rmF
  cases h1:rmT p with
  |true=>rw[cond_true];exact bad fun h=>by rw[h1]at h;cases h.1
  |false =>
   rw[cond_false]
   by_cases h2:zbU p.sections=true∧points p=true∧signals p (ends p.sections)=true
   ·rw[h2.1,h2.2.1,h2.2.2,Bool.not_true,Bool.or_false,Bool.or_false,cond_false]
    refine zaU (·=X) (fun i _=>∀ j,j<i→rmR p (fun r=>zcj p r (ends p.sections)) j=false) (fun j hj=>by omega) ?_ ?_
    ·intro i _ za0 hi hI hn
     cases h3:rmR p (fun r=>zcj p r (ends p.sections)) i with
     |true=>rw[cond_true];exact bad fun h=>by have:=h.2.2 i hi;rw[h3]at this;cases this
     |false =>
      rw[cond_false]
      refine hn () fun j hj=>?_
      rcases Nat.lt_or_ge j i with h5|h5
      ·exact hI j h5
      ·obtain rfl:j=i:=by omega
       exact h3
    ·intro _ hI
     exact (hiff.2 ⟨h1,h2,hI⟩).symm
   ·have:(!zbU p.sections||(!points p||!signals p (ends p.sections)))=true:=by
     rw[←Bool.not_eq_false]
     intro h
     simp only[Bool.or_eq_false_iff,Bool.not_eq_false']at h
     exact h2 h
    rw[this,cond_true]
    exact bad fun h=>h2 h.2.1
 exact key _ rfl
end Go.Lev
namespace Go.Lev
open Go.Eng
theorem zjE {p:Pln} {w:Wk} {s i:Int} {R:Int→Join→Bool} (h:w.lost=true):(zaw p w s i R).lost=true:=by
 unfold zaw
 rw[if_pos h]
 exact h
theorem zn7 {p:Pln} {w:Wk} {s i:Int} (h:w.lost=true):(zdk p w s i).lost=true:=by
 unfold zdk
 split
 ·rfl
 ·rw[if_neg (by rw[h];simp)]
  exact h
theorem zfb {p:Pln} {r:Rte} {y:Sgn} {all:List Int}:∀ (l:List Int) (i:Nat) (w:Wk),w.lost=true→(zby p r y all i w l).lost=true
 |[],_,_,h=>h
 |s::l,i,w,h=>by
  rw[zby]
  refine zfb l _ _ ?_
  unfold zdI
  repeat' split
  all_goals first|exact zjE h|exact zn7 h
theorem zfK {s:Section} {f:Int} {R R':Int→Join→Bool}:∀ (l:List Join) (e:Nat),(∀ k,k<l.length→R ((e+k:Nat):Int) (nth l k)=R' ((e+k:Nat):Int) (nth l k))→zaO s f R e l=zaO s f R' e l
 |[],_,_=>rfl
 |j::r,e,h=>by
  have h0:R (e:Int) j=R' (e:Int) j:=h 0 (by simp)
  have ih:=zfK (s:=s) (f:=f) (R:=R) (R':=R') r (e+1) fun k hk=>by
   have:=h (k+1) (by simpa using hk)
   rw[show e+(k+1)=e+1+k by omega]at this
   exact this
  rw[zaO,zaO,ih,h0]
theorem zeG {s:Section} {f:Int} {R:Int→Join→Bool}:∀ (l:List Join) (e:Nat) {v:Nat×Join×Int},zaO s f R e l=some v→e≤v.1∧v.1<e+l.length∧v.2.1=nth l (v.1-e)∧(za9 s f v.1).2=0∧v.2.2=(za9 s f v.1).1
 |[],_,v,h=>by simp[zaO]at h
 |j::r,e,v,h=>by
  rw[zaO]at h
  split at h
  ·rename_i h1
   simp only[Option.some.injEq]at h
   subst h
   exact ⟨Nat.le_refl _,by simp,by rw[Nat.sub_self];rfl,h1.1,rfl⟩
  ·obtain ⟨h1,h2,h3,h4⟩:=zeG r (e+1) h
   refine ⟨by omega,by simp;omega, ?_,h4⟩
   rw[h3,show v.1-e=(v.1-(e+1))+1 by omega]
   rfl
section
variable {p:Pln} (hs:zbU p.sections=true)
include hs
theorem zfd {n:Int} (h:∃ s∈p.sections,s.id=n):zde p n∈p.sections∧(zde p n).id=n∧p.sections.find? (fun s=>decide (s.id=n))=some (zde p n):=by
 obtain ⟨s,hs1,e⟩:=h
 have h1:=zdl (zdm hs) hs1
 rw[e]at h1
 have h2:zde p n=s:=h1.1
 rw[h2]
 have:=zil Section.id (zeJ (zkT hs)) hs1
 rw[e]at this
 exact ⟨hs1,e,this⟩
theorem zkM {s:Section} (h:s∈p.sections):zbt s=true:=((zgM _).1 hs).one s h |>.2.2
theorem join_0 {s:Section} (h:s∈p.sections) {e:Nat} (he:e<s.ends.length):(nth s.ends e).to=0↔nth s.ends e=⟨0,0⟩:=by
 constructor
 ·intro h0
  rcases ((zgM _).1 hs).join s h e he with h1|⟨_,_,s',hs',e1,_⟩
  ·cases hj:nth s.ends e with
   |mk a b =>
    rw[hj]at h1
    obtain ⟨h2,h3⟩:=h1
    dsimp only at h2 h3
    rw[h2,h3]
  ·have:=(zbd hs s' hs').1
   omega
 ·intro h0;rw[h0]
end
theorem zpw {p:Pln} (h:SgsP p):(p.signals.map Sgn.id).Nodup:=by
 rw[List.nodup_iff_pairwise_ne,List.pairwise_map,zfL]
 intro i hi m hm
 have:=h.up i hi m hm
 omega
theorem zne (n:Int):∀ (l:List Sgn) (o:Sgn),(∀ x∈l,x.id≠n)→zn9 n o l=o
 |[],_,_=>rfl
 |x::r,o,h=>by rw[zn9,if_neg (h x (by simp))];exact zne n r o fun y hy=>h y (by simp[hy])
theorem zme (n:Int):∀ (l:List Sgn) (o:Sgn),(l.map Sgn.id).Nodup→∀ x∈l,x.id=n→zn9 n o l=x
 |[],_,_,x,hx,_=>by cases hx
 |y::r,o,hn,x,hx,e=>by
  simp only[List.map_cons,List.nodup_cons]at hn
  rw[zn9]
  rcases List.mem_cons.1 hx with rfl|hx
  ·rw[if_pos e]
   exact zne n r x fun z hz e2=>hn.1 (by rw[e,←e2];exact List.mem_map_of_mem hz)
  ·split
   ·exact zme n r _ hn.2 x hx e
   ·exact zme n r _ hn.2 x hx e
theorem znd {p:Pln} (h:SgsP p) {x:Sgn} (hx:x∈p.signals):sig p x.id=x:=zme _ _ _ (zpw h) x hx rfl
theorem znJ (x:Sgn):∀ (l:List Section) (j:Join),(∀ s∈l,s.id≠x.sec)→zjl x j l=j
 |[],_,_=>rfl
 |s::r,j,h=>by rw[zjl,if_neg (h s (by simp))];exact znJ x r j fun y hy=>h y (by simp[hy])
theorem zqE (x:Sgn):∀ (l:List Section) (j:Join),(l.map Section.id).Nodup→∀ s∈l,s.id=x.sec→zjl x j l=nth s.ends x.ed.toNat
 |[],_,_,s,hs,_=>by cases hs
 |t::r,j,hn,s,hs,e=>by
  simp only[List.map_cons,List.nodup_cons]at hn
  rw[zjl]
  rcases List.mem_cons.1 hs with rfl|hs
  ·rw[if_pos e]
   exact znJ x r _ fun z hz e2=>hn.1 (by rw[e,←e2];exact List.mem_map_of_mem hz)
  ·exact zqE x r _ hn.2 s hs e
theorem zni {p:Pln} (h:SgsP p) {a b n:Int} (hn:¬n=0):zob p a b=n↔∃ x∈p.signals,x.id=n∧x.sec=a∧x.ed=b:=by
 unfold zob
 constructor
 ·intro e
  cases hf:p.signals.find? (fun x=>decide (x.sec=a)&&decide (x.ed=b)) with
  |none=>rw[hf]at e;exact absurd e.symm hn
  |some x =>
   rw[hf]at e
   have h1:=List.find?_some hf
   simp only[Bool.and_eq_true,decide_eq_true_eq]at h1
   exact ⟨x,List.mem_of_find?_eq_some hf,e,h1⟩
 ·rintro ⟨x,hx,e1,e2,e3⟩
  cases hf:p.signals.find? (fun x=>decide (x.sec=a)&&decide (x.ed=b)) with
  |none =>
   have:=List.find?_eq_none.1 hf x hx
   simp[e2,e3]at this
  |some z =>
   have h1:=List.find?_some hf
   simp only[Bool.and_eq_true,decide_eq_true_eq]at h1
   obtain ⟨i,hi,rfl⟩:=zbb hx
   obtain ⟨k,hk,rfl⟩:=zbb (List.mem_of_find?_eq_some hf)
   show (nth p.signals k).id=n
   rcases Nat.lt_trichotomy i k with hlt|rfl|hlt
   ·exact absurd ⟨e2.trans h1.1.symm,e3.trans h1.2.symm⟩ (h.apart k hk i hlt)
   ·exact e1
   ·exact absurd ⟨h1.1.trans e2.symm,h1.2.trans e3.symm⟩ (h.apart i hi k hlt)
theorem zpx {p:Pln} (h:SgsP p) {a b:Int}:zob p a b=0↔∀ x∈p.signals,¬(x.sec=a∧x.ed=b):=by
 unfold zob
 cases hf:p.signals.find? (fun x=>decide (x.sec=a)&&decide (x.ed=b)) with
 |none =>
  refine ⟨fun _ x hx e=>?_,fun _=>rfl⟩
  have:=List.find?_eq_none.1 hf x hx
  simp[e.1,e.2]at this
 |some z =>
  have h1:=List.find?_some hf
  simp only[Bool.and_eq_true,decide_eq_true_eq]at h1
  have hz:=List.mem_of_find?_eq_some hf
  refine ⟨fun e=>?_,fun e=>absurd h1 (e z hz)⟩
  have:=h.id z hz
  have e:z.id=0:=e
  omega
end Go.Lev
namespace Go.Lev
open Go.Eng
section
variable {p:Pln} (hs:zbU p.sections=true) (hg:SgsP p) {r:Rte} (hr:RteP p r)
include hs hg hr
theorem zkD {all:List Int} (hall:all=r.path++r.over) {i:Nat} (hi:i<all.length) (hst:¬(i+1=all.length∧0<r.over.length)) (w:Wk) (hw:w.lost=false) (hj:w.inn.to=nth all i) :
  zdI p r (sig p r.exit) all i (nth all i) w=match outW p r all i (zde p (nth all i)) w.inn.ed with
   |none=>{ w with lost:=true }
   |some v=>⟨v.2.1,zi1 (zde p (nth all i)).pt v.2.2 i w.asks,w.outs++[⟨nth all i,v.1⟩],false⟩:=by
 have hsec:=(hr.secs (nth all i) (by rw[←hall];exact zab hi)).1
 obtain ⟨hm,hid,hf⟩:=zfd hs hsec
 have hlen:=hr.lens
 have hal:all.length=r.path.length+r.over.length:=by rw[hall,List.length_append]
 have key:∀ R:Int→Join→Bool,(∀ k,k<(zde p (nth all i)).ends.length→R ((0+k:Nat):Int) (nth (zde p (nth all i)).ends k)=zl1 p r all i (zde p (nth all i)) ((0+k:Nat):Int) (nth (zde p (nth all i)).ends k)) →
   zaw p w (nth all i) i R=match outW p r all i (zde p (nth all i)) w.inn.ed with
    |none=>{ w with lost:=true }
    |some v=>⟨v.2.1,zi1 (zde p (nth all i)).pt v.2.2 i w.asks,w.outs++[⟨nth all i,v.1⟩],false⟩:=by
  intro R hR
  unfold zaw outW zfB
  rw[if_neg (by rw[hw];simp),if_pos hj,hf,←zfK _ _ hR]
  dsimp only
  cases zaO (zde p (nth all i)) w.inn.ed R 0 (zde p (nth all i)).ends with
  |none=>rfl
  |some v=>rfl
 unfold zdI
 by_cases h1:(i:Int)=(r.path.length:Int)-1
 ·by_cases h2:r.exit=0
  ·rw[if_pos ⟨h1,h2⟩]
   refine key _ fun k hk=>?_
   unfold zl1
   rw[if_pos h1,decide_eq_true h2,Bool.not_true,Bool.false_and,Bool.or_false,Bool.true_and,Bool.eq_iff_iff,decide_eq_true_eq,decide_eq_true_eq]
   exact (join_0 hs hm hk).symm
  ·rw[if_neg (fun h=>h2 h.2),if_pos h1]
   refine key _ fun k hk=>?_
   unfold zl1
   rw[if_pos h1,decide_eq_false h2,Bool.false_and,Bool.false_or,Bool.not_false,Bool.true_and,hid,Bool.eq_iff_iff,Bool.and_eq_true,decide_eq_true_eq,decide_eq_true_eq,decide_eq_true_eq,zni hg h2]
   obtain ⟨x,hx,ex⟩:=(hr.ex h2).1
   have hsx:sig p r.exit=x:=by rw[←ex];exact znd hg hx
   rw[hsx]
   constructor
   ·rintro ⟨e1,e2⟩;exact ⟨x,hx,ex,e1.symm,e2.symm⟩
   ·rintro ⟨y,hy,e1,e2,e3⟩
    have:x=y:=by rw[←znd hg hx,←znd hg hy,ex,e1]
    subst this
    exact ⟨e2.symm,e3.symm⟩
 ·have h3:¬(i:Int)=(all.length:Int)-1:=fun h=>by
   rcases Nat.eq_zero_or_pos r.over.length with h0|h0
   ·omega
   ·exact hst ⟨by omega,h0⟩
  rw[if_neg (fun h=>h1 h.1),if_neg h1,if_neg h3]
  refine key _ fun k hk=>?_
  unfold zl1
  rw[if_neg h1]
theorem zjt {all:List Int} (hall:all=r.path++r.over):∀ (l:List Int) (i:Nat) (j:Join) (asks:List AskR) (outs:List Join) (I O:List Int),all.drop i=l→i≤all.length →
  match zg3 p r all i j I O l with
  |none=>(zby p r (sig p r.exit) all i ⟨j,asks,outs,false⟩ l).lost=true
  |some v=>(zby p r (sig p r.exit) all i ⟨j,asks,outs,false⟩ l).lost=false∧∃ I' O':List Int,v=(I++I',O++O')∧I'.length=l.length∧O'.length=l.length ∧
    (zby p r (sig p r.exit) all i ⟨j,asks,outs,false⟩ l).asks=asks++zh7 p i l I' O'∧(zby p r (sig p r.exit) all i ⟨j,asks,outs,false⟩ l).outs=outs++outG l O'
 |[],i,j,asks,outs,I,O,_,_=>⟨rfl,[],[],by simp,rfl,rfl,by simp[zby,zh7],by simp[zby,outG]⟩
 |n::l,i,j,asks,outs,I,O,hd,hi=>by
  have hil:i<all.length:=by
   rcases Nat.lt_or_ge i all.length with h|h
   ·exact h
   ·rw[List.drop_eq_nil_of_le h]at hd;cases hd
  have hn:nth all i=n∧all.drop (i+1)=l:=by
   rw[zad hil]at hd
   simp only[List.cons.injEq]at hd
   exact hd
  obtain ⟨hn1,hn2⟩:=hn
  have hsec:=(hr.secs n (by rw[←hall,←hn1];exact zab hil)).1
  obtain ⟨hm,hid,hf⟩:=zfd hs hsec
  have hpt:0≤(zde p n).pt:=(zbd hs _ hm).2.2.1
  have hsh:=zkM hs hm
  rw[zg3,zby]
  by_cases hj:j.to=n
  ·rw[if_pos hj]
   by_cases hst:i+1=all.length∧0<r.over.length
   ·rw[if_pos hst]
    have hl:l=[]:=by rw[←hn2];exact List.drop_eq_nil_of_le (by omega)
    subst hl
    have hal:all.length=r.path.length+r.over.length:=by rw[hall,List.length_append]
    have hW:zdI p r (sig p r.exit) all i n ⟨j,asks,outs,false⟩=⟨j,zi1 (zde p n).pt (if 0<j.ed then j.ed else 0) i asks,outs,false⟩:=by
     unfold zdI
     rw[if_neg (by omega),if_neg (by omega),if_pos (by omega)]
     unfold zdk zfB
     rw[if_pos hj,hf]
     dsimp only
     by_cases h0:0<j.ed
     ·rw[if_pos ⟨rfl,h0⟩,if_pos h0]
     ·rw[if_neg (fun h=>h0 h.2),if_neg h0]
      unfold zi1
      rw[if_neg (by omega)]
    rw[hW,zby]
    refine ⟨rfl,[j.ed],[-1],rfl,rfl,rfl, ?_, ?_⟩
    ·dsimp only
     rw[show zh7 p i [n] [j.ed] [-1]=zrq p i n j.ed (-1) by simp[zh7]]
     unfold zi1 zrq
     rw[if_neg (show ¬(0:Int)≤-1 by decide)]
     by_cases h0:0<j.ed
     ·rw[if_pos h0,if_pos h0]
      by_cases h1:(zde p n).pt=0
      ·rw[if_neg (by omega),if_pos h1];simp
      ·rw[if_pos ⟨by omega,h0⟩,if_neg h1]
     ·rw[if_neg h0,if_neg h0,if_neg (by omega)]
      simp
    ·rw[show outG [n] [-1]=[] by simp[outG]];simp
   ·rw[if_neg hst]
    have hT:=zkD hs hg hr hall hil hst ⟨j,asks,outs,false⟩ rfl (by rw[hn1];exact hj)
    rw[hn1]at hT
    rw[hT]
    dsimp only
    cases ho:outW p r all i (zde p n) j.ed with
    |none=>exact zfb l _ _ rfl
    |some v =>
     dsimp only
     have hpe:=zeG (zde p n).ends 0 ho
     have ih:=zjt hall l (i+1) v.2.1 (zi1 (zde p n).pt v.2.2 i asks) (outs++[⟨n,v.1⟩]) (I++[j.ed]) (O++[(v.1:Int)]) hn2 hil
     cases he:zg3 p r all (i+1) v.2.1 (I++[j.ed]) (O++[(v.1:Int)]) l with
     |none=>rw[he]at ih;exact ih
     |some u =>
      rw[he]at ih
      obtain ⟨h1,I',O',h2,h3,h4,h5,h6⟩:=ih
      refine ⟨h1,j.ed::I',(v.1:Int)::O',by rw[h2];simp,by simp[h3],by simp[h4], ?_, ?_⟩
      ·rw[h5,zh7]
       have hlie:v.2.2=zhS (zde p n) j.ed v.1∧0≤zhS (zde p n) j.ed v.1:=by
        have h7:=hpe.2.2.2.1
        have h8:=hpe.2.2.2.2
        unfold za9 at h7 h8
        rw[if_pos hsh]at h7 h8
        split at h7
        ·cases h7
        ·rename_i h9
         rw[if_neg h9]at h8
         exact ⟨h8,by omega⟩
       rw[←List.append_assoc]
       congr 1
       unfold zi1 zrq
       rw[if_pos (show (0:Int)≤(v.1:Int) by omega),hlie.1]
       by_cases h1:(zde p n).pt=0
       ·rw[if_neg (by omega),if_pos h1];simp
       ·rw[if_neg h1]
        by_cases h0:0<zhS (zde p n) j.ed v.1
        ·rw[if_pos ⟨by omega,h0⟩,if_pos h0]
        ·rw[if_neg (by omega),if_neg h0];simp
      ·rw[h6,outG,if_pos (show (0:Int)≤(v.1:Int) by omega)]
       simp
  ·rw[if_neg hj]
   refine zfb l _ _ ?_
   have h0:zfB p ⟨j,asks,outs,false⟩ n=none:=by
    unfold zfB
    rw[if_neg hj]
   unfold zdI
   repeat' split
   all_goals first
    |(unfold zaw;rw[if_neg (by simp),h0])
    |(unfold zdk;rw[h0])
end
end Go.Lev
namespace Go.Lev
open Go.Eng
theorem zfJ {s:Section} {f:Int} {R:Int→Join→Bool}:∀ (l:List Join) (e:Nat) {v:Nat×Join×Int},zaO s f R e l=some v→R v.1 v.2.1=true
 |[],_,v,h=>by simp[zaO]at h
 |j::r,e,v,h=>by
  rw[zaO]at h
  split at h
  ·rename_i h1
   simp only[Option.some.injEq]at h
   subst h
   exact h1.2
  ·exact zfJ r (e+1) h
theorem zkr {p:Pln} {r:Rte} {all:List Int}:∀ (l:List Int) (i:Nat) (j:Join) (I O:List Int) (v:List Int×List Int),all.drop i=l→zg3 p r all i j I O l=some v →
  ∃ O':List Int,v.2=O++O'∧O'.length=l.length∧∀ k,k<O'.length→EndOk p r all (i+k) (nth O' k)
 |[],i,j,I,O,v,_,h=>by
  rw[zg3]at h
  simp only[Option.some.injEq]at h
  subst h
  exact ⟨[],by simp,rfl,fun k hk=>by simp at hk⟩
 |n::l,i,j,I,O,v,hd,h=>by
  have hil:i<all.length:=by
   rcases Nat.lt_or_ge i all.length with h1|h1
   ·exact h1
   ·rw[List.drop_eq_nil_of_le h1]at hd;cases hd
  have hn:nth all i=n∧all.drop (i+1)=l:=by
   rw[zad hil]at hd
   simp only[List.cons.injEq]at hd
   exact hd
  obtain ⟨hn1,hn2⟩:=hn
  rw[zg3]at h
  split at h
  ·split at h
   ·rename_i hst
    simp only[Option.some.injEq]at h
    subst h
    have hl:l=[]:=by rw[←hn2];exact List.drop_eq_nil_of_le (by omega)
    subst hl
    refine ⟨[-1],rfl,rfl,fun k hk=>.inr ?_⟩
    have:k=0:=by simpa using hk
    subst this
    exact ⟨rfl,hst.1,hst.2⟩
   ·split at h
    ·cases h
    ·rename_i u hu
     obtain ⟨O',h1,h2,h3⟩:=zkr l (i+1) _ _ _ v hn2 h
     refine ⟨(u.1:Int)::O',by rw[h1];simp,by simp[h2],fun k hk=>?_⟩
     match k with
     |0 =>
      have h4:=zfJ _ _ hu
      have h5:=zeG _ _ hu
      refine .inl ⟨by show (0:Int)≤(u.1:Int);omega, ?_⟩
      rw[Nat.add_zero,hn1]
      show zl1 p r all i (zde p n) (u.1:Int) (nth (zde p n).ends ((u.1:Int)).toNat)=true
      rw[Int.toNat_natCast]
      rw[Nat.sub_zero]at h5
      rw[←h5.2.2.1]
      exact h4
     |k+1 =>
      have:=h3 k (by simpa using hk)
      rw[show i+(k+1)=i+1+k by omega]
      exact this
  ·cases h
theorem zlq:∀ (f:List Flk) (l:List AskR),(∀ x∈f,0<x.pnt∧0<x.lie)→zgs l f=l++f.map fun x=>⟨x.pnt,x.lie,-1⟩
 |[],l,_=>by simp[zgs]
 |x::f,l,h=>by
  rw[zgs,zlq f _ fun y hy=>h y (by simp[hy])]
  unfold zi1
  rw[if_pos (h x (by simp))]
  simp
section
variable {p:Pln} (hs:zbU p.sections=true) (hg:SgsP p) (hp:PtsP p) {r:Rte} (hr:RteP p r)
include hs hg hr
theorem zis:∃ k:Nat,k<p.signals.length∧zaW (fun x=>decide (Sgn.id x=r.entry)) 0 p.signals=(k:Int)∧(nth p.signals k).id=r.entry∧sig p r.entry=nth p.signals k:=by
 rcases zaP Sgn.id r.entry p.signals with ⟨_,h4⟩|⟨k,hk,h4,h5⟩
 ·obtain ⟨x,hx,ex⟩:=hr.ent
  exact absurd ex (h4 x hx)
 ·exact ⟨k,hk,h4,h5,by rw[←h5];exact znd hg (zab hk)⟩
theorem zjq:zjs p r=zjl (sig p r.entry) ⟨0,0⟩ p.sections:=by
 obtain ⟨k,hk,h1,h2,h3⟩:=zis hs hg hr
 obtain ⟨s,hs1,e,_⟩:=hg.sec _ (zab hk)
 have h4:=zfd hs ⟨s,hs1,e⟩
 unfold zjs
 rw[h1,Int.toNat_natCast,h3]
 exact (zqE (nth p.signals k) p.sections ⟨0,0⟩ (zeJ (zkT hs)) _ h4.1 h4.2.1).symm
include hp
theorem zhi:match ziX p r with
  |none=>(zah p r).2.2=90
  |some v=>v.1.length=(r.path++r.over).length∧v.2.length=(r.path++r.over).length∧zah p r=(⟨r.path,r.over,asksV p r v.1 v.2,(sig p r.entry).sec⟩,outG (r.path++r.over) v.2,0):=by
 have h1:=zjt hs hg hr (all:=r.path++r.over) rfl (r.path++r.over) 0 (zjs p r) [] [] [] [] rfl (Nat.zero_le _)
 rw[zjq hs hg hr]at h1
 unfold ziX
 rw[zjq hs hg hr]
 cases he:zg3 p r (r.path++r.over) 0 (zjl (sig p r.entry) ⟨0,0⟩ p.sections) [] [] (r.path++r.over) with
 |none =>
  rw[he]at h1
  dsimp only
  unfold zah zgc
  rw[if_pos h1]
 |some v =>
  rw[he]at h1
  obtain ⟨h2,I',O',h3,h4,h5,h6,h7⟩:=h1
  simp only[List.nil_append]at h3 h6 h7
  subst h3
  dsimp only
  refine ⟨h4,h5, ?_⟩
  have hfl:∀ x∈r.flanks,0<x.pnt∧0<x.lie:=fun x hx=>by
   obtain ⟨i,hi,rfl⟩:=zbb hx
   obtain ⟨⟨y,hy,ey⟩,_,h8⟩:=hr.flk i hi
   have:=hp.id y hy
   omega
  unfold zah zgc
  rw[if_neg (by rw[h2];simp),h6,h7,zlq _ _ hfl]
  rfl
end
end Go.Lev
namespace Go.Lev
open Go.Eng
theorem zju {p:Pln} {r:Rte}:∀ (m:Nat) (l O:List Int) (i:Nat),m≤l.length→l.length=O.length→(∀ k,k<m→0≤nth O k)→(zf0 p r (i:Int) ((outG l O).take m)=true↔∀ k,k<m→p.signals.any (zhu r ((i+k:Nat):Int) ⟨nth l k,nth O k⟩)=false)
 |0,l,O,i,_,_,_=>by simp[zf0]
 |m+1,[],O,i,h,_,_=>by simp at h
 |m+1,n::l,[],i,_,h,_=>by simp at h
 |m+1,n::l,b::O,i,h,hl,h0=>by
  have hb:0≤b:=h0 0 (by omega)
  have ih:=zju (p:=p) (r:=r) m l O (i+1) (by simpa using h) (by simpa using hl) fun k hk=>h0 (k+1) (by omega)
  rw[outG,if_pos hb,List.singleton_append,List.take_succ_cons,zf0,Bool.and_eq_true,Bool.not_eq_true']
  have e:((i:Int)+1)=((i+1:Nat):Int):=by omega
  rw[e,ih]
  constructor
  ·rintro ⟨h1,h2⟩ k hk
   match k with
   |0=>exact h1
   |k+1 =>
    have:=h2 k (by omega)
    rw[show i+(k+1)=i+1+k by omega]
    exact this
  ·intro h1
   refine ⟨h1 0 (by omega),fun k hk=>?_⟩
   have:=h1 (k+1) (by omega)
   rw[show i+(k+1)=i+1+k by omega]at this
   exact this
theorem zlh {l m:List Int} {k:Nat} (h:k<l.length):nth (l++m) k=nth l k:=by
 rw[zaT (by rw[List.length_append];omega),zaT h,List.getElem_append_left h]
section
variable {p:Pln} (h:OkP p) (hs:zbU p.sections=true) (hg:SgsP p) (hp:PtsP p) {r:Rte} (hrr:r∈p.routes) (hr:RteP p r)
include h hs hg hp hrr hr
theorem sndT_iff {v:List Int×List Int} (hv:ziX p r=some v) {k:Nat} (hk:k<r.path.length):sndT p r v.2 k=false↔p.signals.any (zhu r (k:Int) ⟨nth (r.path++r.over) k,nth v.2 k⟩)=false:=by
 obtain ⟨O',h1,h2,h3⟩:=zkr (r.path++r.over) 0 _ [] [] v rfl hv
 rw[List.nil_append]at h1
 subst h1
 have hk2:k<v.2.length:=by rw[h2,List.length_append];omega
 have h4:=h3 k hk2
 rw[Nat.zero_add]at h4
 rw[zlh hk]
 have hsec:=(hr.secs (nth r.path k) (List.mem_append.2 (.inl (zab hk)))).1
 obtain ⟨hm,hid,_⟩:=zfd hs hsec
 have hany:p.signals.any (zhu r (k:Int) ⟨nth r.path k,nth v.2 k⟩)=false↔∀ x∈p.signals,x.sec=nth r.path k→x.ed=nth v.2 k→¬((k:Int)<(r.path.length:Int)-1∨¬x.id=r.exit):=by
  rw[List.any_eq_false]
  refine forall_congr' fun x=>forall_congr' fun _=>?_
  unfold zhu
  simp only[Bool.and_eq_true,Bool.or_eq_true,decide_eq_true_eq,Bool.not_eq_true',decide_eq_false_iff_not]
  constructor
  ·intro h5 h6 h7 h8;exact h5 ⟨h6,h7,h8⟩
  ·rintro h5 ⟨h6,h7,h8⟩;exact h5 h6 h7 h8
 rw[hany]
 unfold sndT
 simp only[Bool.or_eq_false_iff,Bool.and_eq_false_imp,Bool.not_eq_true',decide_eq_false_iff_not,decide_eq_true_eq,Bool.not_eq_false']
 by_cases hl:(k:Int)=(r.path.length:Int)-1
 ·have hrg:0≤nth v.2 k∧zl1 p r (r.path++r.over) k (zde p (nth r.path k)) (nth v.2 k) (nth (zde p (nth r.path k)).ends (nth v.2 k).toNat)=true:=by
   rcases h4 with h4|h4
   ·rw[zlh hk]at h4;exact h4
   ·have:=h4.2.1
    rw[List.length_append]at this
    omega
  have hrg:=hrg.2
  unfold zl1 at hrg
  rw[if_pos hl,hid]at hrg
  simp only[Bool.or_eq_true,Bool.and_eq_true,decide_eq_true_eq,Bool.not_eq_true',decide_eq_false_iff_not]at hrg
  constructor
  ·rintro ⟨_,h6⟩ x hx e1 e2 e3
   have h7:=h6 hl
   have h8:=hg.id x hx
   have h9:=(zni hg (n:=x.id) (a:=nth r.path k) (b:=nth v.2 k) (by omega)).2 ⟨x,hx,rfl,e1,e2⟩
   rw[h9]at h7
   omega
  ·intro h5
   refine ⟨fun _=>by omega,fun _=>?_⟩
   rcases hrg with ⟨e0,_⟩|⟨_,e1⟩
   ·rw[e0,zpx hg]
    rintro x hx ⟨e1,e2⟩
    refine h5 x hx e1 e2 (.inr ?_)
    have:=hg.id x hx
    omega
   ·exact e1
 ·constructor
  ·rintro ⟨h6,_⟩ x hx e1 e2 _
   by_cases h0:zob p (nth r.path k) (nth v.2 k)=0
   ·exact (zpx hg).1 h0 x hx ⟨e1,e2⟩
   ·have:=h6 h0
    omega
  ·intro h5
   refine ⟨fun h0=>?_,fun e=>absurd e hl⟩
   exact absurd ((zpx hg).2 fun x hx e=>h5 x hx e.1 e.2 (.inl (by omega))) h0
theorem snd_eq {v:List Int×List Int} (hv:ziX p r=some v):sndF p r (zah p r).1.asks v.2=zbw p r:=by
 have hw:=zhi hs hg hp hr
 rw[hv]at hw
 obtain ⟨h1,h2,h3⟩:=hw
 have hout:(zah p r).2.1=outG (r.path++r.over) v.2:=by rw[h3]
 obtain ⟨O',h4,h5,h6⟩:=zkr (r.path++r.over) 0 _ [] [] v rfl hv
 rw[List.nil_append]at h4
 subst h4
 have hpos:∀ k,k<r.path.length→0≤nth v.2 k:=fun k hk=>by
  rcases h6 k (by rw[h5,List.length_append];omega) with h7|h7
  ·exact h7.1
  ·have h8:=h7.2.1
   rw[List.length_append]at h8
   omega
 have hcl:zgw p r (zah p r).2.1=true↔∀ k,k<r.path.length→sndT p r v.2 k=false:=by
  unfold zgw
  rw[hout]
  have:=zju (p:=p) (r:=r) r.path.length (r.path++r.over) v.2 0 (by rw[List.length_append];omega) h2.symm hpos
  simp only[Nat.zero_add]at this
  rw[show ((0:Nat):Int)=0 from rfl]at this
  rw[this]
  exact forall_congr' fun k=>forall_congr' fun hk=>(sndT_iff h hs hg hp hrr hr hv hk).symm
 have honce:once (zah p r).1.asks=true↔((zah p r).1.asks.map AskR.pnt).Nodup:=znz fun a ha=>by have:=zbi h hrr ha;omega
 generalize hX:zbw p r=X
 have hiff:X=true↔((zah p r).1.asks.map AskR.pnt).Nodup∧∀ k,k<r.path.length→sndT p r v.2 k=false:=by
  rw[←hX]
  unfold zbw
  rw[Bool.and_eq_true,hcl,honce]
 have bad:¬(((zah p r).1.asks.map AskR.pnt).Nodup∧∀ k,k<r.path.length→sndT p r v.2 k=false)→false=X:=fun h=>by
  cases X with
  |false=>rfl
  |true=>exact absurd (hiff.1 rfl) h
 have hnd:((zah p r).1.asks.map AskR.pnt).Nodup↔∀ i,i<(zah p r).1.asks.length→∀ m,m<i→¬(nth (zah p r).1.asks m).pnt=(nth (zah p r).1.asks i).pnt:=by
  rw[List.nodup_iff_pairwise_ne,List.pairwise_map,zfL]
 unfold sndF
 generalize (zah p r).1.asks=asks at *
 refine zaU (·=X) (fun i _=>∀ j,j<i→∀ m,m<j→¬(nth asks m).pnt=(nth asks j).pnt) (fun j hj=>by omega) ?_ ?_
 ·intro i _ za0 hi hI hn
  refine zaU (·=X) (fun m _=>∀ j,j<m→¬(nth asks j).pnt=(nth asks i).pnt) (fun j hj=>by omega) ?_ ?_
  ·intro m _ next2 hm hM hn2
   by_cases e:(nth asks m).pnt=(nth asks i).pnt
   ·rw[decide_eq_true e,cond_true]
    exact bad fun h=>hnd.1 h.1 i hi m hm e
   ·rw[decide_eq_false e,cond_false]
    refine hn2 () fun j hj=>?_
    rcases Nat.lt_or_ge j m with h1|h1
    ·exact hM j h1
    ·obtain rfl:j=m:=by omega
     exact e
  ·intro _ hM
   refine hn () fun j hj=>?_
   rcases Nat.lt_or_ge j i with h1|h1
   ·exact hI j h1
   ·obtain rfl:j=i:=by omega
    exact hM
 ·intro _ hI
  refine zaU (·=X) (fun i _=>∀ j,j<i→sndT p r v.2 j=false) (fun j hj=>by omega) ?_ ?_
  ·intro i _ za0 hi hJ hn
   cases h7:sndT p r v.2 i with
   |true =>
    rw[cond_true]
    exact bad fun h=>by have:=h.2 i hi;rw[h7]at this;cases this
   |false =>
    rw[cond_false]
    refine hn () fun j hj=>?_
    rcases Nat.lt_or_ge j i with h1|h1
    ·exact hJ j h1
    ·obtain rfl:j=i:=by omega
     exact h7
  ·intro _ hJ
   exact (hiff.2 ⟨hnd.2 hI,hJ⟩).symm
end
end Go.Lev
namespace Go.Lev
open Go.Eng
set_option maxRecDepth 10000
set_option maxHeartbeats 4000000
variable {P:Program} {inv:Nat→Option Nat} {w0:World} {M:Nat→Prop}
theorem zot (hH:HasAll P inv) (p:Pln) (hp:Sm p) (h:zbU p.sections=true):PC P inv 305 [.agg p.c] (·=.b (points p)):=by
 have hl1:=hp.sec
 have hl2:=hp.pts
 obtain ⟨X,hF⟩:∃ X,rpF p=X:=⟨_,rfl⟩
 rw[←rpF_eq h,hF]
 have cA:=fun i=>zlS hH p.sections (nth p.points i).sec (by omega)
 have hb:=fun i=>zkz (nth p.points i).sec p.sections 0
 clear h
 unfold rpF at hF
 refine PC.fn hH cd305 fun w0 M Q hM hE hQ hR=>?_;dsimp only[cd305,qm,ql,qf,qi,qb,qc,qp,qv,qN,qT,qF,qt]at hQ ⊢
 skip
 (repeat' first|refine zaa [0,1,2,3,4,5,6,7,12,21,28,79] fun K hK=>?_|(refine hK.go ?_;clear hK K)|with_reducible exact wT|refine wA ?_|(refine wE (fun h0 h=>?_) (fun h0 h=>?_)<;>first|exact wN h|((try replace hF:=wX hF);clear h0;first|exact hF.elim|((try subst (h:(_:Bool)=_));try replace hF:=wX hF)))|(refine wQ ?_;clear hQ hR hE hM)|fail)
 refine zaJ hF fun Bd Ed hBd hEd hF=>?_
 refine zai (ι:=Nat×Int) [1,2,3,4] (fun z=>[(3,.n z.2),(4,.n z.1)]) (fun _=>[]) (fun z=>z.1) (p.sections.length) (fun z=>(zaB Bd Ed (p.sections.length-z.1) z.1 z.2=X)∧(0≤z.2∧z.2≤z.1)) (0,0) ?_;rintro ⟨i,m⟩ ⟨hk,hF,hm⟩;(try dsimp only at hk hF hm ⊢);rcases Nat.lt_or_ge i p.sections.length with hlt|hge
 ·rw[zar hBd hlt]at hF;(try dsimp only at hF)
  (repeat' first|refine zaa [0,1,2,3,4,5,6,7,12,21,28,79] fun K hK=>?_|(refine hK.go ?_;clear hK K)|with_reducible exact wT|refine wA ?_|(refine wE (fun h0 h=>?_) (fun h0 h=>?_)<;>first|exact wN h|((try replace hF:=wX hF);clear h0;first|exact hF.elim|((try subst (h:(_:Bool)=_));try replace hF:=wX hF)))|(refine wQ ?_;clear hQ hR hE hM)|fail)
  all_goals first|(exact nY (i+1,m+1) ⟨by (try dsimp only);omega,hF,by (try dsimp only);omega⟩;done)|(exact nY (i+1,m) ⟨by (try dsimp only);omega,hF,by (try dsimp only);omega⟩;done)|trace_state
 ·rw[zaI hge,hEd]at hF;(try dsimp only at hF)
  (repeat' first|refine zaa [0,1,2,3,4,5,6,7,12,21,28,79] fun K hK=>?_|(refine hK.go ?_;clear hK K)|with_reducible exact wT|refine wA ?_|(refine wE (fun h0 h=>?_) (fun h0 h=>?_)<;>first|exact wN h|((try replace hF:=wX hF);clear h0;first|exact hF.elim|((try subst (h:(_:Bool)=_));try replace hF:=wX hF)))|(refine wQ ?_;clear hQ hR hE hM)|fail)
  refine zaJ hF fun Bd Ed hBd hEd hF=>?_;refine zai (ι:=Nat) [1,2,3,5] (fun z=>[(5,.n z)]) (fun _=>[]) (fun z=>z) (p.points.length) (fun z=>(zaB Bd Ed (p.points.length-z) z ()=X)) (0) ?_;rintro k ⟨hk,hF⟩;(try dsimp only at hk hF ⊢);rcases Nat.lt_or_ge k p.points.length with hlt|hge
  ·rw[zar hBd hlt]at hF;(try dsimp only at hF)
   have c1:=cA k
   have hb1:=hb k
   generalize zdE (nth p.points k).sec 0 p.sections=a at *
   have hk1:((k:Int)-1).toNat=k-1:=by omega
   (have hX:=@hk1;(repeat' first|refine zaa [0,1,2,3,4,5,6,7,12,21,28,79] fun K hK=>?_|(refine hK.go ?_;clear hK K)|with_reducible exact wT|refine wA ?_|(refine wE (fun h0 h=>?_) (fun h0 h=>?_)<;>first|exact wN h|((try replace hF:=wX hF);clear h0;first|exact hF.elim|((try subst (h:(_:Bool)=_));try replace hF:=wX hF)))|(refine wQ ?_;clear hQ hR hE hM)|refine wC c1 ?_|fail);all_goals clear hX)
   all_goals first|exact hF|(exfalso;contradiction)|exact nX (k+1)
  ·rw[zaI hge,hEd]at hF;(try dsimp only at hF)
   (repeat' first|refine zaa [0,1,2,3,4,5,6,7,12,21,28,79] fun K hK=>?_|(refine hK.go ?_;clear hK K)|with_reducible exact wT|refine wA ?_|(refine wE (fun h0 h=>?_) (fun h0 h=>?_)<;>first|exact wN h|((try replace hF:=wX hF);clear h0;first|exact hF.elim|((try subst (h:(_:Bool)=_));try replace hF:=wX hF)))|(refine wQ ?_;clear hQ hR hE hM)|fail)
   all_goals first|exact hF|(exact congrArg AV.b hF)|(rw[←hF];done)|trace_state
theorem zmd (hH:HasAll P inv) (p:Pln) (hp:Sm p) (h:zbU p.sections=true):PC P inv 306 [.agg p.c] (·=.b (signals p (ends p.sections))):=by
 have hl1:=hp.sec
 have hl2:=hp.sgn
 have hE3:∀ a:Nat,(nth p.sections a).ends.length≤1000000:=fun a=>by
  rcases Nat.lt_or_ge a p.sections.length with h1|h1
  ·have:=(zbd h _ (zab h1)).2.2.2.2
   omega
  ·have:nth p.sections a=default:=by unfold nth;first|rw[getElem!_neg _ _ (by omega)]|simp[h1]|simp[List.getElem?_eq_none h1]
   rw[this]
   decide
 obtain ⟨X,hF⟩:∃ X,rsF p=X:=⟨_,rfl⟩
 rw[←rsF_eq h,hF]
 have cA:=fun i=>zlS hH p.sections (nth p.signals i).sec (by omega)
 have hb:=fun i=>zkz (nth p.signals i).sec p.sections 0
 clear h
 unfold rsF zok at hF
 refine PC.fn hH cd306 fun w0 M Q hM hE hQ hR=>?_;dsimp only[cd306,qm,ql,qf,qi,qb,qc,qp,qv,qN,qT,qF,qt]at hQ ⊢
 skip
 (repeat' first|refine zaa [0,1,2,3,4,5,6,7,12,53,56,82] fun K hK=>?_|(refine hK.go ?_;clear hK K)|with_reducible exact wT|refine wA ?_|(refine wE (fun h0 h=>?_) (fun h0 h=>?_)<;>first|exact wN h|((try replace hF:=wX hF);clear h0;first|exact hF.elim|((try subst (h:(_:Bool)=_));try replace hF:=wX hF)))|(refine wQ ?_;clear hQ hR hE hM)|fail)
 refine zaJ hF fun Bd Ed hBd hEd hF=>?_;refine zai (ι:=Nat) [1,2,3] (fun z=>[(3,.n z)]) (fun _=>[]) (fun z=>z) (p.signals.length) (fun z=>(zaB Bd Ed (p.signals.length-z) z ()=X)) (0) ?_;rintro i ⟨hk,hF⟩;(try dsimp only at hk hF ⊢);rcases Nat.lt_or_ge i p.signals.length with hlt|hge
 ·rw[zar hBd hlt]at hF;(try dsimp only at hF)
  have c1:=cA i
  have hb1:=hb i
  generalize zdE (nth p.signals i).sec 0 p.sections=a at *
  have h3:=hE3 a.toNat
  (repeat' first|refine zaa [0,1,2,3,4,5,6,7,12,53,56,82] fun K hK=>?_|(refine hK.go ?_;clear hK K)|with_reducible exact wT|refine wA ?_|(refine wE (fun h0 h=>?_) (fun h0 h=>?_)<;>first|exact wN h|((try replace hF:=wX hF);clear h0;first|exact hF.elim|((try subst (h:(_:Bool)=_));try replace hF:=wX hF)))|(refine wQ ?_;clear hQ hR hE hM)|refine wC c1 ?_|fail)
  all_goals first|exact hF|(exfalso;contradiction)|skip
  refine zaJ hF fun Bd Ed hBd hEd hF=>?_;refine zai (ι:=Nat) [1,2,3,4,6] (fun z=>[(6,.n z)]) (fun _=>[]) (fun z=>z) (i) (fun z=>(zaB Bd Ed (i-z) z ()=X)) (0) ?_;rintro m ⟨hk,hF⟩;(try dsimp only at hk hF ⊢);rcases Nat.lt_or_ge m i with hlt|hge
  ·rw[zar hBd hlt]at hF;(try dsimp only at hF)
   (repeat' first|refine zaa [0,1,2,3,4,5,6,7,12,53,56,82] fun K hK=>?_|(refine hK.go ?_;clear hK K)|with_reducible exact wT|refine wA ?_|(refine wE (fun h0 h=>?_) (fun h0 h=>?_)<;>first|exact wN h|((try replace hF:=wX hF);clear h0;first|exact hF.elim|((try subst (h:(_:Bool)=_));try replace hF:=wX hF)))|(refine wQ ?_;clear hQ hR hE hM)|fail)
   all_goals first|exact hF|(exfalso;contradiction)|exact nX (m+1)
  ·rw[zaI hge,hEd]at hF;(try dsimp only at hF)
   (repeat' first|refine zaa [0,1,2,3,4,5,6,7,12,53,56,82] fun K hK=>?_|(refine hK.go ?_;clear hK K)|with_reducible exact wT|refine wA ?_|(refine wE (fun h0 h=>?_) (fun h0 h=>?_)<;>first|exact wN h|((try replace hF:=wX hF);clear h0;first|exact hF.elim|((try subst (h:(_:Bool)=_));try replace hF:=wX hF)))|(refine wQ ?_;clear hQ hR hE hM)|fail)
   all_goals exact nX (i+1)
 ·rw[zaI hge,hEd]at hF;(try dsimp only at hF)
  (repeat' first|refine zaa [0,1,2,3,4,5,6,7,12,53,56,82] fun K hK=>?_|(refine hK.go ?_;clear hK K)|with_reducible exact wT|refine wA ?_|(refine wE (fun h0 h=>?_) (fun h0 h=>?_)<;>first|exact wN h|((try replace hF:=wX hF);clear h0;first|exact hF.elim|((try subst (h:(_:Bool)=_));try replace hF:=wX hF)))|(refine wQ ?_;clear hQ hR hE hM)|fail)
  all_goals first|exact hF|(exact congrArg AV.b hF)|(rw[←hF];done)|trace_state
end Go.Lev
