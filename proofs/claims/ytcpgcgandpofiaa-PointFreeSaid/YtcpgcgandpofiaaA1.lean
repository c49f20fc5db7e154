/-
  A part of the engine that walks the functions' codes, and of the functions' contracts. Conditions: those that each theorem names.
-/
import Derived.Test.YtcpgcgandpofiaaL8
import Derived.IntWalk
set_option linter.unusedSimpArgs false
set_option linter.unusedVariables false
set_option linter.unusedSectionVars false
namespace Go.Lev
open Go.Eng
set_option maxRecDepth 10000
set_option maxHeartbeats 4000000
variable {P:Program} {inv:Nat→Option Nat}
theorem zkm (a b:Track):a=b↔a.id=b.id∧a.is=b.is:=by cases a;cases b;simp
theorem zi8 (a b:Switch):a=b↔a.id=b.id∧a.lie=b.lie∧a.call=b.call:=by cases a;cases b;simp
theorem zli (a b:Lock):a=b↔a.id=b.id∧a.phase=b.phase∧a.gone=b.gone∧a.left=b.left:=by cases a;cases b;simp
theorem zkn (a b:State):a=b↔a.tracks=b.tracks∧a.switches=b.switches∧a.locks=b.locks:=by cases a;cases b;simp
theorem ziY (hH:HasAll P inv) (a b:List Track) (hl:a.length≤1000000000):PC P inv 34 [.sl 2 (a.map Track.c),.sl 2 (b.map Track.c)] (·=.b (decide (a=b))):=by
 refine zae (F:=cd34) (hH.has _ _ rfl) (Nat.le_of_ble_eq_true rfl) fun w0 M Q hM hQ hR=>?_;have hE:=hH.callable;dsimp only[cd34,qm,ql,qf,qi,qb,qc,qp,qv,qN,qT,qF,qt]at hQ ⊢
 repeat' (first|refine zaa [0,1,4,5,10,12,13,14,24] fun K hK=>?_|refine AWp.block ?_|(refine hK.go ?_;clear hK K)|refine Cont.go (by assumption) ?_|(refine cnd2 rfl (fun h=>?_) (fun h=>?_)<;>(try first|exact h.elim|obtain rfl:(_:Bool)=true:=h|obtain rfl:(_:Bool)=false:=h)<;>first|(exfalso;omega)|skip)|((first|refine AWp.reg hE hM ?_|refine AWp.regd hE hM ?_|refine AWp.ret ?_|refine AWp.skip ?_|refine AWp.exit ?_|(refine pk2 (fun h=>?_) (fun h=>?_)<;>(try first|exact h.elim|obtain rfl:(_:Bool)=true:=h|obtain rfl:(_:Bool)=false:=h))|refine zab (fun h=>?_) ?_|(refine hQ _ _ _ rfl ?_;clear hQ hR hE hM)|(refine hR _ _ (hQ _ _ _ rfl ?_);clear hQ hR hE hM)|(refine zaf ?_ ?_;focus first|omega|(refine zad ?_;(refine no_implicit_lambda% (st ?_);try with_reducible exact True.intro);done)))<;>try (refine no_implicit_lambda% (st ?_);try with_reducible exact True.intro)))
 ·have:¬a=b:=fun e=>h (by rw[e])
  simp[this]
 have hab:a.length=b.length:=by omega
 refine zaW (fun k:Nat=>[(0,.sl 2 (a.map Track.c)),(1,.sl 2 (b.map Track.c)),(12,.n a.length),(13,.n k)]) (fun k:Nat=>[]) (fun k:Nat=>k≤a.length∧((a.drop k=b.drop k)↔a=b)) (fun k=>a.length-k) 0 ⟨Nat.zero_le _,by first|rfl|simp⟩ (by (try dsimp only);(refine no_implicit_lambda% (st ?_);try with_reducible exact True.intro)<;>omega) (by (try dsimp only);(refine no_implicit_lambda% (st ?_);try with_reducible exact True.intro)<;>omega) ?_;rintro k ⟨hk,hg⟩;rcases Nat.lt_or_ge k a.length with hlt|hge
 ·rw[zap hlt,zap (l:=b) (i:=k) (by omega),List.cons.injEq,zkm]at hg
  repeat' (first|refine zaa [0,1,4,5,10,12,13,14,24] fun K hK=>?_|refine AWp.block ?_|(refine hK.go ?_;clear hK K)|refine Cont.go (by assumption) ?_|(refine cnd2 rfl (fun h=>?_) (fun h=>?_)<;>(try first|exact h.elim|obtain rfl:(_:Bool)=true:=h|obtain rfl:(_:Bool)=false:=h)<;>first|(exfalso;omega)|skip)|((first|refine AWp.reg hE hM ?_|refine AWp.regd hE hM ?_|refine AWp.ret ?_|refine AWp.skip ?_|refine AWp.exit ?_|(refine pk2 (fun h=>?_) (fun h=>?_)<;>(try first|exact h.elim|obtain rfl:(_:Bool)=true:=h|obtain rfl:(_:Bool)=false:=h))|refine zab (fun h=>?_) ?_|(refine hQ _ _ _ rfl ?_;clear hQ hR hE hM)|(refine hR _ _ (hQ _ _ _ rfl ?_);clear hQ hR hE hM)|(refine zaf ?_ ?_;focus first|omega|(refine zad ?_;(refine no_implicit_lambda% (st ?_);try with_reducible exact True.intro);done)))<;>try (refine no_implicit_lambda% (st ?_);try with_reducible exact True.intro)))
  ·have:¬a=b:=by rw[←hg];grind
   simp[this]
  ·exact ⟨k+1,by omega,⟨by omega,by rw[←hg];grind⟩,(by (try dsimp only);(first|omega|(simp;done)|(simp;omega)))⟩
 ·rw[List.drop_eq_nil_of_le hge,List.drop_eq_nil_of_le (by omega)]at hg
  repeat' (first|refine zaa [0,1,4,5,10,12,13,14,24] fun K hK=>?_|refine AWp.block ?_|(refine hK.go ?_;clear hK K)|refine Cont.go (by assumption) ?_|(refine cnd2 rfl (fun h=>?_) (fun h=>?_)<;>(try first|exact h.elim|obtain rfl:(_:Bool)=true:=h|obtain rfl:(_:Bool)=false:=h)<;>first|(exfalso;omega)|skip)|((first|refine AWp.reg hE hM ?_|refine AWp.regd hE hM ?_|refine AWp.ret ?_|refine AWp.skip ?_|refine AWp.exit ?_|(refine pk2 (fun h=>?_) (fun h=>?_)<;>(try first|exact h.elim|obtain rfl:(_:Bool)=true:=h|obtain rfl:(_:Bool)=false:=h))|refine zab (fun h=>?_) ?_|(refine hQ _ _ _ rfl ?_;clear hQ hR hE hM)|(refine hR _ _ (hQ _ _ _ rfl ?_);clear hQ hR hE hM)|(refine zaf ?_ ?_;focus first|omega|(refine zad ?_;(refine no_implicit_lambda% (st ?_);try with_reducible exact True.intro);done)))<;>try (refine no_implicit_lambda% (st ?_);try with_reducible exact True.intro)))
  simp[←hg]
theorem zhN (hH:HasAll P inv) (a b:List Switch) (hl:a.length≤1000000000):PC P inv 35 [.sl 3 (a.map Switch.c),.sl 3 (b.map Switch.c)] (·=.b (decide (a=b))):=by
 refine zae (F:=cd35) (hH.has _ _ rfl) (Nat.le_of_ble_eq_true rfl) fun w0 M Q hM hQ hR=>?_;have hE:=hH.callable;dsimp only[cd35,qm,ql,qf,qi,qb,qc,qp,qv,qN,qT,qF,qt]at hQ ⊢
 repeat' (first|refine zaa [0,1,4,5,10,12,13,14,24] fun K hK=>?_|refine AWp.block ?_|(refine hK.go ?_;clear hK K)|refine Cont.go (by assumption) ?_|(refine cnd2 rfl (fun h=>?_) (fun h=>?_)<;>(try first|exact h.elim|obtain rfl:(_:Bool)=true:=h|obtain rfl:(_:Bool)=false:=h)<;>first|(exfalso;omega)|skip)|((first|refine AWp.reg hE hM ?_|refine AWp.regd hE hM ?_|refine AWp.ret ?_|refine AWp.skip ?_|refine AWp.exit ?_|(refine pk2 (fun h=>?_) (fun h=>?_)<;>(try first|exact h.elim|obtain rfl:(_:Bool)=true:=h|obtain rfl:(_:Bool)=false:=h))|refine zab (fun h=>?_) ?_|(refine hQ _ _ _ rfl ?_;clear hQ hR hE hM)|(refine hR _ _ (hQ _ _ _ rfl ?_);clear hQ hR hE hM)|(refine zaf ?_ ?_;focus first|omega|(refine zad ?_;(refine no_implicit_lambda% (st ?_);try with_reducible exact True.intro);done)))<;>try (refine no_implicit_lambda% (st ?_);try with_reducible exact True.intro)))
 ·have:¬a=b:=fun e=>h (by rw[e])
  simp[this]
 have hab:a.length=b.length:=by omega
 refine zaW (fun k:Nat=>[(0,.sl 3 (a.map Switch.c)),(1,.sl 3 (b.map Switch.c)),(12,.n a.length),(13,.n k)]) (fun k:Nat=>[]) (fun k:Nat=>k≤a.length∧((a.drop k=b.drop k)↔a=b)) (fun k=>a.length-k) 0 ⟨Nat.zero_le _,by first|rfl|simp⟩ (by (try dsimp only);(refine no_implicit_lambda% (st ?_);try with_reducible exact True.intro)<;>omega) (by (try dsimp only);(refine no_implicit_lambda% (st ?_);try with_reducible exact True.intro)<;>omega) ?_;rintro k ⟨hk,hg⟩;rcases Nat.lt_or_ge k a.length with hlt|hge
 ·rw[zap hlt,zap (l:=b) (i:=k) (by omega),List.cons.injEq,zi8]at hg
  repeat' (first|refine zaa [0,1,4,5,10,12,13,14,24] fun K hK=>?_|refine AWp.block ?_|(refine hK.go ?_;clear hK K)|refine Cont.go (by assumption) ?_|(refine cnd2 rfl (fun h=>?_) (fun h=>?_)<;>(try first|exact h.elim|obtain rfl:(_:Bool)=true:=h|obtain rfl:(_:Bool)=false:=h)<;>first|(exfalso;omega)|skip)|((first|refine AWp.reg hE hM ?_|refine AWp.regd hE hM ?_|refine AWp.ret ?_|refine AWp.skip ?_|refine AWp.exit ?_|(refine pk2 (fun h=>?_) (fun h=>?_)<;>(try first|exact h.elim|obtain rfl:(_:Bool)=true:=h|obtain rfl:(_:Bool)=false:=h))|refine zab (fun h=>?_) ?_|(refine hQ _ _ _ rfl ?_;clear hQ hR hE hM)|(refine hR _ _ (hQ _ _ _ rfl ?_);clear hQ hR hE hM)|(refine zaf ?_ ?_;focus first|omega|(refine zad ?_;(refine no_implicit_lambda% (st ?_);try with_reducible exact True.intro);done)))<;>try (refine no_implicit_lambda% (st ?_);try with_reducible exact True.intro)))
  ·have:¬a=b:=by rw[←hg];grind
   simp[this]
  ·exact ⟨k+1,by omega,⟨by omega,by rw[←hg];grind⟩,(by (try dsimp only);(first|omega|(simp;done)|(simp;omega)))⟩
 ·rw[List.drop_eq_nil_of_le hge,List.drop_eq_nil_of_le (by omega)]at hg
  repeat' (first|refine zaa [0,1,4,5,10,12,13,14,24] fun K hK=>?_|refine AWp.block ?_|(refine hK.go ?_;clear hK K)|refine Cont.go (by assumption) ?_|(refine cnd2 rfl (fun h=>?_) (fun h=>?_)<;>(try first|exact h.elim|obtain rfl:(_:Bool)=true:=h|obtain rfl:(_:Bool)=false:=h)<;>first|(exfalso;omega)|skip)|((first|refine AWp.reg hE hM ?_|refine AWp.regd hE hM ?_|refine AWp.ret ?_|refine AWp.skip ?_|refine AWp.exit ?_|(refine pk2 (fun h=>?_) (fun h=>?_)<;>(try first|exact h.elim|obtain rfl:(_:Bool)=true:=h|obtain rfl:(_:Bool)=false:=h))|refine zab (fun h=>?_) ?_|(refine hQ _ _ _ rfl ?_;clear hQ hR hE hM)|(refine hR _ _ (hQ _ _ _ rfl ?_);clear hQ hR hE hM)|(refine zaf ?_ ?_;focus first|omega|(refine zad ?_;(refine no_implicit_lambda% (st ?_);try with_reducible exact True.intro);done)))<;>try (refine no_implicit_lambda% (st ?_);try with_reducible exact True.intro)))
  simp[←hg]
theorem zjZ (hH:HasAll P inv) (a b:List Lock) (hl:a.length≤1000000000):PC P inv 36 [.sl 4 (a.map Lock.c),.sl 4 (b.map Lock.c)] (·=.b (decide (a=b))):=by
 refine zae (F:=cd36) (hH.has _ _ rfl) (Nat.le_of_ble_eq_true rfl) fun w0 M Q hM hQ hR=>?_;have hE:=hH.callable;dsimp only[cd36,qm,ql,qf,qi,qb,qc,qp,qv,qN,qT,qF,qt]at hQ ⊢
 repeat' (first|refine zaa [0,1,4,5,10,12,13,14,24] fun K hK=>?_|refine AWp.block ?_|(refine hK.go ?_;clear hK K)|refine Cont.go (by assumption) ?_|(refine cnd2 rfl (fun h=>?_) (fun h=>?_)<;>(try first|exact h.elim|obtain rfl:(_:Bool)=true:=h|obtain rfl:(_:Bool)=false:=h)<;>first|(exfalso;omega)|skip)|((first|refine AWp.reg hE hM ?_|refine AWp.regd hE hM ?_|refine AWp.ret ?_|refine AWp.skip ?_|refine AWp.exit ?_|(refine pk2 (fun h=>?_) (fun h=>?_)<;>(try first|exact h.elim|obtain rfl:(_:Bool)=true:=h|obtain rfl:(_:Bool)=false:=h))|refine zab (fun h=>?_) ?_|(refine hQ _ _ _ rfl ?_;clear hQ hR hE hM)|(refine hR _ _ (hQ _ _ _ rfl ?_);clear hQ hR hE hM)|(refine zaf ?_ ?_;focus first|omega|(refine zad ?_;(refine no_implicit_lambda% (st ?_);try with_reducible exact True.intro);done)))<;>try (refine no_implicit_lambda% (st ?_);try with_reducible exact True.intro)))
 ·have:¬a=b:=fun e=>h (by rw[e])
  simp[this]
 have hab:a.length=b.length:=by omega
 refine zaW (fun k:Nat=>[(0,.sl 4 (a.map Lock.c)),(1,.sl 4 (b.map Lock.c)),(12,.n a.length),(13,.n k)]) (fun k:Nat=>[]) (fun k:Nat=>k≤a.length∧((a.drop k=b.drop k)↔a=b)) (fun k=>a.length-k) 0 ⟨Nat.zero_le _,by first|rfl|simp⟩ (by (try dsimp only);(refine no_implicit_lambda% (st ?_);try with_reducible exact True.intro)<;>omega) (by (try dsimp only);(refine no_implicit_lambda% (st ?_);try with_reducible exact True.intro)<;>omega) ?_;rintro k ⟨hk,hg⟩;rcases Nat.lt_or_ge k a.length with hlt|hge
 ·rw[zap hlt,zap (l:=b) (i:=k) (by omega),List.cons.injEq,zli]at hg
  repeat' (first|refine zaa [0,1,4,5,10,12,13,14,24] fun K hK=>?_|refine AWp.block ?_|(refine hK.go ?_;clear hK K)|refine Cont.go (by assumption) ?_|(refine cnd2 rfl (fun h=>?_) (fun h=>?_)<;>(try first|exact h.elim|obtain rfl:(_:Bool)=true:=h|obtain rfl:(_:Bool)=false:=h)<;>first|(exfalso;omega)|skip)|((first|refine AWp.reg hE hM ?_|refine AWp.regd hE hM ?_|refine AWp.ret ?_|refine AWp.skip ?_|refine AWp.exit ?_|(refine pk2 (fun h=>?_) (fun h=>?_)<;>(try first|exact h.elim|obtain rfl:(_:Bool)=true:=h|obtain rfl:(_:Bool)=false:=h))|refine zab (fun h=>?_) ?_|(refine hQ _ _ _ rfl ?_;clear hQ hR hE hM)|(refine hR _ _ (hQ _ _ _ rfl ?_);clear hQ hR hE hM)|(refine zaf ?_ ?_;focus first|omega|(refine zad ?_;(refine no_implicit_lambda% (st ?_);try with_reducible exact True.intro);done)))<;>try (refine no_implicit_lambda% (st ?_);try with_reducible exact True.intro)))
  ·have:¬a=b:=by rw[←hg];grind
   simp[this]
  ·exact ⟨k+1,by omega,⟨by omega,by rw[←hg];grind⟩,(by (try dsimp only);(first|omega|(simp;done)|(simp;omega)))⟩
 ·rw[List.drop_eq_nil_of_le hge,List.drop_eq_nil_of_le (by omega)]at hg
  repeat' (first|refine zaa [0,1,4,5,10,12,13,14,24] fun K hK=>?_|refine AWp.block ?_|(refine hK.go ?_;clear hK K)|refine Cont.go (by assumption) ?_|(refine cnd2 rfl (fun h=>?_) (fun h=>?_)<;>(try first|exact h.elim|obtain rfl:(_:Bool)=true:=h|obtain rfl:(_:Bool)=false:=h)<;>first|(exfalso;omega)|skip)|((first|refine AWp.reg hE hM ?_|refine AWp.regd hE hM ?_|refine AWp.ret ?_|refine AWp.skip ?_|refine AWp.exit ?_|(refine pk2 (fun h=>?_) (fun h=>?_)<;>(try first|exact h.elim|obtain rfl:(_:Bool)=true:=h|obtain rfl:(_:Bool)=false:=h))|refine zab (fun h=>?_) ?_|(refine hQ _ _ _ rfl ?_;clear hQ hR hE hM)|(refine hR _ _ (hQ _ _ _ rfl ?_);clear hQ hR hE hM)|(refine zaf ?_ ?_;focus first|omega|(refine zad ?_;(refine no_implicit_lambda% (st ?_);try with_reducible exact True.intro);done)))<;>try (refine no_implicit_lambda% (st ?_);try with_reducible exact True.intro)))
  simp[←hg]
end Go.Lev
namespace Go.Lev
open Go.Eng
set_option maxRecDepth 10000
set_option maxHeartbeats 4000000
variable {P:Program} {inv:Nat→Option Nat}
theorem zkX (hH:HasAll P inv) {jc:Nat} {caps:List AV} {p:Track→Bool} (l:List Track) (hc:∀ x∈l,PC P inv jc ([.agg x.c]++caps) (·=.b (p x))) (hl:l.length≤1000000000):PC P inv 96 [.sl 2 (l.map Track.c),.fn jc caps] (·=.n (zcc p 0 l)):=by
 refine zae (F:=cd96) (hH.has _ _ rfl) (Nat.le_of_ble_eq_true rfl) fun w0 M Q hM hQ hR=>?_;have hE:=hH.callable;dsimp only[cd96,qm,ql,qf,qi,qb,qc,qp,qv,qN,qT,qF,qt]at hQ ⊢
 repeat' (first|refine zaa [0,1,4,5,7,8,9,16] fun K hK=>?_|refine AWp.block ?_|(refine hK.go ?_;clear hK K)|refine Cont.go (by assumption) ?_|(refine cnd2 rfl (fun h=>?_) (fun h=>?_)<;>(try first|exact h.elim|obtain rfl:(_:Bool)=true:=h|obtain rfl:(_:Bool)=false:=h)<;>first|(exfalso;omega)|skip)|((first|refine AWp.reg hE hM ?_|refine AWp.regd hE hM ?_|refine AWp.ret ?_|refine AWp.skip ?_|refine AWp.exit ?_|(refine pk2 (fun h=>?_) (fun h=>?_)<;>(try first|exact h.elim|obtain rfl:(_:Bool)=true:=h|obtain rfl:(_:Bool)=false:=h))|refine zab (fun h=>?_) ?_|(refine hQ _ _ _ rfl ?_;clear hQ hR hE hM)|(refine hR _ _ (hQ _ _ _ rfl ?_);clear hQ hR hE hM)|(refine zaf ?_ ?_;focus first|omega|(refine zad ?_;(refine no_implicit_lambda% (st ?_);try with_reducible exact True.intro);done)))<;>try (refine no_implicit_lambda% (st ?_);try with_reducible exact True.intro)))
 refine zaW (fun k:Nat=>[(0,.sl 2 (l.map Track.c)),(1,.fn jc caps),(7,.n l.length),(8,.n k)]) (fun k:Nat=>[]) (fun k:Nat=>k≤l.length∧zcc p k (l.drop k)=zcc p 0 l) (fun k=>l.length-k) 0 ⟨Nat.zero_le _,by first|rfl|simp⟩ (by (try dsimp only);(refine no_implicit_lambda% (st ?_);try with_reducible exact True.intro)<;>omega) (by (try dsimp only);(refine no_implicit_lambda% (st ?_);try with_reducible exact True.intro)<;>omega) ?_;rintro k ⟨hk,hg⟩;rcases Nat.lt_or_ge k l.length with hlt|hge
 ·rw[zap hlt]at hg
  rw[zcc]at hg
  repeat' (first|refine zaa [0,1,4,5,7,8,9,16] fun K hK=>?_|refine AWp.block ?_|(refine hK.go ?_;clear hK K)|refine Cont.go (by assumption) ?_|(refine cnd2 rfl (fun h=>?_) (fun h=>?_)<;>(try first|exact h.elim|obtain rfl:(_:Bool)=true:=h|obtain rfl:(_:Bool)=false:=h)<;>first|(exfalso;omega)|skip)|((first|refine AWp.reg hE hM ?_|refine AWp.regd hE hM ?_|refine AWp.ret ?_|refine AWp.skip ?_|refine AWp.exit ?_|(refine pk2 (fun h=>?_) (fun h=>?_)<;>(try first|exact h.elim|obtain rfl:(_:Bool)=true:=h|obtain rfl:(_:Bool)=false:=h))|refine zab (fun h=>?_) ?_|refine zac hM (hc _ (zal hlt)) ?_|(refine hQ _ _ _ rfl ?_;clear hQ hR hE hM)|(refine hR _ _ (hQ _ _ _ rfl ?_);clear hQ hR hE hM)|(refine zaf ?_ ?_;focus first|omega|(refine zad ?_;(refine no_implicit_lambda% (st ?_);try with_reducible exact True.intro);done)))<;>try (refine no_implicit_lambda% (st ?_);try with_reducible exact True.intro)))
  ·rw[←hg,if_pos h]
  ·exact ⟨k+1,by omega,⟨by omega,by rw[←hg,if_neg (by rw[h];simp)];rfl⟩,(by (try dsimp only);(first|omega|(simp;done)|(simp;omega)))⟩
 ·rw[List.drop_eq_nil_of_le hge]at hg
  repeat' (first|refine zaa [0,1,4,5,7,8,9,16] fun K hK=>?_|refine AWp.block ?_|(refine hK.go ?_;clear hK K)|refine Cont.go (by assumption) ?_|(refine cnd2 rfl (fun h=>?_) (fun h=>?_)<;>(try first|exact h.elim|obtain rfl:(_:Bool)=true:=h|obtain rfl:(_:Bool)=false:=h)<;>first|(exfalso;omega)|skip)|((first|refine AWp.reg hE hM ?_|refine AWp.regd hE hM ?_|refine AWp.ret ?_|refine AWp.skip ?_|refine AWp.exit ?_|(refine pk2 (fun h=>?_) (fun h=>?_)<;>(try first|exact h.elim|obtain rfl:(_:Bool)=true:=h|obtain rfl:(_:Bool)=false:=h))|refine zab (fun h=>?_) ?_|(refine hQ _ _ _ rfl ?_;clear hQ hR hE hM)|(refine hR _ _ (hQ _ _ _ rfl ?_);clear hQ hR hE hM)|(refine zaf ?_ ?_;focus first|omega|(refine zad ?_;(refine no_implicit_lambda% (st ?_);try with_reducible exact True.intro);done)))<;>try (refine no_implicit_lambda% (st ?_);try with_reducible exact True.intro)))
  rw[←hg];rfl
end Go.Lev
namespace Go.Lev
open Go.Eng
set_option maxRecDepth 10000
set_option maxHeartbeats 4000000
variable {P:Program} {inv:Nat→Option Nat}
theorem sSame_pc (hH:HasAll P inv) (a b:State) (h1:a.tracks.length≤1000000) (h2:a.switches.length≤1000000) (h3:a.locks.length≤1000000):PC P inv 11 [.agg a.c,.agg b.c] (·=.b (decide (a=b))):=by
 refine zae (F:=cd11) (hH.has _ _ rfl) (Nat.le_of_ble_eq_true rfl) fun w0 M Q hM hQ hR=>?_;have hE:=hH.callable;dsimp only[cd11,qm,ql,qf,qi,qb,qc,qp,qv,qN,qT,qF,qt]at hQ ⊢
 repeat' (first|refine zaa [0,1,2,3,4] fun K hK=>?_|refine AWp.block ?_|(refine hK.go ?_;clear hK K)|refine Cont.go (by assumption) ?_|(refine cnd2 rfl (fun h=>?_) (fun h=>?_)<;>(try first|exact h.elim|obtain rfl:(_:Bool)=true:=h|obtain rfl:(_:Bool)=false:=h)<;>first|(exfalso;omega)|skip)|((first|refine AWp.reg hE hM ?_|refine AWp.regd hE hM ?_|refine AWp.ret ?_|refine AWp.skip ?_|refine AWp.exit ?_|(refine pk2 (fun h=>?_) (fun h=>?_)<;>(try first|exact h.elim|obtain rfl:(_:Bool)=true:=h|obtain rfl:(_:Bool)=false:=h))|refine zab (fun h=>?_) ?_|refine zac hM (ziY hH _ _ (by omega)) ?_|refine zac hM (zhN hH _ _ (by omega)) ?_|refine zac hM (zjZ hH _ _ (by omega)) ?_|(refine hQ _ _ _ rfl ?_;clear hQ hR hE hM)|(refine hR _ _ (hQ _ _ _ rfl ?_);clear hQ hR hE hM)|(refine zaf ?_ ?_;focus first|omega|(refine zad ?_;(refine no_implicit_lambda% (st ?_);try with_reducible exact True.intro);done)))<;>try (refine no_implicit_lambda% (st ?_);try with_reducible exact True.intro)))
 all_goals (grind[zkn])
end Go.Lev
namespace Go.Lev
open Go.Eng
set_option maxRecDepth 10000
set_option maxHeartbeats 4000000
variable {P:Program} {inv:Nat→Option Nat} {w0:World} {M:Nat→Prop}
theorem znl (s:State) (e:Int):zdD 4 (stR s) (.tup [stV s,.n e])=.tup [.agg s.c,.n e]:=by
 unfold stR stV
 (refine no_implicit_lambda% (st ?_);try with_reducible exact True.intro)
theorem sAt_pc (hH:HasAll P inv) (hI:HasIds P inv) (p:Pln) (hp:Sm p):PC P inv 65 [.agg p.c] (·=.tup [.agg (atR p).c,.n (zbt p)]):=by
 cases ho:zbm p with
 |true =>
  have:=(sAt_po hH hI p hp ho).pc
  rw[znl]at this
  unfold atR zbt
  rw[if_pos ho,if_pos ho]
  exact this
 |false =>
  have c0:=zdg hH hI p hp
  have e:zbt p=100:=by unfold zbt;rw[ho,if_neg (by simp)]
  rw[e]at c0 ⊢
  unfold atR
  rw[ho,if_neg (by simp)]
  refine zae (F:=cd65) (hH.has _ _ rfl) (Nat.le_of_ble_eq_true rfl) fun w0 M Q hM hQ hR=>?_;have hE:=hH.callable;dsimp only[cd65,qm,ql,qf,qi,qb,qc,qp,qv,qN,qT,qF,qt]at hQ ⊢
  repeat' (first|refine zaa [0,1,2,3,5,7,9,13,15,16,17,18,31,32,33,34,47,48,49,50] fun K hK=>?_|refine AWp.block ?_|(refine hK.go ?_;clear hK K)|refine Cont.go (by assumption) ?_|(refine cnd2 rfl (fun h=>?_) (fun h=>?_)<;>(try first|exact h.elim|obtain rfl:(_:Bool)=true:=h|obtain rfl:(_:Bool)=false:=h)<;>first|(exfalso;omega)|skip)|((first|refine AWp.reg hE hM ?_|refine AWp.regd hE hM ?_|refine AWp.ret ?_|refine AWp.skip ?_|refine AWp.exit ?_|(refine pk2 (fun h=>?_) (fun h=>?_)<;>(try first|exact h.elim|obtain rfl:(_:Bool)=true:=h|obtain rfl:(_:Bool)=false:=h))|refine zab (fun h=>?_) ?_|refine zac hM (c0) ?_|(refine hQ _ _ _ rfl ?_;clear hQ hR hE hM)|(refine hR _ _ (hQ _ _ _ rfl ?_);clear hQ hR hE hM)|(refine zaf ?_ ?_;focus first|omega|(refine zad ?_;(refine no_implicit_lambda% (st ?_);try with_reducible exact True.intro);done)))<;>try (refine no_implicit_lambda% (st ?_);try with_reducible exact True.intro)))
  all_goals first|rfl|(exfalso;contradiction)|skip
end Go.Lev
namespace Go.Lev
open Go.Eng
theorem zhS {α β:Type} {q:α→β→Bool}:∀ {a:List α} {b:List β},zaK q a b=true→∀ x∈a,∃ y∈b,q x y=true
 |[],_,_,x,h=>by cases h
 |x::xs,[],h,_,_=>by simp[zaK]at h
 |x::xs,y::ys,h,z,hz=>by
  simp only[zaK,Bool.and_eq_true]at h
  rcases List.mem_cons.1 hz with rfl|hz
  ·exact ⟨y,by simp,h.1⟩
  ·obtain ⟨w,hw,e⟩:=zhS h.2 z hz
   exact ⟨w,by simp[hw],e⟩
section
variable {p:Pln} {s:State} (h:zan p s=0)
include h
theorem ask_no {n:Int} (h0:0≤n) (hn:∀ z∈zof p s,∀ a∈asl z,a.pnt≠n):nth (zaw p s).2.1 n.toNat=0:=(ze9 h).2.2 _ fun z hz a ha e=>by
 have:=(zjc (zaj h).1 (zaj h).2.1).pnt z hz a (List.mem_filter.1 ha).1
 exact hn z hz a ha (by omega)
theorem zo2 {n:Int} (h0:0≤n):(∃ z∈zof p s,∃ a∈asl z,a.pnt=n∧nth (zaw p s).2.1 n.toNat=a.lie∧zcu s n=a.lie)∨((∀ z∈zof p s,∀ a∈asl z,a.pnt≠n)∧nth (zaw p s).2.1 n.toNat=0):=by
 rcases Classical.em (∃ z∈zof p s,∃ a∈asl z,a.pnt=n) with ⟨z,hz,a,ha,e⟩|h1
 ·exact .inl ⟨z,hz,a,ha,e,by rw[←e];exact zl4 h hz ha,by rw[←e];exact ((zdW p s).1 h).2.2.2 z hz a ha⟩
 ·exact .inr ⟨fun z hz a ha e=>h1 ⟨z,hz,a,ha,e⟩,ask_no h h0 fun z hz a ha e=>h1 ⟨z,hz,a,ha,e⟩⟩
end
end Go.Lev
namespace Go.Lev
open Go.Eng
set_option maxRecDepth 10000
set_option maxHeartbeats 4000000
variable {P:Program} {inv:Nat→Option Nat} {w0:World} {M:Nat→Prop}
theorem zoj (hH:HasAll P inv) (n:Int) (x:Track):PC P inv 86 ([.agg x.c]++[.ip 1 [[.n n]] 0 0]) (·=.b (decide (x.id=n))):=by
 refine zae (F:=cd86) (hH.has _ _ rfl) (Nat.le_of_ble_eq_true rfl) fun w0 M Q hM hQ hR=>?_;have hE:=hH.callable;dsimp only[cd86,qm,ql,qf,qi,qb,qc,qp,qv,qN,qT,qF,qt]at hQ ⊢
 repeat' (first|refine zaa [0,1,2,3] fun K hK=>?_|refine AWp.block ?_|(refine hK.go ?_;clear hK K)|refine Cont.go (by assumption) ?_|(refine cnd2 rfl (fun h=>?_) (fun h=>?_)<;>(try first|exact h.elim|obtain rfl:(_:Bool)=true:=h|obtain rfl:(_:Bool)=false:=h)<;>first|(exfalso;omega)|skip)|((first|refine AWp.reg hE hM ?_|refine AWp.regd hE hM ?_|refine AWp.ret ?_|refine AWp.skip ?_|refine AWp.exit ?_|(refine pk2 (fun h=>?_) (fun h=>?_)<;>(try first|exact h.elim|obtain rfl:(_:Bool)=true:=h|obtain rfl:(_:Bool)=false:=h))|refine zab (fun h=>?_) ?_|(refine hQ _ _ _ rfl ?_;clear hQ hR hE hM)|(refine hR _ _ (hQ _ _ _ rfl ?_);clear hQ hR hE hM)|(refine zaf ?_ ?_;focus first|omega|(refine zad ?_;(refine no_implicit_lambda% (st ?_);try with_reducible exact True.intro);done)))<;>try (refine no_implicit_lambda% (st ?_);try with_reducible exact True.intro)))
theorem sec_po (hH:HasAll P inv) (hI:HasIds P inv) (p:Pln) (hp:Sm p) (s:State) (hs:SmS s) (n v:Int) (he:zes p s n v=0):PO P inv 73 [.agg p.c,.agg s.c,.n n,.n v] (.tup [zmd 6 (setT s n v),.n 0]) (zkq 6 (setT s n v)):=by
 have hc:zan p s=0∧zoh s n∧(v=0∨v=1):=by
  unfold zes at he
  split at he
  ·rename_i h1
   split at he
   ·rename_i h2
    split at he
    ·rename_i h3;exact ⟨h1,h2,h3⟩
    ·cases he
   ·cases he
  ·rename_i h1;exact absurd he h1
 obtain ⟨hc,⟨t,ht,htn⟩,hv⟩:=hc
 have c0:=zb5 hH hI p hp s hs
 rw[hc]at c0
 have c1:=zeP hH s hs
 obtain ⟨h1,h2,h3⟩:=hs
 have c2:=zkX hH s.tracks (fun x _=>zoj hH n x) (by omega)
 have hno:(s.tracks.map Track.id).Nodup:=by rw[zil (zaj hc).2.1];exact zgy (zaA hc)
 rcases zbb Track.id n s.tracks with ⟨_,h4⟩|⟨k,hk,h4,h5⟩
 ·exact absurd htn (h4 t ht)
 ·rw[h4]at c2
  have e1:=zeG Track.id n (fun t=>(⟨t.id,v⟩:Track)) hno hk h5
  have e2:=zd7 (c:=Track.c) (l:=s.tracks) (k:=k) (i:=1) hk (by omega) (.i .u8 v) (⟨(nth s.tracks k).id,v⟩:Track) rfl
  rw[e1]at e2
  unfold stV stR at c1
  refine zbA (F:=cd73) (hH.has _ _ rfl) (Nat.le_of_ble_eq_true rfl) fun w0 M Q hM hQ hR=>?_;have hE:=hH.callable;dsimp only[cd73,qm,ql,qf,qi,qb,qc,qp,qv,qN,qT,qF,qt]at hQ ⊢
  skip
  repeat' (first|refine zaa [0,1,2,3,4,5,6,8,9,10,11,16,26,33] fun K hK=>?_|refine AWp.block ?_|(refine hK.go ?_;clear hK K)|refine Cont.go (by assumption) ?_|(refine cnd2 rfl (fun h=>?_) (fun h=>?_)<;>(try first|exact h.elim|obtain rfl:(_:Bool)=true:=h|obtain rfl:(_:Bool)=false:=h)<;>first|(exfalso;omega)|skip)|((first|refine AWp.reg hE hM ?_|refine AWp.regd hE hM ?_|refine AWp.ret ?_|refine AWp.skip ?_|refine AWp.exit ?_|(refine pk2 (fun h=>?_) (fun h=>?_)<;>(try first|exact h.elim|obtain rfl:(_:Bool)=true:=h|obtain rfl:(_:Bool)=false:=h))|refine zab (fun h=>?_) ?_|refine zac hM (c0) ?_|refine PO.callK hM ( c1) ?_|(refine AC.callK 30 (by omega) (by first|omega|(simp -dsimp -implicitDefEqProofs (disch:=omega) only[go_sem,reduceIte,↓reduceIte,Nat.reduceEqDiff,Nat.reduceLT,Nat.reduceLeDiff,Nat.reduceAdd,Nat.reduceSub,Nat.reduceMul,Int.reduceToNat,Int.reduceLT,Int.reduceLE,Int.reduceEq,Int.reduceNeg,Int.reduceNe,reduceCtorEq,e2];done)|(simp -dsimp -implicitDefEqProofs (disch:=omega) only[go_sem,reduceIte,↓reduceIte,Nat.reduceEqDiff,Nat.reduceLT,Nat.reduceLeDiff,Nat.reduceAdd,Nat.reduceSub,Nat.reduceMul,Int.reduceToNat,Int.reduceLT,Int.reduceLE,Int.reduceEq,Int.reduceNeg,Int.reduceNe,reduceCtorEq,e2];omega)) (zax (F:=cd85) (hH.has _ _ rfl) (Nat.le_of_ble_eq_true rfl) fun Q hQ hR=>?_);dsimp only[cd85,qm,ql,qf,qi,qb,qc,qp,qv,qN,qT,qF,qt]at hQ ⊢)|(refine zau hM 4 ( c2) ?_ rfl ?_;(focus (simp -dsimp -implicitDefEqProofs (disch:=omega) only[go_sem,reduceIte,↓reduceIte,Nat.reduceEqDiff,Nat.reduceLT,Nat.reduceLeDiff,Nat.reduceAdd,Nat.reduceSub,Nat.reduceMul,Int.reduceToNat,Int.reduceLT,Int.reduceLE,Int.reduceEq,Int.reduceNeg,Int.reduceNe,reduceCtorEq,e2]<;>fail)))|(refine hQ _ _ _ rfl ?_;clear hQ hR)|(refine hR _ _ (hQ _ _ _ rfl ?_);clear hQ hR)|(refine zaf ?_ ?_;focus first|omega|(refine zad ?_;(refine no_implicit_lambda% (st ?_);try with_reducible exact True.intro);done)))<;>try simp -dsimp -implicitDefEqProofs (disch:=omega) only[go_sem,reduceIte,↓reduceIte,Nat.reduceEqDiff,Nat.reduceLT,Nat.reduceLeDiff,Nat.reduceAdd,Nat.reduceSub,Nat.reduceMul,Int.reduceToNat,Int.reduceLT,Int.reduceLE,Int.reduceEq,Int.reduceNeg,Int.reduceNe,reduceCtorEq,e2]))
  all_goals (left;unfold zmd zkq setT;dsimp only;rw[zbr];constructor)
  all_goals (refine no_implicit_lambda% (st ?_);try with_reducible exact True.intro)
theorem sec_pc (hH:HasAll P inv) (hI:HasIds P inv) (p:Pln) (hp:Sm p) (s:State) (hs:SmS s) (n v:Int):PC P inv 73 [.agg p.c,.agg s.c,.n n,.n v] (·=.tup [.agg (secR p s n v).c,.n (zes p s n v)]):=by
 unfold secR
 by_cases he:zes p s n v=0
 ·have:=(sec_po hH hI p hp s hs n v he).pc
  rw[zfr]at this
  rw[if_pos he,he]
  exact this
 ·rw[if_neg he]
  have c0:=zb5 hH hI p hp s hs
  have c1:=zeP hH s hs
  unfold zes at he ⊢
  by_cases hc:zan p s=0
  ·rw[if_pos hc]at he ⊢
   rw[hc]at c0
   obtain ⟨h1,h2,h3⟩:=hs
   have c2:=zkX hH s.tracks (fun x _=>zoj hH n x) (by omega)
   unfold stV stR at c1
   rcases zbb Track.id n s.tracks with ⟨h4,h5⟩|⟨k,hk,h4,h5⟩
   ·rw[if_neg (fun ⟨t,ht,e⟩=>h5 t ht e)]
    rw[h4]at c2
    refine zae (F:=cd73) (hH.has _ _ rfl) (Nat.le_of_ble_eq_true rfl) fun w0 M Q hM hQ hR=>?_;have hE:=hH.callable;dsimp only[cd73,qm,ql,qf,qi,qb,qc,qp,qv,qN,qT,qF,qt]at hQ ⊢
    skip
    repeat' (first|refine zaa [0,1,2,3,4,5,6,8,9,10,11,16,26,33] fun K hK=>?_|refine AWp.block ?_|(refine hK.go ?_;clear hK K)|refine Cont.go (by assumption) ?_|(refine cnd2 rfl (fun h=>?_) (fun h=>?_)<;>(try first|exact h.elim|obtain rfl:(_:Bool)=true:=h|obtain rfl:(_:Bool)=false:=h)<;>first|(exfalso;omega)|skip)|((first|refine AWp.reg hE hM ?_|refine AWp.regd hE hM ?_|refine AWp.ret ?_|refine AWp.skip ?_|refine AWp.exit ?_|(refine pk2 (fun h=>?_) (fun h=>?_)<;>(try first|exact h.elim|obtain rfl:(_:Bool)=true:=h|obtain rfl:(_:Bool)=false:=h))|refine zab (fun h=>?_) ?_|refine zac hM (c0) ?_|refine PO.callK hM ( c1) ?_|(refine AC.callK 30 (by omega) (by first|omega|((refine no_implicit_lambda% (st ?_);try with_reducible exact True.intro);done)|((refine no_implicit_lambda% (st ?_);try with_reducible exact True.intro);omega)) (zax (F:=cd85) (hH.has _ _ rfl) (Nat.le_of_ble_eq_true rfl) fun Q hQ hR=>?_);dsimp only[cd85,qm,ql,qf,qi,qb,qc,qp,qv,qN,qT,qF,qt]at hQ ⊢)|(refine zau hM 4 ( c2) ?_ rfl ?_;(focus ((refine no_implicit_lambda% (st ?_);try with_reducible exact True.intro)<;>fail)))|(refine hQ _ _ _ rfl ?_;clear hQ hR)|(refine hR _ _ (hQ _ _ _ rfl ?_);clear hQ hR)|(refine zaf ?_ ?_;focus first|omega|(refine zad ?_;(refine no_implicit_lambda% (st ?_);try with_reducible exact True.intro);done)))<;>try (refine no_implicit_lambda% (st ?_);try with_reducible exact True.intro)))
    all_goals first|rfl|(exfalso;contradiction)|skip
   ·rw[if_pos ⟨_,zal hk,h5⟩]at he ⊢
    rw[h4]at c2
    by_cases hv:v=0∨v=1
    ·rw[if_pos hv]at he;exact absurd rfl he
    ·rw[if_neg hv]
     refine zae (F:=cd73) (hH.has _ _ rfl) (Nat.le_of_ble_eq_true rfl) fun w0 M Q hM hQ hR=>?_;have hE:=hH.callable;dsimp only[cd73,qm,ql,qf,qi,qb,qc,qp,qv,qN,qT,qF,qt]at hQ ⊢
     skip
     repeat' (first|refine zaa [0,1,2,3,4,5,6,8,9,10,11,16,26,33] fun K hK=>?_|refine AWp.block ?_|(refine hK.go ?_;clear hK K)|refine Cont.go (by assumption) ?_|(refine cnd2 rfl (fun h=>?_) (fun h=>?_)<;>(try first|exact h.elim|obtain rfl:(_:Bool)=true:=h|obtain rfl:(_:Bool)=false:=h)<;>first|(exfalso;omega)|skip)|((first|refine AWp.reg hE hM ?_|refine AWp.regd hE hM ?_|refine AWp.ret ?_|refine AWp.skip ?_|refine AWp.exit ?_|(refine pk2 (fun h=>?_) (fun h=>?_)<;>(try first|exact h.elim|obtain rfl:(_:Bool)=true:=h|obtain rfl:(_:Bool)=false:=h))|refine zab (fun h=>?_) ?_|refine zac hM (c0) ?_|refine PO.callK hM ( c1) ?_|(refine AC.callK 30 (by omega) (by first|omega|((refine no_implicit_lambda% (st ?_);try with_reducible exact True.intro);done)|((refine no_implicit_lambda% (st ?_);try with_reducible exact True.intro);omega)) (zax (F:=cd85) (hH.has _ _ rfl) (Nat.le_of_ble_eq_true rfl) fun Q hQ hR=>?_);dsimp only[cd85,qm,ql,qf,qi,qb,qc,qp,qv,qN,qT,qF,qt]at hQ ⊢)|(refine zau hM 4 ( c2) ?_ rfl ?_;(focus ((refine no_implicit_lambda% (st ?_);try with_reducible exact True.intro)<;>fail)))|(refine hQ _ _ _ rfl ?_;clear hQ hR)|(refine hR _ _ (hQ _ _ _ rfl ?_);clear hQ hR)|(refine zaf ?_ ?_;focus first|omega|(refine zad ?_;(refine no_implicit_lambda% (st ?_);try with_reducible exact True.intro);done)))<;>try (refine no_implicit_lambda% (st ?_);try with_reducible exact True.intro)))
     all_goals first|rfl|(exfalso;omega)|skip
  ·rw[if_neg hc]
   generalize zan p s=e at c0 hc ⊢
   refine zae (F:=cd73) (hH.has _ _ rfl) (Nat.le_of_ble_eq_true rfl) fun w0 M Q hM hQ hR=>?_;have hE:=hH.callable;dsimp only[cd73,qm,ql,qf,qi,qb,qc,qp,qv,qN,qT,qF,qt]at hQ ⊢
   repeat' (first|refine zaa [0,1,2,3,4,5,6,8,9,10,11,16,26,33] fun K hK=>?_|refine AWp.block ?_|(refine hK.go ?_;clear hK K)|refine Cont.go (by assumption) ?_|(refine cnd2 rfl (fun h=>?_) (fun h=>?_)<;>(try first|exact h.elim|obtain rfl:(_:Bool)=true:=h|obtain rfl:(_:Bool)=false:=h)<;>first|(exfalso;omega)|skip)|((first|refine AWp.reg hE hM ?_|refine AWp.regd hE hM ?_|refine AWp.ret ?_|refine AWp.skip ?_|refine AWp.exit ?_|(refine pk2 (fun h=>?_) (fun h=>?_)<;>(try first|exact h.elim|obtain rfl:(_:Bool)=true:=h|obtain rfl:(_:Bool)=false:=h))|refine zab (fun h=>?_) ?_|refine zac hM (c0) ?_|(refine hQ _ _ _ rfl ?_;clear hQ hR hE hM)|(refine hR _ _ (hQ _ _ _ rfl ?_);clear hQ hR hE hM)|(refine zaf ?_ ?_;focus first|omega|(refine zad ?_;(refine no_implicit_lambda% (st ?_);try with_reducible exact True.intro);done)))<;>try (refine no_implicit_lambda% (st ?_);try with_reducible exact True.intro)))
   all_goals first|rfl|(exfalso;contradiction)|skip
end Go.Lev
namespace Go.Lev
open Go.Eng
theorem znb {α:Type} (f:α→Int) (n:Int) (g h:α→α) (hg:∀ x,f (g x)=f x) (hh:∀ x,h (g x)=h x) (l:List α):zcm f n h (zcm f n g l)=zcm f n h l:=by
 unfold zcm
 rw[List.map_map]
 refine List.map_congr_left fun x _=>?_
 simp only[Function.comp]
 by_cases e:f x=n
 ·rw[if_pos e,if_pos (by rw[hg];exact e),if_pos e,hh]
 ·simp only[if_neg e]
theorem znc {α:Type} (f:α→Int) {n m:Int} (hnm:n≠m) (g h:α→α) (hg:∀ x,f (g x)=f x) (hh:∀ x,f (h x)=f x) (l:List α):zcm f m h (zcm f n g l)=zcm f n g (zcm f m h l):=by
 unfold zcm
 rw[List.map_map,List.map_map]
 refine List.map_congr_left fun x _=>?_
 simp only[Function.comp]
 by_cases e:f x=n
 ·have e':¬f x=m:=fun e'=>hnm (e.symm.trans e')
  rw[if_pos e,if_neg e',if_neg (by rw[hg];exact e'),if_pos e]
 ·rw[if_neg e]
  by_cases e':f x=m
  ·rw[if_pos e',if_neg (by rw[hh];exact e)]
  ·rw[if_neg e',if_neg e]
end Go.Lev
namespace Go.Eng
open Go.RowKit
section
variable {S R:Type} {body:Nat→S→(S→R)→R} {fin:S→R} {n k:Nat} {s:S}
end
section
variable {f f':Nat→Option (List AV)} {g:Nat→Bool} (h:∀ l,g l=true→f' l=f l)
include h
end
theorem zjj {σ σ':AS} (hle:SLe σ σ'):∀ (k l:Nat),okF k σ l=true→zf4 k σ' l=zf4 k σ l
 |0,_,e=>by simp[okF]at e
 |k+1,l,e=>by
  simp only[okF]at e
  split at e
  ·rename_i cs r hg
   simp only[zf4,hg,hle l _ hg (by intro h;cases h),zcZ (fun l=>zjj hle k l) cs e]
  ·cases e
section
variable (k:Nat) (σ:List (Nat×AO))
end
section
variable {P:Program} {inv:Nat→Option Nat} {w0:World} {M:Nat→Prop} {σ:AS}
theorem zpa (hM:∀ b,M b→b<w0.heap.size) (k:Nat) {j:Nat} {args args':List AV} {r:AV} (h:PC P inv j args' (·=r)) (he:zbE k σ args=args') (hok:oks k σ args=true) (hs:r.scalar=true) {K:AV→Prop} (hk:K r):PureK P inv w0 M σ j args K :=
 ⟨r,fun _ _ σ' hle=>zau hM k h (by rw[←he];exact zcZ (fun l=>zjj hle k l) args hok) hs ⟨rfl,rfl⟩,hk⟩
end
section
variable {P:Program} {inv:Nat→Option Nat} {w0:World} {M:Nat→Prop} {n N:Nat} {φ:AF} {σ:AS}
variable {l:Nat} {J:AF→AS→Prop} {Q:Exit→AF→AS→Prop}
end
section
variable {P:Program} {inv:Nat→Option Nat} {w0:World} {M:Nat→Prop} {n N:Nat} {φ:AF} {σ:AS}
end
end Go.Eng
namespace Go.Lev
open Go.Eng
set_option maxRecDepth 10000
set_option maxHeartbeats 4000000
variable {P:Program} {inv:Nat→Option Nat} {w0:World} {M:Nat→Prop}
theorem is168_pc (hH:HasAll P inv) (n:Int) (x:Switch):PC P inv 168 ([.agg x.c]++[.ip 1 [[.n n]] 0 0]) (·=.b (decide (x.id=n))):=by
 refine zae (F:=cd168) (hH.has _ _ rfl) (Nat.le_of_ble_eq_true rfl) fun w0 M Q hM hQ hR=>?_;have hE:=hH.callable;dsimp only[cd168,qm,ql,qf,qi,qb,qc,qp,qv,qN,qT,qF,qt]at hQ ⊢
 repeat' (first|refine zaa [0,1,2,3] fun K hK=>?_|refine AWp.block ?_|(refine hK.go ?_;clear hK K)|refine Cont.go (by assumption) ?_|(refine cnd2 rfl (fun h=>?_) (fun h=>?_)<;>(try first|exact h.elim|obtain rfl:(_:Bool)=true:=h|obtain rfl:(_:Bool)=false:=h)<;>first|(exfalso;omega)|skip)|((first|refine AWp.reg hE hM ?_|refine AWp.regd hE hM ?_|refine AWp.ret ?_|refine AWp.skip ?_|refine AWp.exit ?_|(refine pk2 (fun h=>?_) (fun h=>?_)<;>(try first|exact h.elim|obtain rfl:(_:Bool)=true:=h|obtain rfl:(_:Bool)=false:=h))|refine zab (fun h=>?_) ?_|(refine hQ _ _ _ rfl ?_;clear hQ hR hE hM)|(refine hR _ _ (hQ _ _ _ rfl ?_);clear hQ hR hE hM)|(refine zaf ?_ ?_;focus first|omega|(refine zad ?_;(refine no_implicit_lambda% (st ?_);try with_reducible exact True.intro);done)))<;>try (refine no_implicit_lambda% (st ?_);try with_reducible exact True.intro)))
theorem is169_pc (hH:HasAll P inv) (n:Int) (x:Pnt):PC P inv 169 ([.agg x.c]++[.ip 1 [[.n n]] 0 0]) (·=.b (decide (x.id=n))):=by
 refine zae (F:=cd169) (hH.has _ _ rfl) (Nat.le_of_ble_eq_true rfl) fun w0 M Q hM hQ hR=>?_;have hE:=hH.callable;dsimp only[cd169,qm,ql,qf,qi,qb,qc,qp,qv,qN,qT,qF,qt]at hQ ⊢
 repeat' (first|refine zaa [0,1,2,3] fun K hK=>?_|refine AWp.block ?_|(refine hK.go ?_;clear hK K)|refine Cont.go (by assumption) ?_|(refine cnd2 rfl (fun h=>?_) (fun h=>?_)<;>(try first|exact h.elim|obtain rfl:(_:Bool)=true:=h|obtain rfl:(_:Bool)=false:=h)<;>first|(exfalso;omega)|skip)|((first|refine AWp.reg hE hM ?_|refine AWp.regd hE hM ?_|refine AWp.ret ?_|refine AWp.skip ?_|refine AWp.exit ?_|(refine pk2 (fun h=>?_) (fun h=>?_)<;>(try first|exact h.elim|obtain rfl:(_:Bool)=true:=h|obtain rfl:(_:Bool)=false:=h))|refine zab (fun h=>?_) ?_|(refine hQ _ _ _ rfl ?_;clear hQ hR hE hM)|(refine hR _ _ (hQ _ _ _ rfl ?_);clear hQ hR hE hM)|(refine zaf ?_ ?_;focus first|omega|(refine zad ?_;(refine no_implicit_lambda% (st ?_);try with_reducible exact True.intro);done)))<;>try (refine no_implicit_lambda% (st ?_);try with_reducible exact True.intro)))
theorem is170_pc (hH:HasAll P inv) (n:Int) (x:Track):PC P inv 170 ([.agg x.c]++[.ip 1 [[.n n]] 0 0]) (·=.b (decide (x.id=n))):=by
 refine zae (F:=cd170) (hH.has _ _ rfl) (Nat.le_of_ble_eq_true rfl) fun w0 M Q hM hQ hR=>?_;have hE:=hH.callable;dsimp only[cd170,qm,ql,qf,qi,qb,qc,qp,qv,qN,qT,qF,qt]at hQ ⊢
 repeat' (first|refine zaa [0,1,2,3] fun K hK=>?_|refine AWp.block ?_|(refine hK.go ?_;clear hK K)|refine Cont.go (by assumption) ?_|(refine cnd2 rfl (fun h=>?_) (fun h=>?_)<;>(try first|exact h.elim|obtain rfl:(_:Bool)=true:=h|obtain rfl:(_:Bool)=false:=h)<;>first|(exfalso;omega)|skip)|((first|refine AWp.reg hE hM ?_|refine AWp.regd hE hM ?_|refine AWp.ret ?_|refine AWp.skip ?_|refine AWp.exit ?_|(refine pk2 (fun h=>?_) (fun h=>?_)<;>(try first|exact h.elim|obtain rfl:(_:Bool)=true:=h|obtain rfl:(_:Bool)=false:=h))|refine zab (fun h=>?_) ?_|(refine hQ _ _ _ rfl ?_;clear hQ hR hE hM)|(refine hR _ _ (hQ _ _ _ rfl ?_);clear hQ hR hE hM)|(refine zaf ?_ ?_;focus first|omega|(refine zad ?_;(refine no_implicit_lambda% (st ?_);try with_reducible exact True.intro);done)))<;>try (refine no_implicit_lambda% (st ?_);try with_reducible exact True.intro)))
theorem znd {p:Pln} {s:State} (h:zar p s=true) {n:Int} (hs:∃ x∈p.sections,x.id=n):zoh s n:=by
 obtain ⟨x,hx,rfl⟩:=hs
 have:x.id∈s.tracks.map Track.id:=by rw[zil h];exact List.mem_map_of_mem hx
 obtain ⟨t,ht,e⟩:=List.mem_map.1 this
 exact ⟨t,ht,e⟩
theorem zkL {p:Pln} (h:OkP p) {x:Pnt} (hx:x∈p.points):∃ y∈p.sections,y.id=x.sec:=by
 obtain ⟨s,hs,_,_,e⟩:=znK h hx
 exact ⟨s,hs,e⟩
theorem zmD {p:Pln} {s:State} (h:zar p s=true) (n:Int):zfn s n≤2:=by
 unfold zfn
 cases e:s.tracks.find? fun t=>decide (t.id=n) with
 |none=>exact Int.le_refl _
 |some t =>
  obtain ⟨x,_,hx⟩:=zhS (by simp only[zar,Bool.and_eq_true]at h;exact h.1) t (List.mem_of_find?_eq_some e)
  simp only[zim,Bool.and_eq_true,decide_eq_true_eq]at hx
  exact hx.2
theorem znm {p:Pln} {s:State}:zan p s=0∨zan p s=8∨zan p s=100:=by
 unfold zan
 split
 ·split
  ·exact .inl rfl
  ·exact .inr (.inl rfl)
 ·exact .inr (.inr rfl)
theorem zfD (hH:HasAll P inv) (hI:HasIds P inv) (p:Pln) (hp:Sm p) (s:State) (hs:SmS s) (h8:∀ t∈s.tracks,0≤t.is) (n:Int):PC P inv 153 [.agg p.c,.agg s.c,.n n] (·=.n (zd4 p s n)):=by
 have c0:=zee hH hI p hp s hs n
 unfold zd4
 unfold zcI at c0
 by_cases hst:zan p s=0
 ·rw[if_pos hst]at c0 ⊢
  have hok:=zaA hst
  have hpa:=(zaj hst).2.1
  cases hn:zcx p n with
  |false =>
   rw[hn,if_neg (by simp)]at c0
   rw[if_neg (by simp)]
   refine zae (F:=cd153) (hH.has _ _ rfl) (Nat.le_of_ble_eq_true rfl) fun w0 M Q hM hQ hR=>?_;have hE:=hH.callable;dsimp only[cd153,qm,ql,qf,qi,qb,qc,qp,qv,qN,qT,qF,qt]at hQ ⊢
   repeat' (first|refine zaa [0,1,2,3,4,5,6,7,8,9,10,19,34,37,45] fun K hK=>?_|refine AWp.block ?_|(refine hK.go ?_;clear hK K)|refine Cont.go (by assumption) ?_|(refine cnd2 rfl (fun h=>?_) (fun h=>?_)<;>(try first|exact h.elim|obtain rfl:(_:Bool)=true:=h|obtain rfl:(_:Bool)=false:=h)<;>first|(exfalso;omega)|skip)|((first|refine AWp.reg hE hM ?_|refine AWp.regd hE hM ?_|refine AWp.ret ?_|refine AWp.skip ?_|refine AWp.exit ?_|(refine pk2 (fun h=>?_) (fun h=>?_)<;>(try first|exact h.elim|obtain rfl:(_:Bool)=true:=h|obtain rfl:(_:Bool)=false:=h))|refine zab (fun h=>?_) ?_|refine zac hM (c0) ?_|(refine hQ _ _ _ rfl ?_;clear hQ hR hE hM)|(refine hR _ _ (hQ _ _ _ rfl ?_);clear hQ hR hE hM)|(refine zaf ?_ ?_;focus first|omega|(refine zad ?_;(refine no_implicit_lambda% (st ?_);try with_reducible exact True.intro);done)))<;>try (refine no_implicit_lambda% (st ?_);try with_reducible exact True.intro)))
   all_goals first|rfl|(exfalso;contradiction)|skip
  |true =>
   rw[hn,if_pos rfl]at c0
   rw[if_pos rfl]
   have c1:=zhc hH p.points (fun x _=>is169_pc hH n x) (Nat.le_trans hp.pts (by omega))
   obtain ⟨x,hx,ex⟩:=List.any_eq_true.1 hn
   have ex:x.id=n:=by simpa using ex
   rcases zbb Pnt.id n p.points with ⟨_,h4⟩|⟨k,hk,h4,h5⟩
   ·exact absurd ex (h4 x hx)
   ·rw[h4]at c1
    have e1:zbU p n=(nth p.points k).sec:=by unfold zbU;rw[zfc Pnt.id (zbF hok) hk h5]
    have c2:=zkX hH s.tracks (fun x _=>is170_pc hH (nth p.points k).sec x) (Nat.le_trans hs.1 (by omega))
    obtain ⟨t,ht,et⟩:=znd hpa (zkL hok (zal hk))
    rcases zbb Track.id (nth p.points k).sec s.tracks with ⟨_,h6⟩|⟨m,hm,h6,h7⟩
    ·exact absurd et (h6 t ht)
    ·rw[h6]at c2
     have hno:(s.tracks.map Track.id).Nodup:=by rw[zil hpa];exact zgy hok
     have e2:zfn s (zbU p n)=(nth s.tracks m).is:=by unfold zfn;rw[e1,zfc Track.id hno hm h7]
     have e3:=zmD hpa (zbU p n)
     have e4:=h8 _ (zal hm)
     rw[e2]at e3 ⊢
     have hl1:=hp.pts
     have hl2:=hs.1
     generalize nth (zaw p s).2.1 n.toNat=a at c0 ⊢
     clear h4 h5 h6 h7 e1 e2 et ht hno hpa hok hn ex hx
     refine zae (F:=cd153) (hH.has _ _ rfl) (Nat.le_of_ble_eq_true rfl) fun w0 M Q hM hQ hR=>?_;have hE:=hH.callable;dsimp only[cd153,qm,ql,qf,qi,qb,qc,qp,qv,qN,qT,qF,qt]at hQ ⊢
     repeat' (first|refine zaa [0,1,2,3,4,5,6,7,8,9,10,19,34,37,45] fun K hK=>?_|refine AWp.block ?_|(refine hK.go ?_;clear hK K)|refine Cont.go (by assumption) ?_|(refine cnd2 rfl (fun h=>?_) (fun h=>?_)<;>(try first|exact h.elim|obtain rfl:(_:Bool)=true:=h|obtain rfl:(_:Bool)=false:=h)<;>first|(exfalso;omega)|skip)|((first|refine AWp.reg hE hM ?_|refine AWp.regd hE hM ?_|refine AWp.ret ?_|refine AWp.skip ?_|refine AWp.exit ?_|(refine pk2 (fun h=>?_) (fun h=>?_)<;>(try first|exact h.elim|obtain rfl:(_:Bool)=true:=h|obtain rfl:(_:Bool)=false:=h))|refine zab (fun h=>?_) ?_|refine zac hM (c0) ?_|(refine zpa hM 4 ( c1) ?_ ?_ rfl ?_;(focus ((refine no_implicit_lambda% (st ?_);try with_reducible exact True.intro)<;>fail));(focus ((refine no_implicit_lambda% (st ?_);try with_reducible exact True.intro)<;>fail)))|(refine zau hM 4 ( c2) ?_ rfl ?_;(focus ((refine no_implicit_lambda% (st ?_);try with_reducible exact True.intro)<;>fail)))|(refine hQ _ _ _ rfl ?_;clear hQ hR hE hM)|(refine hR _ _ (hQ _ _ _ rfl ?_);clear hQ hR hE hM)|(refine zaf ?_ ?_;focus first|omega|(refine zad ?_;(refine no_implicit_lambda% (st ?_);try with_reducible exact True.intro);done)))<;>try (refine no_implicit_lambda% (st ?_);try with_reducible exact True.intro)))
     all_goals ((repeat' split)<;>first|rfl|(exfalso;contradiction)|(exfalso;omega))
 ·rw[if_neg hst]at c0 ⊢
  generalize zan p s=e at c0 hst ⊢
  refine zae (F:=cd153) (hH.has _ _ rfl) (Nat.le_of_ble_eq_true rfl) fun w0 M Q hM hQ hR=>?_;have hE:=hH.callable;dsimp only[cd153,qm,ql,qf,qi,qb,qc,qp,qv,qN,qT,qF,qt]at hQ ⊢
  repeat' (first|refine zaa [0,1,2,3,4,5,6,7,8,9,10,19,34,37,45] fun K hK=>?_|refine AWp.block ?_|(refine hK.go ?_;clear hK K)|refine Cont.go (by assumption) ?_|(refine cnd2 rfl (fun h=>?_) (fun h=>?_)<;>(try first|exact h.elim|obtain rfl:(_:Bool)=true:=h|obtain rfl:(_:Bool)=false:=h)<;>first|(exfalso;omega)|skip)|((first|refine AWp.reg hE hM ?_|refine AWp.regd hE hM ?_|refine AWp.ret ?_|refine AWp.skip ?_|refine AWp.exit ?_|(refine pk2 (fun h=>?_) (fun h=>?_)<;>(try first|exact h.elim|obtain rfl:(_:Bool)=true:=h|obtain rfl:(_:Bool)=false:=h))|refine zab (fun h=>?_) ?_|refine zac hM (c0) ?_|(refine hQ _ _ _ rfl ?_;clear hQ hR hE hM)|(refine hR _ _ (hQ _ _ _ rfl ?_);clear hQ hR hE hM)|(refine zaf ?_ ?_;focus first|omega|(refine zad ?_;(refine no_implicit_lambda% (st ?_);try with_reducible exact True.intro);done)))<;>try (refine no_implicit_lambda% (st ?_);try with_reducible exact True.intro)))
  all_goals first|rfl|(exfalso;contradiction)|skip
theorem zl2 {p:Pln} {s:State} {n v:Int} (h:zby p s n v=0):zan p s=0∧zcx p n=true∧(v=1∨v=2)∧zd4 p s n=0:=by
 unfold zby at h
 split at h
 ·rename_i h1
  split at h
  ·rename_i h2
   split at h
   ·rename_i h3;exact ⟨h1,h2,h3,h⟩
   ·cases h
  ·cases h
 ·rename_i h1;exact absurd h h1
theorem zi5 (hH:HasAll P inv) (hI:HasIds P inv) (p:Pln) (hp:Sm p) (s:State) (hs:SmS s) (h8:∀ t∈s.tracks,0≤t.is) (n v:Int) (he:zby p s n v=0):PO P inv 151 [.agg p.c,.agg s.c,.n n,.n v] (.tup [zmd 6 (zdv s n v),.n 0]) (zkq 6 (zdv s n v)):=by
 obtain ⟨hst,hn,hv,hm⟩:=zl2 he
 have c0:=zfD hH hI p hp s hs h8 n
 rw[hm]at c0
 have c1:=zeP hH s hs
 obtain ⟨t,ht,htn⟩:=zng (zaj hst).2.1 hn
 have c2:=zkY hH s.switches (fun x _=>is168_pc hH n x) (by have:=hs.2.1;omega)
 have hno:(s.switches.map Switch.id).Nodup:=by rw[zdf (zaj hst).2.1];exact zbF (zaA hst)
 have h2:=hs.2.1
 rcases zbb Switch.id n s.switches with ⟨_,h4⟩|⟨k,hk,h4,h5⟩
 ·exact absurd htn (h4 t ht)
 ·rw[h4]at c2
  have e1:=zeG Switch.id n (fun t=>(⟨t.id,t.lie,v⟩:Switch)) hno hk h5
  have e2:=zd7 (c:=Switch.c) (l:=s.switches) (k:=k) (i:=2) hk (by omega) (.i .i64 v) (⟨(nth s.switches k).id,(nth s.switches k).lie,v⟩:Switch) rfl
  rw[e1]at e2
  unfold stV stR at c1
  refine zbA (F:=cd151) (hH.has _ _ rfl) (Nat.le_of_ble_eq_true rfl) fun w0 M Q hM hQ hR=>?_;have hE:=hH.callable;dsimp only[cd151,qm,ql,qf,qi,qb,qc,qp,qv,qN,qT,qF,qt]at hQ ⊢
  repeat' (first|refine zaa [0,1,2,3,4,5,6,8,9,10,11,34,36] fun K hK=>?_|refine AWp.block ?_|(refine hK.go ?_;clear hK K)|refine Cont.go (by assumption) ?_|(refine cnd2 rfl (fun h=>?_) (fun h=>?_)<;>(try first|exact h.elim|obtain rfl:(_:Bool)=true:=h|obtain rfl:(_:Bool)=false:=h)<;>first|(exfalso;omega)|skip)|((first|refine AWp.reg hE hM ?_|refine AWp.regd hE hM ?_|refine AWp.ret ?_|refine AWp.skip ?_|refine AWp.exit ?_|(refine pk2 (fun h=>?_) (fun h=>?_)<;>(try first|exact h.elim|obtain rfl:(_:Bool)=true:=h|obtain rfl:(_:Bool)=false:=h))|refine zab (fun h=>?_) ?_|refine zac hM (c0) ?_|refine PO.callK hM ( c1) ?_|(refine zau hM 4 ( c2) ?_ rfl ?_;(focus (simp -dsimp -implicitDefEqProofs (disch:=omega) only[go_sem,reduceIte,↓reduceIte,Nat.reduceEqDiff,Nat.reduceLT,Nat.reduceLeDiff,Nat.reduceAdd,Nat.reduceSub,Nat.reduceMul,Int.reduceToNat,Int.reduceLT,Int.reduceLE,Int.reduceEq,Int.reduceNeg,Int.reduceNe,reduceCtorEq,e2]<;>fail)))|(refine zaf ?_ ?_;focus first|omega|(refine zad ?_;(refine no_implicit_lambda% (st ?_);try with_reducible exact True.intro);done)))<;>try simp -dsimp -implicitDefEqProofs (disch:=omega) only[go_sem,reduceIte,↓reduceIte,Nat.reduceEqDiff,Nat.reduceLT,Nat.reduceLeDiff,Nat.reduceAdd,Nat.reduceSub,Nat.reduceMul,Int.reduceToNat,Int.reduceLT,Int.reduceLE,Int.reduceEq,Int.reduceNeg,Int.reduceNe,reduceCtorEq,e2])|(refine hQ _ _ _ rfl ?_;clear hQ hR hE hM)|(refine hR _ _ (hQ _ _ _ rfl ?_);clear hQ hR hE hM))
  all_goals (left;unfold zmd zkq zdv;dsimp only;rw[zbr];constructor)
  all_goals (refine no_implicit_lambda% (st ?_);try with_reducible exact True.intro)
theorem zmw {p:Pln} {s:State} {n:Int} (hst:zan p s=0) (hn:zcx p n=true):zd4 p s n=0∨zd4 p s n=170∨zd4 p s n=171:=by
 unfold zd4
 rw[if_pos hst,if_pos hn]
 split
 ·split
  ·exact .inl rfl
  ·exact .inr (.inr rfl)
 ·exact .inr (.inl rfl)
theorem zcS (hH:HasAll P inv) (hI:HasIds P inv) (p:Pln) (hp:Sm p) (s:State) (hs:SmS s) (h8:∀ t∈s.tracks,0≤t.is) (n v:Int):PC P inv 151 [.agg p.c,.agg s.c,.n n,.n v] (·=.tup [.agg (zds p s n v).c,.n (zby p s n v)]):=by
 unfold zds
 by_cases he:zby p s n v=0
 ·have:=(zi5 hH hI p hp s hs h8 n v he).pc
  rw[zfr]at this
  rw[if_pos he,he]
  exact this
 ·rw[if_neg he]
  have c0:=zfD hH hI p hp s hs h8 n
  have key:(∃ e,zd4 p s n=e∧zby p s n v=e∧(e=6∨e=8∨e=100))∨(∃ e,zd4 p s n=e∧(e=0∨e=170∨e=171)∧zby p s n v=2∧¬v=1∧¬v=2)∨(∃ e,zd4 p s n=e∧(e=170∨e=171)∧zby p s n v=e∧(v=1∨v=2)):=by
   by_cases hst:zan p s=0
   ·cases hn:zcx p n with
    |false=>exact .inl ⟨6,by unfold zd4;rw[if_pos hst,if_neg (by simp[hn])],by unfold zby;rw[if_pos hst,if_neg (by simp[hn])],.inl rfl⟩
    |true =>
     have hm:=zmw hst hn
     have hc:zby p s n v=if v=1∨v=2 then zd4 p s n else 2:=by unfold zby;rw[if_pos hst,if_pos hn]
     by_cases hv:v=1∨v=2
     ·rw[if_pos hv]at hc
      rcases hm with hm|hm|hm
      ·exact absurd (hc.trans hm) he
      ·exact .inr (.inr ⟨170,hm,.inl rfl,hc.trans hm,hv⟩)
      ·exact .inr (.inr ⟨171,hm,.inr rfl,hc.trans hm,hv⟩)
     ·rw[if_neg hv]at hc
      exact .inr (.inl ⟨_,rfl,hm,hc,fun h=>hv (.inl h),fun h=>hv (.inr h)⟩)
   ·have h1:zd4 p s n=zan p s:=by unfold zd4;rw[if_neg hst]
    have h2:zby p s n v=zan p s:=by unfold zby;rw[if_neg hst]
    rcases znm (p:=p) (s:=s) with h|h|h
    ·exact absurd h hst
    ·exact .inl ⟨8,h1.trans h,h2.trans h,.inr (.inl rfl)⟩
    ·exact .inl ⟨100,h1.trans h,h2.trans h,.inr (.inr rfl)⟩
  rcases key with ⟨e,h1,h2,h3⟩|⟨e,h1,h3,h2,h4,h5⟩|⟨e,h1,h3,h2,h4⟩
  ·rw[h1]at c0
   rw[h2]
   rcases h3 with rfl|rfl|rfl
   all_goals refine zae (F:=cd151) (hH.has _ _ rfl) (Nat.le_of_ble_eq_true rfl) fun w0 M Q hM hQ hR=>?_;have hE:=hH.callable;dsimp only[cd151,qm,ql,qf,qi,qb,qc,qp,qv,qN,qT,qF,qt]at hQ ⊢
   all_goals repeat' (first|refine zaa [0,1,2,3,4,5,6,8,9,10,11,34,36] fun K hK=>?_|refine AWp.block ?_|(refine hK.go ?_;clear hK K)|refine Cont.go (by assumption) ?_|(refine cnd2 rfl (fun h=>?_) (fun h=>?_)<;>(try first|exact h.elim|obtain rfl:(_:Bool)=true:=h|obtain rfl:(_:Bool)=false:=h)<;>first|(exfalso;omega)|skip)|((first|refine AWp.reg hE hM ?_|refine AWp.regd hE hM ?_|refine AWp.ret ?_|refine AWp.skip ?_|refine AWp.exit ?_|(refine pk2 (fun h=>?_) (fun h=>?_)<;>(try first|exact h.elim|obtain rfl:(_:Bool)=true:=h|obtain rfl:(_:Bool)=false:=h))|refine zab (fun h=>?_) ?_|refine zac hM (c0) ?_|(refine hQ _ _ _ rfl ?_;clear hQ hR hE hM)|(refine hR _ _ (hQ _ _ _ rfl ?_);clear hQ hR hE hM)|(refine zaf ?_ ?_;focus first|omega|(refine zad ?_;(refine no_implicit_lambda% (st ?_);try with_reducible exact True.intro);done)))<;>try (refine no_implicit_lambda% (st ?_);try with_reducible exact True.intro)))
   all_goals first|rfl|(exfalso;contradiction)|(exfalso;omega)
  ·rw[h1]at c0
   rw[h2]
   rcases h3 with rfl|rfl|rfl
   all_goals refine zae (F:=cd151) (hH.has _ _ rfl) (Nat.le_of_ble_eq_true rfl) fun w0 M Q hM hQ hR=>?_;have hE:=hH.callable;dsimp only[cd151,qm,ql,qf,qi,qb,qc,qp,qv,qN,qT,qF,qt]at hQ ⊢
   all_goals repeat' (first|refine zaa [0,1,2,3,4,5,6,8,9,10,11,34,36] fun K hK=>?_|refine AWp.block ?_|(refine hK.go ?_;clear hK K)|refine Cont.go (by assumption) ?_|(refine cnd2 rfl (fun h=>?_) (fun h=>?_)<;>(try first|exact h.elim|obtain rfl:(_:Bool)=true:=h|obtain rfl:(_:Bool)=false:=h)<;>first|(exfalso;omega)|skip)|((first|refine AWp.reg hE hM ?_|refine AWp.regd hE hM ?_|refine AWp.ret ?_|refine AWp.skip ?_|refine AWp.exit ?_|(refine pk2 (fun h=>?_) (fun h=>?_)<;>(try first|exact h.elim|obtain rfl:(_:Bool)=true:=h|obtain rfl:(_:Bool)=false:=h))|refine zab (fun h=>?_) ?_|refine zac hM (c0) ?_|(refine hQ _ _ _ rfl ?_;clear hQ hR hE hM)|(refine hR _ _ (hQ _ _ _ rfl ?_);clear hQ hR hE hM)|(refine zaf ?_ ?_;focus first|omega|(refine zad ?_;(refine no_implicit_lambda% (st ?_);try with_reducible exact True.intro);done)))<;>try (refine no_implicit_lambda% (st ?_);try with_reducible exact True.intro)))
   all_goals first|rfl|(exfalso;contradiction)|(exfalso;omega)
  ·rw[h1]at c0
   rw[h2]
   rcases h3 with rfl|rfl
   all_goals refine zae (F:=cd151) (hH.has _ _ rfl) (Nat.le_of_ble_eq_true rfl) fun w0 M Q hM hQ hR=>?_;have hE:=hH.callable;dsimp only[cd151,qm,ql,qf,qi,qb,qc,qp,qv,qN,qT,qF,qt]at hQ ⊢
   all_goals repeat' (first|refine zaa [0,1,2,3,4,5,6,8,9,10,11,34,36] fun K hK=>?_|refine AWp.block ?_|(refine hK.go ?_;clear hK K)|refine Cont.go (by assumption) ?_|(refine cnd2 rfl (fun h=>?_) (fun h=>?_)<;>(try first|exact h.elim|obtain rfl:(_:Bool)=true:=h|obtain rfl:(_:Bool)=false:=h)<;>first|(exfalso;omega)|skip)|((first|refine AWp.reg hE hM ?_|refine AWp.regd hE hM ?_|refine AWp.ret ?_|refine AWp.skip ?_|refine AWp.exit ?_|(refine pk2 (fun h=>?_) (fun h=>?_)<;>(try first|exact h.elim|obtain rfl:(_:Bool)=true:=h|obtain rfl:(_:Bool)=false:=h))|refine zab (fun h=>?_) ?_|refine zac hM (c0) ?_|(refine hQ _ _ _ rfl ?_;clear hQ hR hE hM)|(refine hR _ _ (hQ _ _ _ rfl ?_);clear hQ hR hE hM)|(refine zaf ?_ ?_;focus first|omega|(refine zad ?_;(refine no_implicit_lambda% (st ?_);try with_reducible exact True.intro);done)))<;>try (refine no_implicit_lambda% (st ?_);try with_reducible exact True.intro)))
   all_goals first|rfl|(exfalso;contradiction)|(exfalso;omega)
end Go.Lev
namespace Go.Lev
open Go.Eng
theorem ask_same {p:Pln} {s s':State} (h:zan p s=0) (h':zan p s'=0) (hl:s'.locks=s.locks) {n:Int} (h0:0≤n):nth (zaw p s').2.1 n.toNat=nth (zaw p s).2.1 n.toNat:=by
 have hz:zof p s'=zof p s:=by unfold zof;rw[hl]
 rcases zo2 h h0 with ⟨z,hz1,a,ha,e1,e,_⟩|⟨h1,e⟩
 ·rw[e,←e1];exact zl4 h' (by rw[hz];exact hz1) ha
 ·rw[e];exact ask_no h' h0 (by rw[hz];exact h1)
theorem ziJ {p:Pln} {s:State} {n:Int}:zd4 p s n=0↔MayCall p s n:=by
 constructor
 ·intro h
  unfold zd4 at h
  split at h
  ·rename_i h1
   split at h
   ·rename_i h2
    split at h
    ·rename_i h3
     split at h
     ·rename_i h4;exact ⟨h1,h2,h3,h4⟩
     ·cases h
    ·cases h
   ·cases h
  ·rename_i h1;exact absurd h h1
 ·rintro ⟨h1,h2,h3,h4⟩
  unfold zd4
  rw[if_pos h1,if_pos h2,if_pos h3,if_pos h4]
theorem zda {p:Pln} {s:State} {n v:Int}:zby p s n v=0↔MayCall p s n∧(v=1∨v=2):=by
 constructor
 ·intro h
  have:=zl2 h
  exact ⟨ziJ.1 this.2.2.2,this.2.2.1⟩
 ·rintro ⟨h1,h2⟩
  unfold zby
  rw[if_pos h1.st,if_pos h1.pt,if_pos h2]
  exact ziJ.2 h1
theorem ziI {p:Pln} {s:State} {n v:Int} (h:MayCall p s n) (hv:v=1∨v=2) (m:Int):zd4 p (zdv s n v) m=zd4 p s m:=by
 have h1:=h.code hv
 unfold zd4
 rw[if_pos h.st,if_pos h1]
 cases hm:zcx p m with
 |false=>rfl
 |true =>
  have:=zg8 (zaA h.st) hm
  rw[if_pos rfl,if_pos rfl,ask_same h.st h1 rfl this.1]
  rfl
theorem zhx {p:Pln} {s:State} {n v:Int} (h:MayCall p s n) (hv:v=1∨v=2) (m w:Int):zby p (zdv s n v) m w=zby p s m w:=by
 unfold zby
 rw[if_pos h.st,if_pos (h.code hv),ziI h hv]
theorem zgx (s:State) (n v w:Int):zdv (zdv s n v) n w=zdv s n w:=by
 unfold zdv
 rw[znb Switch.id n (fun t=>⟨t.id,t.lie,v⟩) (fun t=>⟨t.id,t.lie,w⟩) (fun _=>rfl) (fun _=>rfl)]
theorem znv (s:State) {n m:Int} (h:n≠m) (v w:Int):zdv (zdv s n v) m w=zdv (zdv s m w) n v:=by
 unfold zdv
 rw[znc Switch.id h (fun t=>⟨t.id,t.lie,v⟩) (fun t=>⟨t.id,t.lie,w⟩) (fun _=>rfl) (fun _=>rfl)]
theorem zna {α:Type} (f:α→Int) (n:Int) (g:α→α) (l:List α) (h:∀ x∈l,f x=n→g x=x):zcm f n g l=l:=by
 unfold zcm
 conv=>rhs;rw[←List.map_id l]
 refine List.map_congr_left fun x hx=>?_
 split
 ·rename_i e;exact h x hx e
 ·rfl
theorem setC_was {s:State} (hn:(s.switches.map Switch.id).Nodup) {k:Nat} (hk:k<s.switches.length):zdv s (nth s.switches k).id (nth s.switches k).call=s:=by
 unfold zdv
 rw[zna]
 intro x hx e
 obtain ⟨j,hj,rfl⟩:=zez hx
 obtain rfl:=zkR Switch.id hn hj hk e
 rfl
end Go.Lev
namespace Go.Lev
open Go.Eng
theorem zlN {p:Pln} {n:Int} (h:zcx p n=true):∃ k,k<p.points.length∧(nth p.points k).id=n:=by
 obtain ⟨x,hx,e⟩:=List.any_eq_true.1 h
 obtain ⟨k,hk,rfl⟩:=zez hx
 exact ⟨k,hk,by simpa using e⟩
theorem zlS {p:Pln} {s:State} (ho:OkP p) (h:zar p s=true) {i:Nat} (hi:i<p.points.length):zfn s (nth p.points i).sec=0↔∀ k,k<s.tracks.length→(nth s.tracks k).id=(nth p.points i).sec→(nth s.tracks k).is=0:=by
 obtain ⟨t,ht,et⟩:=znd h (zkL ho (zal hi))
 obtain ⟨m,hm,rfl⟩:=zez ht
 constructor
 ·intro e k hk hid
  rw[←zg9 ho h hk,hid];exact e
 ·intro e
  rw[←et,zg9 ho h hm]
  exact e m hm et
theorem peF_true {p:Pln} {s:State} {n:Int} (hst:zan p s=0):peF p s n (zd4 p s n) (nth (zaw p s).2.1 n.toNat) (zby p s n 2) (zd4 p (zds p s n 2) n)=true:=by
 have ho:=zaA hst
 have hpa:=(zaj hst).2.1
 unfold peF
 refine zbp (·=true) (fun k _=>∀ j,j<k→¬(nth p.points j).id=n) (fun j hj=>by omega) ?_ ?_
 ·intro i _ zcw hi hI hn
  by_cases hid:(nth p.points i).id=n
  ·have hp:zcx p n=true:=by rw[←hid];exact ze4 hi
   have hsec:zbU p n=(nth p.points i).sec:=by rw[←hid];exact zc6 ho hi
   have hmay:zd4 p s n=if nth (zaw p s).2.1 n.toNat=0 then (if zfn s (nth p.points i).sec=0 then 0 else 171) else 170:=by
    unfold zd4;rw[if_pos hst,if_pos hp,hsec]
   rw[decide_eq_true hid,Bool.not_true,cond_false]
   by_cases ha:nth (zaw p s).2.1 n.toNat=0
   ·rw[decide_eq_true ha,Bool.not_true,cond_false]
    rw[if_pos ha]at hmay
    refine zbp (·=true) (fun k _=>∀ j,j<k→(nth s.tracks j).id=(nth p.points i).sec→(nth s.tracks j).is=0) (fun j hj=>by omega) ?_ ?_
    ·intro k _ next2 hk hK hn2
     by_cases h1:(nth s.tracks k).id=(nth p.points i).sec∧¬(nth s.tracks k).is=0
     ·rw[decide_eq_true h1.1,decide_eq_false h1.2,Bool.not_false,Bool.and_true,cond_true]
      rw[if_neg (fun h=>h1.2 ((zlS ho hpa hi).1 h k hk h1.1))]at hmay
      rw[hmay];rfl
     ·have:(decide ((nth s.tracks k).id=(nth p.points i).sec)&&!decide ((nth s.tracks k).is=0))=false:=by
       by_cases h2:(nth s.tracks k).id=(nth p.points i).sec
       ·by_cases h3:(nth s.tracks k).is=0
        ·simp[h3]
        ·exact absurd ⟨h2,h3⟩ h1
       ·simp[h2]
      rw[this,cond_false]
      refine hn2 () fun j hj e=>?_
      rcases Nat.lt_or_ge j k with h|h
      ·exact hK j h e
      ·obtain rfl:j=k:=by omega
       rcases Classical.em ((nth s.tracks j).is=0) with h4|h4
       ·exact h4
       ·exact absurd ⟨e,h4⟩ h1
    ·intro _ hK
     rw[if_pos ((zlS ho hpa hi).2 hK)]at hmay
     have hm:=ziJ.1 hmay
     have h2:zby p s n 2=0:=zda.2 ⟨hm,.inr rfl⟩
     rw[hmay,h2,show zds p s n 2=zdv s n 2 by unfold zds;rw[if_pos h2],ziI hm (.inr rfl),hmay]
     rfl
   ·rw[decide_eq_false ha,Bool.not_false,cond_true]
    rw[if_neg ha]at hmay
    rw[hmay];rfl
  ·rw[decide_eq_false hid,Bool.not_false,cond_true]
   refine hn () fun j hj=>?_
   rcases Nat.lt_or_ge j i with h|h
   ·exact hI j h
   ·obtain rfl:j=i:=by omega
    exact hid
 ·intro _ hI
  have:zd4 p s n=6:=by
   unfold zd4
   rw[if_pos hst,if_neg]
   intro h
   obtain ⟨k,hk,e⟩:=zlN h
   exact hI k hk e
  rw[this];rfl
theorem pfF_true {p:Pln} {s:State} {n v:Int} (hst:zan p s=0) (he:¬zby p s n v=0):pfF p s n v (zby p s n v) (zcI p s n).1 (zcI p s n).2=true:=by
 have ho:=zaA hst
 have hpa:=(zaj hst).2.1
 unfold pfF
 refine zbp (·=true) (fun i (st:Bool×Int)=>(st.1=true→∃ j,j<p.points.length∧(nth p.points j).id=n∧∃ k,k<s.tracks.length∧(nth s.tracks k).id=(nth p.points j).sec∧(nth s.tracks k).is=0)∧(0≤st.2→zcx p n=true)) ⟨fun h=>(by cases h),fun h=>(by exfalso;revert h;decide)⟩ ?_ ?_
 ·intro i st zcw hi hI hn
  by_cases hid:(nth p.points i).id=n
  ·rw[decide_eq_true hid,Bool.not_true,cond_false]
   refine zbp (·=true) (fun k (fr:Bool)=>fr=true→∃ j,j<p.points.length∧(nth p.points j).id=n∧∃ k,k<s.tracks.length∧(nth s.tracks k).id=(nth p.points j).sec∧(nth s.tracks k).is=0) hI.1 ?_ ?_
   ·intro k fr next2 hk hK hn2
    refine hn2 _ fun h=>?_
    simp only[Bool.or_eq_true,Bool.and_eq_true,decide_eq_true_eq]at h
    rcases h with h|h
    ·exact hK h
    ·exact ⟨i,hi,hid,k,hk,h.1,h.2⟩
   ·intro fr hK
    exact hn _ ⟨hK,fun _=>by rw[←hid];exact ze4 hi⟩
  ·rw[decide_eq_false hid,Bool.not_false,cond_true]
   exact hn st hI
 ·intro st hI
  have:(decide (0≤st.2)&&(decide (v=1)||decide (v=2))&&decide ((zcI p s n).2=0)&&decide ((zcI p s n).1=0)&&st.1)=false:=by
   rw[Bool.eq_false_iff]
   intro h
   simp only[Bool.and_eq_true,Bool.or_eq_true,decide_eq_true_eq]at h
   obtain ⟨⟨⟨⟨h1,h2⟩,_⟩,h3⟩,h4⟩:=h
   have hp:=hI.2 h1
   obtain ⟨j,hj,hid,k,hk,e1,e2⟩:=hI.1 h4
   refine he (zda.2 ⟨⟨hst,hp, ?_, ?_⟩,h2⟩)
   ·unfold zcI at h3;rw[if_pos hst,if_pos hp]at h3;exact h3
   ·rw[←hid,zc6 ho hj,←e1,zg9 ho hpa hk];exact e2
  rw[this,decide_eq_false he]
  rfl
end Go.Lev
namespace Go.Lev
open Go.Eng
set_option maxRecDepth 10000
set_option maxHeartbeats 4000000
variable {P:Program} {inv:Nat→Option Nat} {w0:World} {M:Nat→Prop}
theorem smB:Sm zgS:=⟨by decide,by decide,by decide,by decide,by decide,by decide⟩
theorem smSB:SmS stB:=⟨by decide,by decide,by decide⟩
theorem smSB2:SmS stB2:=⟨by decide,by decide,by decide⟩
theorem okB:zbm zgS=true:=by decide +kernel
theorem atB:atR zgS=stB:=by decide +kernel
theorem soundB:zbt zgS=0:=by unfold zbt;rw[if_pos okB]
theorem secB:zes zgS stB 2 0=0:=by decide +kernel
theorem setB:secR zgS stB 2 0=stB2:=by decide +kernel
theorem calB:zby zgS stB2 5 2=0:=by decide +kernel
theorem calB2:zds zgS stB2 5 2=stB3:=by decide +kernel
theorem znP (hH:HasAll P inv):PC P inv 150 [] (·=.agg zgS.c):=by
 have h:PC P inv 150 [] (·=.agg [.n 1,.n 0,.sl 3 (zgS.sections.map Section.c),.sl 2 (zgS.points.map Pnt.c),.sl 3 (zgS.signals.map Sgn.c),.sl 7 [[.n 1,.n 1,.n 0,.sl 1 [[.n 2],[.n 3]],.s0 1,.s0 2,.n 3]]]):=by
  refine zae (F:=cd150) (hH.has _ _ rfl) (Nat.le_of_ble_eq_true rfl) fun w0 M Q hM hQ hR=>?_;have hE:=hH.callable;dsimp only[cd150,qm,ql,qf,qi,qb,qc,qp,qv,qN,qT,qF,qt]at hQ ⊢
  repeat' (first|refine zaa [0] fun K hK=>?_|refine AWp.block ?_|(refine hK.go ?_;clear hK K)|refine Cont.go (by assumption) ?_|(refine cnd2 rfl (fun h=>?_) (fun h=>?_)<;>(try first|exact h.elim|obtain rfl:(_:Bool)=true:=h|obtain rfl:(_:Bool)=false:=h)<;>first|(exfalso;omega)|skip)|((first|refine AWp.reg hE hM ?_|refine AWp.regd hE hM ?_|refine AWp.ret ?_|refine AWp.skip ?_|refine AWp.exit ?_|(refine pk2 (fun h=>?_) (fun h=>?_)<;>(try first|exact h.elim|obtain rfl:(_:Bool)=true:=h|obtain rfl:(_:Bool)=false:=h))|refine zab (fun h=>?_) ?_|(refine hQ _ _ _ rfl ?_;clear hQ hR hE hM)|(refine hR _ _ (hQ _ _ _ rfl ?_);clear hQ hR hE hM)|(refine zaf ?_ ?_;focus first|omega|(refine zad ?_;(refine no_implicit_lambda% (st ?_);try with_reducible exact True.intro);done)))<;>try (refine no_implicit_lambda% (st ?_);try with_reducible exact True.intro)))
  rfl
 exact h.nzr
theorem zfP (hH:HasAll P inv) (hI:HasIds P inv):PC P inv 152 [] (·=.b true):=by
 have c0:=znP hH
 have c1:=sAt_pc hH hI zgS smB
 rw[atB,soundB]at c1
 have c2:=sec_pc hH hI zgS smB stB smSB 2 0
 rw[setB,secB]at c2
 have c3:=zcS hH hI zgS smB stB2 smSB2 (by decide) 5 2
 rw[calB,calB2]at c3
 unfold stB at c1 c2
 unfold stB2 at c2 c3
 unfold stB3 at c3
 refine zae (F:=cd152) (hH.has _ _ rfl) (Nat.le_of_ble_eq_true rfl) fun w0 M Q hM hQ hR=>?_;have hE:=hH.callable;dsimp only[cd152,qm,ql,qf,qi,qb,qc,qp,qv,qN,qT,qF,qt]at hQ ⊢
 repeat' (first|refine zaa [0,1,2,3,4,5,14] fun K hK=>?_|refine AWp.block ?_|(refine hK.go ?_;clear hK K)|refine Cont.go (by assumption) ?_|(refine cnd2 rfl (fun h=>?_) (fun h=>?_)<;>(try first|exact h.elim|obtain rfl:(_:Bool)=true:=h|obtain rfl:(_:Bool)=false:=h)<;>first|(exfalso;omega)|skip)|((first|refine AWp.reg hE hM ?_|refine AWp.regd hE hM ?_|refine AWp.ret ?_|refine AWp.skip ?_|refine AWp.exit ?_|(refine pk2 (fun h=>?_) (fun h=>?_)<;>(try first|exact h.elim|obtain rfl:(_:Bool)=true:=h|obtain rfl:(_:Bool)=false:=h))|refine zab (fun h=>?_) ?_|refine zac hM (c0) ?_|refine zcV hM ( c0) ?_|refine zac hM (c1) ?_|refine zcV hM ( c1) ?_|refine zac hM (c2) ?_|refine zcV hM ( c2) ?_|refine zac hM (c3) ?_|refine zcV hM ( c3) ?_|(refine hQ _ _ _ rfl ?_;clear hQ hR hE hM)|(refine hR _ _ (hQ _ _ _ rfl ?_);clear hQ hR hE hM)|(refine zaf ?_ ?_;focus first|omega|(refine zad ?_;(refine no_implicit_lambda% (st ?_);try with_reducible exact True.intro);done)))<;>try (refine no_implicit_lambda% (st ?_);try with_reducible exact True.intro)))
 all_goals first|rfl|exact hF|(exfalso;contradiction)|skip
theorem callR_sm (p:Pln) {s:State} (h:SmS s) (n v:Int):SmS (zds p s n v):=by
 unfold zds
 split
 ·exact ⟨h.1,by unfold zdv;dsimp only;rw[zbr];exact h.2.1,h.2.2⟩
 ·exact ⟨by decide,by decide,by decide⟩
theorem callR_u8 {p:Pln} {s:State} (h:∀ t∈s.tracks,0≤t.is) (n v:Int):∀ t∈(zds p s n v).tracks,0≤t.is:=by
 unfold zds
 split
 ·exact h
 ·intro t ht;cases ht
theorem tr_u8 {s:State} (hs:s.ok):∀ t∈s.tracks,0≤t.is:=fun t ht=>(hs.1.2 t ht).2.1
theorem pointErrors_pc (hH:HasAll P inv) (hI:HasIds P inv) (p:Pln) (hp:Pln.ok p) (s:State) (hs:s.ok) (n:Int):PC P inv 319 [.agg p.c,.agg s.c,.n n] (·=.b true):=by
 have c0:=zfP hH hI
 have c1:=zcq hH p
 have c2:=zdE hH s
 cases g1:zfa p with
 |true =>
  rw[g1]at c1
  refine zae (F:=cd319) (hH.has _ _ rfl) (Nat.le_of_ble_eq_true rfl) fun w0 M Q hM hQ hR=>?_;have hE:=hH.callable;dsimp only[cd319,qm,ql,qf,qi,qb,qc,qp,qv,qN,qT,qF,qt]at hQ ⊢
  repeat' (first|refine zaa [0,1,2,3,4,6,7,8,9,10,11,12,13,14,31,41,51,60,62,72,96] fun K hK=>?_|refine AWp.block ?_|(refine hK.go ?_;clear hK K)|refine Cont.go (by assumption) ?_|(refine cnd2 rfl (fun h=>?_) (fun h=>?_)<;>(try first|exact h.elim|obtain rfl:(_:Bool)=true:=h|obtain rfl:(_:Bool)=false:=h)<;>first|(exfalso;omega)|skip)|((first|refine AWp.reg hE hM ?_|refine AWp.regd hE hM ?_|refine AWp.ret ?_|refine AWp.skip ?_|refine AWp.exit ?_|(refine pk2 (fun h=>?_) (fun h=>?_)<;>(try first|exact h.elim|obtain rfl:(_:Bool)=true:=h|obtain rfl:(_:Bool)=false:=h))|refine zab (fun h=>?_) ?_|refine zac hM (c0) ?_|refine zac hM (c1) ?_|(refine hQ _ _ _ rfl ?_;clear hQ hR hE hM)|(refine hR _ _ (hQ _ _ _ rfl ?_);clear hQ hR hE hM)|(refine zaf ?_ ?_;focus first|omega|(refine zad ?_;(refine no_implicit_lambda% (st ?_);try with_reducible exact True.intro);done)))<;>try (refine no_implicit_lambda% (st ?_);try with_reducible exact True.intro)))
 |false =>
  rw[g1]at c1
  cases g2:zf7 s with
  |true =>
   rw[g2]at c2
   refine zae (F:=cd319) (hH.has _ _ rfl) (Nat.le_of_ble_eq_true rfl) fun w0 M Q hM hQ hR=>?_;have hE:=hH.callable;dsimp only[cd319,qm,ql,qf,qi,qb,qc,qp,qv,qN,qT,qF,qt]at hQ ⊢
   repeat' (first|refine zaa [0,1,2,3,4,6,7,8,9,10,11,12,13,14,31,41,51,60,62,72,96] fun K hK=>?_|refine AWp.block ?_|(refine hK.go ?_;clear hK K)|refine Cont.go (by assumption) ?_|(refine cnd2 rfl (fun h=>?_) (fun h=>?_)<;>(try first|exact h.elim|obtain rfl:(_:Bool)=true:=h|obtain rfl:(_:Bool)=false:=h)<;>first|(exfalso;omega)|skip)|((first|refine AWp.reg hE hM ?_|refine AWp.regd hE hM ?_|refine AWp.ret ?_|refine AWp.skip ?_|refine AWp.exit ?_|(refine pk2 (fun h=>?_) (fun h=>?_)<;>(try first|exact h.elim|obtain rfl:(_:Bool)=true:=h|obtain rfl:(_:Bool)=false:=h))|refine zab (fun h=>?_) ?_|refine zac hM (c0) ?_|refine zac hM (c1) ?_|refine zac hM (c2) ?_|(refine hQ _ _ _ rfl ?_;clear hQ hR hE hM)|(refine hR _ _ (hQ _ _ _ rfl ?_);clear hQ hR hE hM)|(refine zaf ?_ ?_;focus first|omega|(refine zad ?_;(refine no_implicit_lambda% (st ?_);try with_reducible exact True.intro);done)))<;>try (refine no_implicit_lambda% (st ?_);try with_reducible exact True.intro)))
  |false =>
   rw[g2]at c2
   have sp:=zno hp g1
   have ss:=zjl g2
   have c3:=zb5 hH hI p sp s ss
   by_cases hst:zan p s=0
   ·rw[hst]at c3
    have h8:=tr_u8 hs
    have c4:=zfD hH hI p sp s ss h8 n
    have c5:=zcS hH hI p sp s ss h8 n 2
    have c6:=zfD hH hI p sp (zds p s n 2) (callR_sm p ss n 2) (callR_u8 h8 n 2) n
    have c7:zcx p n=true→PC P inv 77 [.agg p.c,.agg s.c,.n n] (·=.tup [.n (nth (zaw p s).2.1 n.toNat),.n 0]):=fun h=>by
     have:=zee hH hI p sp s ss n
     unfold zcI at this
     rw[if_pos hst,if_pos h]at this
     exact this
    have hF:=peF_true (p:=p) (s:=s) (n:=n) hst
    have hpt:∀ i,i<p.points.length→(nth p.points i).id=n→zcx p n=true:=fun i hi e=>by rw[←e];exact ze4 hi
    have hl1:=ss.1
    have hl2:=sp.pts
    generalize zds p s n 2=T at *
    generalize zd4 p s n=e at *
    generalize zby p s n 2=g at *
    generalize zd4 p T n=m at *
    generalize nth (zaw p s).2.1 n.toNat=a at *
    unfold peF at hF
    refine zae (F:=cd319) (hH.has _ _ rfl) (Nat.le_of_ble_eq_true rfl) fun w0 M Q hM hQ hR=>?_;have hE:=hH.callable;dsimp only[cd319,qm,ql,qf,qi,qb,qc,qp,qv,qN,qT,qF,qt]at hQ ⊢
    skip
    repeat' (first|refine zaa [0,1,2,3,4,6,7,8,9,10,11,12,13,14,31,41,51,60,62,72,96] fun K hK=>?_|refine AWp.block ?_|(refine hK.go ?_;clear hK K)|refine Cont.go (by assumption) ?_|(refine zfJ rfl (fun h0 h=>?_) (fun h0 h=>?_)<;>first|(exfalso;omega)|(first|exact h.elim|(((first|simp only[h0,cond_true,cond_false,Bool.true_or,Bool.or_true,Bool.false_or,Bool.or_false,Bool.true_and,Bool.and_true,Bool.false_and,Bool.and_false,Bool.not_true,Bool.not_false,Bool.not_not,reduceCtorEq,decide_true,decide_false,eq_self,Int.reduceEq,Nat.reduceEqDiff]at hF|skip)<;>(clear h0;try first|obtain rfl:(_:Bool)=true:=h|obtain rfl:(_:Bool)=false:=h));(try simp only[cond_true,cond_false,Bool.true_or,Bool.or_true,Bool.false_or,Bool.or_false,Bool.true_and,Bool.and_true,Bool.false_and,Bool.and_false,Bool.not_true,Bool.not_false,Bool.not_not,reduceCtorEq,decide_true,decide_false,eq_self,Int.reduceEq,Nat.reduceEqDiff]at hF))))|((first|refine AWp.reg hE hM ?_|refine AWp.regd hE hM ?_|refine AWp.ret ?_|refine AWp.skip ?_|refine AWp.exit ?_|(refine pk3 (fun h0 h=>?_) (fun h0 h=>?_)<;>(first|exact h.elim|(((first|simp only[h0,cond_true,cond_false,Bool.true_or,Bool.or_true,Bool.false_or,Bool.or_false,Bool.true_and,Bool.and_true,Bool.false_and,Bool.and_false,Bool.not_true,Bool.not_false,Bool.not_not,reduceCtorEq,decide_true,decide_false,eq_self,Int.reduceEq,Nat.reduceEqDiff]at hF|skip)<;>(clear h0;try first|obtain rfl:(_:Bool)=true:=h|obtain rfl:(_:Bool)=false:=h));(try simp only[cond_true,cond_false,Bool.true_or,Bool.or_true,Bool.false_or,Bool.or_false,Bool.true_and,Bool.and_true,Bool.false_and,Bool.and_false,Bool.not_true,Bool.not_false,Bool.not_not,reduceCtorEq,decide_true,decide_false,eq_self,Int.reduceEq,Nat.reduceEqDiff]at hF))))|refine zab (fun h=>?_) ?_|refine zac hM (c0) ?_|refine zac hM (c1) ?_|refine zac hM (c2) ?_|refine zac hM (c3) ?_|refine zac hM (c4) ?_|(refine hQ _ _ _ rfl ?_;clear hQ hR hE hM)|(refine hR _ _ (hQ _ _ _ rfl ?_);clear hQ hR hE hM)|(refine zaf ?_ ?_;focus first|omega|(refine zad ?_;(refine no_implicit_lambda% (st ?_);try with_reducible exact True.intro);done)))<;>try (refine no_implicit_lambda% (st ?_);try with_reducible exact True.intro)))
    all_goals first|(exfalso;contradiction)|skip
    refine zbH hF fun Bd Ed hBd hEd hF=>?_;refine zah (ι:=Nat) [2,3,4,6,7,8,9] (fun zz=>[(9,.n zz)]) (fun zz=>[]) (fun zz=>zz≤p.points.length∧(zbI Bd Ed (p.points.length-zz) zz ()=true)) (fun zz=>p.points.length-zz) (0) ⟨Nat.zero_le _,(by first|rfl|assumption|omega|(simp;done)|(simp;omega)|grind)⟩ (by (try dsimp only);(refine no_implicit_lambda% (st ?_);try with_reducible exact True.intro)<;>first|omega|(simp;done)) (by (try dsimp only);(refine no_implicit_lambda% (st ?_);try with_reducible exact True.intro)<;>first|omega|(simp;done)) ?_;rintro i ⟨hk,hF⟩;(try dsimp only at hk hF ⊢);rcases Nat.lt_or_ge i p.points.length with hlt|hge
    ·rw[zbc hBd hlt]at hF;(try dsimp only at hF)
     by_cases hid:(nth p.points i).id=n
     ·have c7:=c7 (hpt i hlt hid)
      repeat' (first|refine zaa [0,1,2,3,4,6,7,8,9,10,11,12,13,14,31,41,51,60,62,72,96] fun K hK=>?_|refine AWp.block ?_|(refine hK.go ?_;clear hK K)|refine Cont.go (by assumption) ?_|(refine zfJ rfl (fun h0 h=>?_) (fun h0 h=>?_)<;>first|(exfalso;omega)|(first|exact h.elim|(((first|simp only[h0,cond_true,cond_false,Bool.true_or,Bool.or_true,Bool.false_or,Bool.or_false,Bool.true_and,Bool.and_true,Bool.false_and,Bool.and_false,Bool.not_true,Bool.not_false,Bool.not_not,reduceCtorEq,decide_true,decide_false,eq_self,Int.reduceEq,Nat.reduceEqDiff]at hF|skip)<;>(clear h0;try first|obtain rfl:(_:Bool)=true:=h|obtain rfl:(_:Bool)=false:=h));(try simp only[cond_true,cond_false,Bool.true_or,Bool.or_true,Bool.false_or,Bool.or_false,Bool.true_and,Bool.and_true,Bool.false_and,Bool.and_false,Bool.not_true,Bool.not_false,Bool.not_not,reduceCtorEq,decide_true,decide_false,eq_self,Int.reduceEq,Nat.reduceEqDiff]at hF))))|((first|refine AWp.reg hE hM ?_|refine AWp.regd hE hM ?_|refine AWp.ret ?_|refine AWp.skip ?_|refine AWp.exit ?_|(refine pk3 (fun h0 h=>?_) (fun h0 h=>?_)<;>(first|exact h.elim|(((first|simp only[h0,cond_true,cond_false,Bool.true_or,Bool.or_true,Bool.false_or,Bool.or_false,Bool.true_and,Bool.and_true,Bool.false_and,Bool.and_false,Bool.not_true,Bool.not_false,Bool.not_not,reduceCtorEq,decide_true,decide_false,eq_self,Int.reduceEq,Nat.reduceEqDiff]at hF|skip)<;>(clear h0;try first|obtain rfl:(_:Bool)=true:=h|obtain rfl:(_:Bool)=false:=h));(try simp only[cond_true,cond_false,Bool.true_or,Bool.or_true,Bool.false_or,Bool.or_false,Bool.true_and,Bool.and_true,Bool.false_and,Bool.and_false,Bool.not_true,Bool.not_false,Bool.not_not,reduceCtorEq,decide_true,decide_false,eq_self,Int.reduceEq,Nat.reduceEqDiff]at hF))))|refine zab (fun h=>?_) ?_|refine zac hM (c7) ?_|(refine hQ _ _ _ rfl ?_;clear hQ hR hE hM)|(refine hR _ _ (hQ _ _ _ rfl ?_);clear hQ hR hE hM)|(refine zaf ?_ ?_;focus first|omega|(refine zad ?_;(refine no_implicit_lambda% (st ?_);try with_reducible exact True.intro);done)))<;>try (refine no_implicit_lambda% (st ?_);try with_reducible exact True.intro)))
      all_goals first|rfl|exact hF|(exfalso;contradiction)|skip
      refine zbH hF fun Bd Ed hBd hEd hF=>?_;refine zah (ι:=Nat) [2,3,4,6,7,8,9,12] (fun zz=>[(12,.n zz)]) (fun zz=>[]) (fun zz=>zz≤s.tracks.length∧(zbI Bd Ed (s.tracks.length-zz) zz ()=true)) (fun zz=>s.tracks.length-zz) (0) ⟨Nat.zero_le _,(by first|rfl|assumption|omega|(simp;done)|(simp;omega)|grind)⟩ (by (try dsimp only);(refine no_implicit_lambda% (st ?_);try with_reducible exact True.intro)<;>first|omega|(simp;done)) (by (try dsimp only);(refine no_implicit_lambda% (st ?_);try with_reducible exact True.intro)<;>first|omega|(simp;done)) ?_;rintro k ⟨hk,hF⟩;(try dsimp only at hk hF ⊢);rcases Nat.lt_or_ge k s.tracks.length with hlt|hge
      ·rw[zbc hBd hlt]at hF;(try dsimp only at hF)
       repeat' (first|refine zaa [0,1,2,3,4,6,7,8,9,10,11,12,13,14,31,41,51,60,62,72,96] fun K hK=>?_|refine AWp.block ?_|(refine hK.go ?_;clear hK K)|refine Cont.go (by assumption) ?_|(refine zfJ rfl (fun h0 h=>?_) (fun h0 h=>?_)<;>first|(exfalso;omega)|(first|exact h.elim|(((first|simp only[h0,cond_true,cond_false,Bool.true_or,Bool.or_true,Bool.false_or,Bool.or_false,Bool.true_and,Bool.and_true,Bool.false_and,Bool.and_false,Bool.not_true,Bool.not_false,Bool.not_not,reduceCtorEq,decide_true,decide_false,eq_self,Int.reduceEq,Nat.reduceEqDiff]at hF|skip)<;>(clear h0;try first|obtain rfl:(_:Bool)=true:=h|obtain rfl:(_:Bool)=false:=h));(try simp only[cond_true,cond_false,Bool.true_or,Bool.or_true,Bool.false_or,Bool.or_false,Bool.true_and,Bool.and_true,Bool.false_and,Bool.and_false,Bool.not_true,Bool.not_false,Bool.not_not,reduceCtorEq,decide_true,decide_false,eq_self,Int.reduceEq,Nat.reduceEqDiff]at hF))))|((first|refine AWp.reg hE hM ?_|refine AWp.regd hE hM ?_|refine AWp.ret ?_|refine AWp.skip ?_|refine AWp.exit ?_|(refine pk3 (fun h0 h=>?_) (fun h0 h=>?_)<;>(first|exact h.elim|(((first|simp only[h0,cond_true,cond_false,Bool.true_or,Bool.or_true,Bool.false_or,Bool.or_false,Bool.true_and,Bool.and_true,Bool.false_and,Bool.and_false,Bool.not_true,Bool.not_false,Bool.not_not,reduceCtorEq,decide_true,decide_false,eq_self,Int.reduceEq,Nat.reduceEqDiff]at hF|skip)<;>(clear h0;try first|obtain rfl:(_:Bool)=true:=h|obtain rfl:(_:Bool)=false:=h));(try simp only[cond_true,cond_false,Bool.true_or,Bool.or_true,Bool.false_or,Bool.or_false,Bool.true_and,Bool.and_true,Bool.false_and,Bool.and_false,Bool.not_true,Bool.not_false,Bool.not_not,reduceCtorEq,decide_true,decide_false,eq_self,Int.reduceEq,Nat.reduceEqDiff]at hF))))|refine zab (fun h=>?_) ?_|(refine hQ _ _ _ rfl ?_;clear hQ hR hE hM)|(refine hR _ _ (hQ _ _ _ rfl ?_);clear hQ hR hE hM)|(refine zaf ?_ ?_;focus first|omega|(refine zad ?_;(refine no_implicit_lambda% (st ?_);try with_reducible exact True.intro);done)))<;>try (refine no_implicit_lambda% (st ?_);try with_reducible exact True.intro)))
       all_goals first|(exfalso;contradiction)|exact hF|(refine ⟨k+1, ?_,⟨?_,hF⟩, ?_⟩<;>(try dsimp only)<;>(first|omega|rfl|(simp;done)|(simp;omega)|((refine no_implicit_lambda% (st ?_);try with_reducible exact True.intro);done)|(simp[List.map_set, *];done)|(simp[List.map_set, *];rfl)|((refine no_implicit_lambda% (st ?_);try with_reducible exact True.intro);simp[List.map_set, *];done)|((try (refine no_implicit_lambda% (st ?_);try with_reducible exact True.intro));(repeat' refine And.intro ?_ ?_)<;>first|omega|rfl|(simp;done)|(simp;omega)|(simp;rfl)|(simp[List.map_set, *];done)|(simp[List.map_set, *];rfl))))
      ·rw[zbG hge,hEd]at hF;(try dsimp only at hF)
       repeat' (first|refine zaa [0,1,2,3,4,6,7,8,9,10,11,12,13,14,31,41,51,60,62,72,96] fun K hK=>?_|refine AWp.block ?_|(refine hK.go ?_;clear hK K)|refine Cont.go (by assumption) ?_|(refine zfJ rfl (fun h0 h=>?_) (fun h0 h=>?_)<;>first|(exfalso;omega)|(first|exact h.elim|(((first|simp only[h0,cond_true,cond_false,Bool.true_or,Bool.or_true,Bool.false_or,Bool.or_false,Bool.true_and,Bool.and_true,Bool.false_and,Bool.and_false,Bool.not_true,Bool.not_false,Bool.not_not,reduceCtorEq,decide_true,decide_false,eq_self,Int.reduceEq,Nat.reduceEqDiff]at hF|skip)<;>(clear h0;try first|obtain rfl:(_:Bool)=true:=h|obtain rfl:(_:Bool)=false:=h));(try simp only[cond_true,cond_false,Bool.true_or,Bool.or_true,Bool.false_or,Bool.or_false,Bool.true_and,Bool.and_true,Bool.false_and,Bool.and_false,Bool.not_true,Bool.not_false,Bool.not_not,reduceCtorEq,decide_true,decide_false,eq_self,Int.reduceEq,Nat.reduceEqDiff]at hF))))|((first|refine AWp.reg hE hM ?_|refine AWp.regd hE hM ?_|refine AWp.ret ?_|refine AWp.skip ?_|refine AWp.exit ?_|(refine pk3 (fun h0 h=>?_) (fun h0 h=>?_)<;>(first|exact h.elim|(((first|simp only[h0,cond_true,cond_false,Bool.true_or,Bool.or_true,Bool.false_or,Bool.or_false,Bool.true_and,Bool.and_true,Bool.false_and,Bool.and_false,Bool.not_true,Bool.not_false,Bool.not_not,reduceCtorEq,decide_true,decide_false,eq_self,Int.reduceEq,Nat.reduceEqDiff]at hF|skip)<;>(clear h0;try first|obtain rfl:(_:Bool)=true:=h|obtain rfl:(_:Bool)=false:=h));(try simp only[cond_true,cond_false,Bool.true_or,Bool.or_true,Bool.false_or,Bool.or_false,Bool.true_and,Bool.and_true,Bool.false_and,Bool.and_false,Bool.not_true,Bool.not_false,Bool.not_not,reduceCtorEq,decide_true,decide_false,eq_self,Int.reduceEq,Nat.reduceEqDiff]at hF))))|refine zab (fun h=>?_) ?_|refine zac hM (c5) ?_|refine zac hM (c6) ?_|(refine hQ _ _ _ rfl ?_;clear hQ hR hE hM)|(refine hR _ _ (hQ _ _ _ rfl ?_);clear hQ hR hE hM)|(refine zaf ?_ ?_;focus first|omega|(refine zad ?_;(refine no_implicit_lambda% (st ?_);try with_reducible exact True.intro);done)))<;>try (refine no_implicit_lambda% (st ?_);try with_reducible exact True.intro)))
       all_goals first|rfl|exact hF|(exfalso;contradiction)|skip
     ·repeat' (first|refine zaa [0,1,2,3,4,6,7,8,9,10,11,12,13,14,31,41,51,60,62,72,96] fun K hK=>?_|refine AWp.block ?_|(refine hK.go ?_;clear hK K)|refine Cont.go (by assumption) ?_|(refine zfJ rfl (fun h0 h=>?_) (fun h0 h=>?_)<;>first|(exfalso;omega)|(first|exact h.elim|(((first|simp only[h0,cond_true,cond_false,Bool.true_or,Bool.or_true,Bool.false_or,Bool.or_false,Bool.true_and,Bool.and_true,Bool.false_and,Bool.and_false,Bool.not_true,Bool.not_false,Bool.not_not,reduceCtorEq,decide_true,decide_false,eq_self,Int.reduceEq,Nat.reduceEqDiff]at hF|skip)<;>(clear h0;try first|obtain rfl:(_:Bool)=true:=h|obtain rfl:(_:Bool)=false:=h));(try simp only[cond_true,cond_false,Bool.true_or,Bool.or_true,Bool.false_or,Bool.or_false,Bool.true_and,Bool.and_true,Bool.false_and,Bool.and_false,Bool.not_true,Bool.not_false,Bool.not_not,reduceCtorEq,decide_true,decide_false,eq_self,Int.reduceEq,Nat.reduceEqDiff]at hF))))|((first|refine AWp.reg hE hM ?_|refine AWp.regd hE hM ?_|refine AWp.ret ?_|refine AWp.skip ?_|refine AWp.exit ?_|(refine pk3 (fun h0 h=>?_) (fun h0 h=>?_)<;>(first|exact h.elim|(((first|simp only[h0,cond_true,cond_false,Bool.true_or,Bool.or_true,Bool.false_or,Bool.or_false,Bool.true_and,Bool.and_true,Bool.false_and,Bool.and_false,Bool.not_true,Bool.not_false,Bool.not_not,reduceCtorEq,decide_true,decide_false,eq_self,Int.reduceEq,Nat.reduceEqDiff]at hF|skip)<;>(clear h0;try first|obtain rfl:(_:Bool)=true:=h|obtain rfl:(_:Bool)=false:=h));(try simp only[cond_true,cond_false,Bool.true_or,Bool.or_true,Bool.false_or,Bool.or_false,Bool.true_and,Bool.and_true,Bool.false_and,Bool.and_false,Bool.not_true,Bool.not_false,Bool.not_not,reduceCtorEq,decide_true,decide_false,eq_self,Int.reduceEq,Nat.reduceEqDiff]at hF))))|refine zab (fun h=>?_) ?_|(refine hQ _ _ _ rfl ?_;clear hQ hR hE hM)|(refine hR _ _ (hQ _ _ _ rfl ?_);clear hQ hR hE hM)|(refine zaf ?_ ?_;focus first|omega|(refine zad ?_;(refine no_implicit_lambda% (st ?_);try with_reducible exact True.intro);done)))<;>try (refine no_implicit_lambda% (st ?_);try with_reducible exact True.intro)))
      all_goals first|(exfalso;contradiction)|exact hF|(refine ⟨i+1, ?_,⟨?_,hF⟩, ?_⟩<;>(try dsimp only)<;>(first|omega|rfl|(simp;done)|(simp;omega)|((refine no_implicit_lambda% (st ?_);try with_reducible exact True.intro);done)|(simp[List.map_set, *];done)|(simp[List.map_set, *];rfl)|((refine no_implicit_lambda% (st ?_);try with_reducible exact True.intro);simp[List.map_set, *];done)|((try (refine no_implicit_lambda% (st ?_);try with_reducible exact True.intro));(repeat' refine And.intro ?_ ?_)<;>first|omega|rfl|(simp;done)|(simp;omega)|(simp;rfl)|(simp[List.map_set, *];done)|(simp[List.map_set, *];rfl))))
    ·rw[zbG hge,hEd]at hF;(try dsimp only at hF)
     repeat' (first|refine zaa [0,1,2,3,4,6,7,8,9,10,11,12,13,14,31,41,51,60,62,72,96] fun K hK=>?_|refine AWp.block ?_|(refine hK.go ?_;clear hK K)|refine Cont.go (by assumption) ?_|(refine zfJ rfl (fun h0 h=>?_) (fun h0 h=>?_)<;>first|(exfalso;omega)|(first|exact h.elim|(((first|simp only[h0,cond_true,cond_false,Bool.true_or,Bool.or_true,Bool.false_or,Bool.or_false,Bool.true_and,Bool.and_true,Bool.false_and,Bool.and_false,Bool.not_true,Bool.not_false,Bool.not_not,reduceCtorEq,decide_true,decide_false,eq_self,Int.reduceEq,Nat.reduceEqDiff]at hF|skip)<;>(clear h0;try first|obtain rfl:(_:Bool)=true:=h|obtain rfl:(_:Bool)=false:=h));(try simp only[cond_true,cond_false,Bool.true_or,Bool.or_true,Bool.false_or,Bool.or_false,Bool.true_and,Bool.and_true,Bool.false_and,Bool.and_false,Bool.not_true,Bool.not_false,Bool.not_not,reduceCtorEq,decide_true,decide_false,eq_self,Int.reduceEq,Nat.reduceEqDiff]at hF))))|((first|refine AWp.reg hE hM ?_|refine AWp.regd hE hM ?_|refine AWp.ret ?_|refine AWp.skip ?_|refine AWp.exit ?_|(refine pk3 (fun h0 h=>?_) (fun h0 h=>?_)<;>(first|exact h.elim|(((first|simp only[h0,cond_true,cond_false,Bool.true_or,Bool.or_true,Bool.false_or,Bool.or_false,Bool.true_and,Bool.and_true,Bool.false_and,Bool.and_false,Bool.not_true,Bool.not_false,Bool.not_not,reduceCtorEq,decide_true,decide_false,eq_self,Int.reduceEq,Nat.reduceEqDiff]at hF|skip)<;>(clear h0;try first|obtain rfl:(_:Bool)=true:=h|obtain rfl:(_:Bool)=false:=h));(try simp only[cond_true,cond_false,Bool.true_or,Bool.or_true,Bool.false_or,Bool.or_false,Bool.true_and,Bool.and_true,Bool.false_and,Bool.and_false,Bool.not_true,Bool.not_false,Bool.not_not,reduceCtorEq,decide_true,decide_false,eq_self,Int.reduceEq,Nat.reduceEqDiff]at hF))))|refine zab (fun h=>?_) ?_|(refine hQ _ _ _ rfl ?_;clear hQ hR hE hM)|(refine hR _ _ (hQ _ _ _ rfl ?_);clear hQ hR hE hM)|(refine zaf ?_ ?_;focus first|omega|(refine zad ?_;(refine no_implicit_lambda% (st ?_);try with_reducible exact True.intro);done)))<;>try (refine no_implicit_lambda% (st ?_);try with_reducible exact True.intro)))
     all_goals first|rfl|exact hF|(exfalso;contradiction)|skip
   ·generalize zan p s=e at c3 hst
    refine zae (F:=cd319) (hH.has _ _ rfl) (Nat.le_of_ble_eq_true rfl) fun w0 M Q hM hQ hR=>?_;have hE:=hH.callable;dsimp only[cd319,qm,ql,qf,qi,qb,qc,qp,qv,qN,qT,qF,qt]at hQ ⊢
    repeat' (first|refine zaa [0,1,2,3,4,6,7,8,9,10,11,12,13,14,31,41,51,60,62,72,96] fun K hK=>?_|refine AWp.block ?_|(refine hK.go ?_;clear hK K)|refine Cont.go (by assumption) ?_|(refine cnd2 rfl (fun h=>?_) (fun h=>?_)<;>(try first|exact h.elim|obtain rfl:(_:Bool)=true:=h|obtain rfl:(_:Bool)=false:=h)<;>first|(exfalso;omega)|skip)|((first|refine AWp.reg hE hM ?_|refine AWp.regd hE hM ?_|refine AWp.ret ?_|refine AWp.skip ?_|refine AWp.exit ?_|(refine pk2 (fun h=>?_) (fun h=>?_)<;>(try first|exact h.elim|obtain rfl:(_:Bool)=true:=h|obtain rfl:(_:Bool)=false:=h))|refine zab (fun h=>?_) ?_|refine zac hM (c0) ?_|refine zac hM (c1) ?_|refine zac hM (c2) ?_|refine zac hM (c3) ?_|(refine hQ _ _ _ rfl ?_;clear hQ hR hE hM)|(refine hR _ _ (hQ _ _ _ rfl ?_);clear hQ hR hE hM)|(refine zaf ?_ ?_;focus first|omega|(refine zad ?_;(refine no_implicit_lambda% (st ?_);try with_reducible exact True.intro);done)))<;>try (refine no_implicit_lambda% (st ?_);try with_reducible exact True.intro)))
    all_goals first|rfl|exact hF|(exfalso;contradiction)|skip
end Go.Lev
namespace Go.Lev
open Go.Eng
set_option maxRecDepth 10000
set_option maxHeartbeats 4000000
variable {P:Program} {inv:Nat→Option Nat} {w0:World} {M:Nat→Prop}
theorem upd1_nth {α:Type} [Inhabited α] (f:α→Int) (n:Int) (g:α→α) {l:List α} {k:Nat} (h:k<l.length):nth (zcm f n g l) k=if f (nth l k)=n then g (nth l k) else nth l k:=by
 unfold zcm
 exact nthm (fun x=>if f x=n then g x else x) h
end Go.Lev
namespace Go.Lev
open Go.Eng
set_option maxRecDepth 10000
set_option maxHeartbeats 4000000
variable {P:Program} {inv:Nat→Option Nat} {w0:World} {M:Nat→Prop}
theorem sSame_sm (hH:HasAll P inv) {a b:State} (h:SmS a):PC P inv 11 [.agg a.c,.agg b.c] (·=.b (decide (a=b))):=sSame_pc hH a b (by have:=h.1;omega) (by have:=h.2.1;omega) (by have:=h.2.2;omega)
theorem zeQ (hH:HasAll P inv) {a b:State} (h:SmS a) (e:a=b):PC P inv 11 [.agg a.c,.agg b.c] (·=.b true):=by
 have:=sSame_sm hH (b:=b) h
 rw[decide_eq_true e]at this
 exact this
end Go.Lev
namespace Go.Lev
open Go.Eng
set_option maxRecDepth 10000
set_option maxHeartbeats 4000000
variable {P:Program} {inv:Nat→Option Nat} {w0:World} {M:Nat→Prop}
theorem zer {s:State} (h:SmS s) (n v:Int):SmS (zdv s n v):=⟨h.1,by unfold zdv;dsimp only;rw[zbr];exact h.2.1,h.2.2⟩
theorem zi4 (hH:HasAll P inv) (hI:HasIds P inv) {p:Pln} (hp:Sm p) {s:State} (hs:SmS s) (h8:∀ t∈s.tracks,0≤t.is) {n v:Int} (h:zby p s n v=0) {t:State} (ht:zdv s n v=t):PC P inv 151 [.agg p.c,.agg s.c,.n n,.n v] (·=.tup [.agg t.c,.n 0]):=by
 have:=zcS hH hI p hp s hs h8 n v
 unfold zds at this
 rw[if_pos h,h,ht]at this
 exact this
theorem pointTwo_pc (hH:HasAll P inv) (hI:HasIds P inv) (p:Pln) (hp:Pln.ok p) (s:State) (hs:s.ok) (a0 a1 b0 b1:Int):PC P inv 321 [.agg p.c,.agg s.c,.agg [.n a0,.n a1],.agg [.n b0,.n b1]] (·=.b true):=by
 have c0:=zfP hH hI
 have c1:=zcq hH p
 have c2:=zdE hH s
 cases g1:zfa p with
 |true =>
  rw[g1]at c1
  refine zae (F:=cd321) (hH.has _ _ rfl) (Nat.le_of_ble_eq_true rfl) fun w0 M Q hM hQ hR=>?_;have hE:=hH.callable;dsimp only[cd321,qm,ql,qf,qi,qb,qc,qp,qv,qN,qT,qF,qt]at hQ ⊢
  repeat' (first|refine zaa [0,1,2,3,4,5,6,7,8,9,10,11,12,13,14,15,16,17,28,51,76,78,80,93,98] fun K hK=>?_|refine AWp.block ?_|(refine hK.go ?_;clear hK K)|refine Cont.go (by assumption) ?_|(refine cnd2 rfl (fun h=>?_) (fun h=>?_)<;>(try first|exact h.elim|obtain rfl:(_:Bool)=true:=h|obtain rfl:(_:Bool)=false:=h)<;>first|(exfalso;omega)|skip)|((first|refine AWp.reg hE hM ?_|refine AWp.regd hE hM ?_|refine AWp.ret ?_|refine AWp.skip ?_|refine AWp.exit ?_|(refine pk2 (fun h=>?_) (fun h=>?_)<;>(try first|exact h.elim|obtain rfl:(_:Bool)=true:=h|obtain rfl:(_:Bool)=false:=h))|refine zab (fun h=>?_) ?_|refine zac hM (c0) ?_|refine zac hM (c1) ?_|(refine hQ _ _ _ rfl ?_;clear hQ hR hE hM)|(refine hR _ _ (hQ _ _ _ rfl ?_);clear hQ hR hE hM)|(refine zaf ?_ ?_;focus first|omega|(refine zad ?_;(refine no_implicit_lambda% (st ?_);try with_reducible exact True.intro);done)))<;>try (refine no_implicit_lambda% (st ?_);try with_reducible exact True.intro)))
 |false =>
  rw[g1]at c1
  cases g2:zf7 s with
  |true =>
   rw[g2]at c2
   refine zae (F:=cd321) (hH.has _ _ rfl) (Nat.le_of_ble_eq_true rfl) fun w0 M Q hM hQ hR=>?_;have hE:=hH.callable;dsimp only[cd321,qm,ql,qf,qi,qb,qc,qp,qv,qN,qT,qF,qt]at hQ ⊢
   repeat' (first|refine zaa [0,1,2,3,4,5,6,7,8,9,10,11,12,13,14,15,16,17,28,51,76,78,80,93,98] fun K hK=>?_|refine AWp.block ?_|(refine hK.go ?_;clear hK K)|refine Cont.go (by assumption) ?_|(refine cnd2 rfl (fun h=>?_) (fun h=>?_)<;>(try first|exact h.elim|obtain rfl:(_:Bool)=true:=h|obtain rfl:(_:Bool)=false:=h)<;>first|(exfalso;omega)|skip)|((first|refine AWp.reg hE hM ?_|refine AWp.regd hE hM ?_|refine AWp.ret ?_|refine AWp.skip ?_|refine AWp.exit ?_|(refine pk2 (fun h=>?_) (fun h=>?_)<;>(try first|exact h.elim|obtain rfl:(_:Bool)=true:=h|obtain rfl:(_:Bool)=false:=h))|refine zab (fun h=>?_) ?_|refine zac hM (c0) ?_|refine zac hM (c1) ?_|refine zac hM (c2) ?_|(refine hQ _ _ _ rfl ?_;clear hQ hR hE hM)|(refine hR _ _ (hQ _ _ _ rfl ?_);clear hQ hR hE hM)|(refine zaf ?_ ?_;focus first|omega|(refine zad ?_;(refine no_implicit_lambda% (st ?_);try with_reducible exact True.intro);done)))<;>try (refine no_implicit_lambda% (st ?_);try with_reducible exact True.intro)))
  |false =>
   rw[g2]at c2
   have sp:=zno hp g1
   have ss:=zjl g2
   have h8:=tr_u8 hs
   by_cases he:zby p s a0 a1=0
   ·obtain ⟨m1,hv1⟩:=zda.1 he
    obtain ⟨A,hA⟩:∃ A,zdv s a0 a1=A:=⟨_,rfl⟩
    have sA:SmS A:=hA▸zer ss _ _
    have h8A:∀ t∈A.tracks,0≤t.is:=hA▸h8
    have k1:=zi4 hH hI sp ss h8 he hA
    have k2:=zfD hH hI p sp s ss h8 b0
    have k3:=zfD hH hI p sp A sA h8A b0
    rw[show zd4 p A b0=zd4 p s b0 by rw[←hA];exact ziI m1 hv1 b0]at k3
    have eX:zby p A b0 b1=zby p s b0 b1:=by rw[←hA];exact zhx m1 hv1 b0 b1
    by_cases hf:zby p s b0 b1=0
    ·obtain ⟨m2,hv2⟩:=zda.1 hf
     obtain ⟨B,hB⟩:∃ B,zdv s b0 b1=B:=⟨_,rfl⟩
     have sB:SmS B:=hB▸zer ss _ _
     have h8B:∀ t∈B.tracks,0≤t.is:=hB▸h8
     obtain ⟨X,hX⟩:∃ X,zdv A b0 b1=X:=⟨_,rfl⟩
     obtain ⟨Y,hY⟩:∃ Y,zdv B a0 a1=Y:=⟨_,rfl⟩
     have sX:SmS X:=hX▸zer sA _ _
     have sY:SmS Y:=hY▸zer sB _ _
     have k4:=zi4 hH hI sp ss h8 hf hB
     have k5:=zi4 hH hI sp sA h8A (eX.trans hf) hX
     have k6:=zi4 hH hI sp sB h8B (by rw[←hB,zhx m2 hv2];exact he) hY
     by_cases hab:a0=b0
     ·subst hab
      have e1:X=B:=by rw[←hX,←hA,zgx,hB]
      have e2:Y=A:=by rw[←hY,←hB,zgx,hA]
      subst e1 e2
      have k7:=zeQ hH sX (rfl:X=X)
      have k8:=zeQ hH sY (rfl:Y=Y)
      clear hA hB hX hY
      generalize zd4 p s a0=m at *
      refine zae (F:=cd321) (hH.has _ _ rfl) (Nat.le_of_ble_eq_true rfl) fun w0 M Q hM hQ hR=>?_;have hE:=hH.callable;dsimp only[cd321,qm,ql,qf,qi,qb,qc,qp,qv,qN,qT,qF,qt]at hQ ⊢
      repeat' (first|refine zaa [0,1,2,3,4,5,6,7,8,9,10,11,12,13,14,15,16,17,28,51,76,78,80,93,98] fun K hK=>?_|refine AWp.block ?_|(refine hK.go ?_;clear hK K)|refine Cont.go (by assumption) ?_|(refine cnd2 rfl (fun h=>?_) (fun h=>?_)<;>(try first|exact h.elim|obtain rfl:(_:Bool)=true:=h|obtain rfl:(_:Bool)=false:=h)<;>first|(exfalso;omega)|skip)|((first|refine AWp.reg hE hM ?_|refine AWp.regd hE hM ?_|refine AWp.ret ?_|refine AWp.skip ?_|refine AWp.exit ?_|(refine pk2 (fun h=>?_) (fun h=>?_)<;>(try first|exact h.elim|obtain rfl:(_:Bool)=true:=h|obtain rfl:(_:Bool)=false:=h))|refine zab (fun h=>?_) ?_|refine zac hM (c0) ?_|refine zac hM (c1) ?_|refine zac hM (c2) ?_|refine zac hM (k1) ?_|refine zac hM (k4) ?_|refine zac hM (k5) ?_|refine zac hM (k2) ?_|refine zac hM (k3) ?_|refine zac hM (k6) ?_|refine zac hM (k7) ?_|refine zac hM (k8) ?_|(refine hQ _ _ _ rfl ?_;clear hQ hR hE hM)|(refine hR _ _ (hQ _ _ _ rfl ?_);clear hQ hR hE hM)|(refine zaf ?_ ?_;focus first|omega|(refine zad ?_;(refine no_implicit_lambda% (st ?_);try with_reducible exact True.intro);done)))<;>try (refine no_implicit_lambda% (st ?_);try with_reducible exact True.intro)))
      all_goals first|rfl|(exfalso;contradiction)|skip
     ·have e1:X=Y:=by rw[←hX,←hY,←hA,←hB,znv s hab]
      subst e1
      have k7:=zeQ hH sX (rfl:X=X)
      clear hA hB hX hY
      generalize zd4 p s b0=m at *
      refine zae (F:=cd321) (hH.has _ _ rfl) (Nat.le_of_ble_eq_true rfl) fun w0 M Q hM hQ hR=>?_;have hE:=hH.callable;dsimp only[cd321,qm,ql,qf,qi,qb,qc,qp,qv,qN,qT,qF,qt]at hQ ⊢
      repeat' (first|refine zaa [0,1,2,3,4,5,6,7,8,9,10,11,12,13,14,15,16,17,28,51,76,78,80,93,98] fun K hK=>?_|refine AWp.block ?_|(refine hK.go ?_;clear hK K)|refine Cont.go (by assumption) ?_|(refine cnd2 rfl (fun h=>?_) (fun h=>?_)<;>(try first|exact h.elim|obtain rfl:(_:Bool)=true:=h|obtain rfl:(_:Bool)=false:=h)<;>first|(exfalso;omega)|skip)|((first|refine AWp.reg hE hM ?_|refine AWp.regd hE hM ?_|refine AWp.ret ?_|refine AWp.skip ?_|refine AWp.exit ?_|(refine pk2 (fun h=>?_) (fun h=>?_)<;>(try first|exact h.elim|obtain rfl:(_:Bool)=true:=h|obtain rfl:(_:Bool)=false:=h))|refine zab (fun h=>?_) ?_|refine zac hM (c0) ?_|refine zac hM (c1) ?_|refine zac hM (c2) ?_|refine zac hM (k1) ?_|refine zac hM (k4) ?_|refine zac hM (k5) ?_|refine zac hM (k2) ?_|refine zac hM (k3) ?_|refine zac hM (k6) ?_|refine zac hM (k7) ?_|(refine hQ _ _ _ rfl ?_;clear hQ hR hE hM)|(refine hR _ _ (hQ _ _ _ rfl ?_);clear hQ hR hE hM)|(refine zaf ?_ ?_;focus first|omega|(refine zad ?_;(refine no_implicit_lambda% (st ?_);try with_reducible exact True.intro);done)))<;>try (refine no_implicit_lambda% (st ?_);try with_reducible exact True.intro)))
      all_goals first|rfl|(exfalso;contradiction)|skip
    ·have k4:=zcS hH hI p sp s ss h8 b0 b1
     have k5:=zcS hH hI p sp A sA h8A b0 b1
     rw[eX]at k5
     generalize zds p s b0 b1=B at *
     generalize zds p A b0 b1=X at *
     generalize zby p s b0 b1=f at *
     generalize zd4 p s b0=m at *
     clear hA
     refine zae (F:=cd321) (hH.has _ _ rfl) (Nat.le_of_ble_eq_true rfl) fun w0 M Q hM hQ hR=>?_;have hE:=hH.callable;dsimp only[cd321,qm,ql,qf,qi,qb,qc,qp,qv,qN,qT,qF,qt]at hQ ⊢
     repeat' (first|refine zaa [0,1,2,3,4,5,6,7,8,9,10,11,12,13,14,15,16,17,28,51,76,78,80,93,98] fun K hK=>?_|refine AWp.block ?_|(refine hK.go ?_;clear hK K)|refine Cont.go (by assumption) ?_|(refine cnd2 rfl (fun h=>?_) (fun h=>?_)<;>(try first|exact h.elim|obtain rfl:(_:Bool)=true:=h|obtain rfl:(_:Bool)=false:=h)<;>first|(exfalso;omega)|skip)|((first|refine AWp.reg hE hM ?_|refine AWp.regd hE hM ?_|refine AWp.ret ?_|refine AWp.skip ?_|refine AWp.exit ?_|(refine pk2 (fun h=>?_) (fun h=>?_)<;>(try first|exact h.elim|obtain rfl:(_:Bool)=true:=h|obtain rfl:(_:Bool)=false:=h))|refine zab (fun h=>?_) ?_|refine zac hM (c0) ?_|refine zac hM (c1) ?_|refine zac hM (c2) ?_|refine zac hM (k1) ?_|refine zac hM (k4) ?_|refine zac hM (k5) ?_|refine zac hM (k2) ?_|refine zac hM (k3) ?_|(refine hQ _ _ _ rfl ?_;clear hQ hR hE hM)|(refine hR _ _ (hQ _ _ _ rfl ?_);clear hQ hR hE hM)|(refine zaf ?_ ?_;focus first|omega|(refine zad ?_;(refine no_implicit_lambda% (st ?_);try with_reducible exact True.intro);done)))<;>try (refine no_implicit_lambda% (st ?_);try with_reducible exact True.intro)))
     all_goals first|rfl|(exfalso;contradiction)|skip
   ·have k1:=zcS hH hI p sp s ss h8 a0 a1
    have k4:=zcS hH hI p sp s ss h8 b0 b1
    generalize zds p s a0 a1=A at *
    generalize zby p s a0 a1=e at *
    generalize zds p s b0 b1=B at *
    generalize zby p s b0 b1=f at *
    refine zae (F:=cd321) (hH.has _ _ rfl) (Nat.le_of_ble_eq_true rfl) fun w0 M Q hM hQ hR=>?_;have hE:=hH.callable;dsimp only[cd321,qm,ql,qf,qi,qb,qc,qp,qv,qN,qT,qF,qt]at hQ ⊢
    repeat' (first|refine zaa [0,1,2,3,4,5,6,7,8,9,10,11,12,13,14,15,16,17,28,51,76,78,80,93,98] fun K hK=>?_|refine AWp.block ?_|(refine hK.go ?_;clear hK K)|refine Cont.go (by assumption) ?_|(refine cnd2 rfl (fun h=>?_) (fun h=>?_)<;>(try first|exact h.elim|obtain rfl:(_:Bool)=true:=h|obtain rfl:(_:Bool)=false:=h)<;>first|(exfalso;omega)|skip)|((first|refine AWp.reg hE hM ?_|refine AWp.regd hE hM ?_|refine AWp.ret ?_|refine AWp.skip ?_|refine AWp.exit ?_|(refine pk2 (fun h=>?_) (fun h=>?_)<;>(try first|exact h.elim|obtain rfl:(_:Bool)=true:=h|obtain rfl:(_:Bool)=false:=h))|refine zab (fun h=>?_) ?_|refine zac hM (c0) ?_|refine zac hM (c1) ?_|refine zac hM (c2) ?_|refine zac hM (k1) ?_|refine zac hM (k4) ?_|(refine hQ _ _ _ rfl ?_;clear hQ hR hE hM)|(refine hR _ _ (hQ _ _ _ rfl ?_);clear hQ hR hE hM)|(refine zaf ?_ ?_;focus first|omega|(refine zad ?_;(refine no_implicit_lambda% (st ?_);try with_reducible exact True.intro);done)))<;>try (refine no_implicit_lambda% (st ?_);try with_reducible exact True.intro)))
    all_goals first|rfl|(exfalso;contradiction)|skip
end Go.Lev
namespace Go.Eng
open Go.RowKit
theorem zn2:∀ (xs ys:List AV),nmL (xs++ys)=(nmL xs&&nmL ys)
 |[],ys=>by simp[nmL]
 |x::xs,ys=>by simp[nmL,zn2 xs ys,Bool.and_assoc]
theorem ziG {α:Type} {c:α→List AV} (h:∀ a,nmL (c a)=true) (l:List α):nmL (l.map c).flatten=true:=by
 induction l with
 |nil=>rfl
 |cons x l ih=>simp[zn2,h x,ih]
section
variable {P:Program} {inv:Nat→Option Nat} {w0:World} {M:Nat→Prop} {n N:Nat} {φ:AF} {σ:AS}
end
end Go.Eng
