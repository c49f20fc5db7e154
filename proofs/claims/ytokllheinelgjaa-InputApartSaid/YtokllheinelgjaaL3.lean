/-
  A part of the engine that walks the functions' codes, and of the functions' contracts. Conditions: those that each theorem names.
-/
import Derived.Test.YtokllheinelgjaaL2
import Derived.IntWalk
set_option linter.unusedSimpArgs false
set_option linter.unusedVariables false
set_option linter.unusedSectionVars false
namespace Go.Lev
open Go.Eng
set_option maxRecDepth 10000
set_option maxHeartbeats 4000000
variable {P:Program} {inv:Nat→Option Nat}
def zbQ (i:Int):Bool:=decide (1≤i)&&decide (i≤99)
theorem zel (hH:HasAll P inv) (i:Int):PC P inv 50 [.n i] (·=.b (zbQ i)):=by
 refine zae (F:=cd50) (hH.has _ _ rfl) (Nat.le_of_ble_eq_true rfl) fun w0 M Q hM hQ hR=>?_;have hE:=hH.callable;dsimp only[cd50,qm,ql,qf,qi,qb,qc,qp,qv,qN,qT,qF,qt]at hQ ⊢
 repeat' (first|refine zab [0,2] fun K hK=>?_|refine AWp.block ?_|(refine hK.go ?_;clear hK K)|refine Cont.go (by assumption) ?_|(refine cnd2 rfl (fun h=>?_) (fun h=>?_)<;>(try first|exact h.elim|obtain rfl:(_:Bool)=true:=h|obtain rfl:(_:Bool)=false:=h)<;>first|(exfalso;omega)|skip)|((first|refine AWp.reg hE hM ?_|refine AWp.regd hE hM ?_|refine AWp.ret ?_|refine AWp.skip ?_|refine AWp.exit ?_|(refine pk2 (fun h=>?_) (fun h=>?_)<;>(try first|exact h.elim|obtain rfl:(_:Bool)=true:=h|obtain rfl:(_:Bool)=false:=h))|refine zac (fun h=>?_) ?_|(refine hQ _ _ _ rfl ?_;clear hQ hR hE hM)|(refine hR _ _ (hQ _ _ _ rfl ?_);clear hQ hR hE hM)|(refine zaf ?_ ?_;focus first|omega|(refine zad ?_;(refine no_implicit_lambda% (st ?_);try with_reducible exact True.intro);done)))<;>try (refine no_implicit_lambda% (st ?_);try with_reducible exact True.intro)))
 all_goals (first|rfl|(grind[zbQ])|(simp[zbQ, *];done)|(simp_all [zbQ];done)|(simp_all [zbQ]<;>first|omega|((repeat' split)<;>first|rfl|(exfalso;omega))))
def zcg (s:Section):Bool:=(decide (s.pt=0)&&decide ((s.ends.length:Int)=2))||(zbQ s.pt&&decide ((s.ends.length:Int)=3))
theorem ziY (hH:HasAll P inv) (s:Section):PC P inv 41 [.agg s.c] (·=.b (zcg s)):=by
 refine zae (F:=cd41) (hH.has _ _ rfl) (Nat.le_of_ble_eq_true rfl) fun w0 M Q hM hQ hR=>?_;have hE:=hH.callable;dsimp only[cd41,qm,ql,qf,qi,qb,qc,qp,qv,qN,qT,qF,qt]at hQ ⊢
 repeat' (first|refine zab [0,1,2] fun K hK=>?_|refine AWp.block ?_|(refine hK.go ?_;clear hK K)|refine Cont.go (by assumption) ?_|(refine cnd2 rfl (fun h=>?_) (fun h=>?_)<;>(try first|exact h.elim|obtain rfl:(_:Bool)=true:=h|obtain rfl:(_:Bool)=false:=h)<;>first|(exfalso;omega)|skip)|((first|refine AWp.reg hE hM ?_|refine AWp.regd hE hM ?_|refine AWp.ret ?_|refine AWp.skip ?_|refine AWp.exit ?_|(refine pk2 (fun h=>?_) (fun h=>?_)<;>(try first|exact h.elim|obtain rfl:(_:Bool)=true:=h|obtain rfl:(_:Bool)=false:=h))|refine zac (fun h=>?_) ?_|refine zaa hM (zel hH _) ?_|(refine hQ _ _ _ rfl ?_;clear hQ hR hE hM)|(refine hR _ _ (hQ _ _ _ rfl ?_);clear hQ hR hE hM)|(refine zaf ?_ ?_;focus first|omega|(refine zad ?_;(refine no_implicit_lambda% (st ?_);try with_reducible exact True.intro);done)))<;>try (refine no_implicit_lambda% (st ?_);try with_reducible exact True.intro)))
 all_goals (first|rfl|(grind[zcg])|(simp[zcg, *];done)|(simp_all [zcg];done)|(simp_all [zcg]<;>first|omega|((repeat' split)<;>first|rfl|(exfalso;omega))))
theorem isNaN_pc (hH:HasAll P inv) (i:Int):PC P inv 55 [.n i] (·=.b false):=by
 refine zae (F:=cd55) (hH.has _ _ rfl) (Nat.le_of_ble_eq_true rfl) fun w0 M Q hM hQ hR=>?_;have hE:=hH.callable;dsimp only[cd55,qm,ql,qf,qi,qb,qc,qp,qv,qN,qT,qF,qt]at hQ ⊢
 repeat' (first|refine zab [0,2] fun K hK=>?_|refine AWp.block ?_|(refine hK.go ?_;clear hK K)|refine Cont.go (by assumption) ?_|(refine cnd2 rfl (fun h=>?_) (fun h=>?_)<;>(try first|exact h.elim|obtain rfl:(_:Bool)=true:=h|obtain rfl:(_:Bool)=false:=h)<;>first|(exfalso;omega)|skip)|((first|refine AWp.reg hE hM ?_|refine AWp.regd hE hM ?_|refine AWp.ret ?_|refine AWp.skip ?_|refine AWp.exit ?_|(refine pk2 (fun h=>?_) (fun h=>?_)<;>(try first|exact h.elim|obtain rfl:(_:Bool)=true:=h|obtain rfl:(_:Bool)=false:=h))|refine zac (fun h=>?_) ?_|(refine hQ _ _ _ rfl ?_;clear hQ hR hE hM)|(refine hR _ _ (hQ _ _ _ rfl ?_);clear hQ hR hE hM)|(refine zaf ?_ ?_;focus first|omega|(refine zad ?_;(refine no_implicit_lambda% (st ?_);try with_reducible exact True.intro);done)))<;>try (refine no_implicit_lambda% (st ?_);try with_reducible exact True.intro)))
 all_goals (first|rfl|(grind[])|(simp[ *];done)|(simp_all [];done)|(simp_all []<;>first|omega|((repeat' split)<;>first|rfl|(exfalso;omega))))
def zjL (a b:Int):Int:=if a<b then -1 else if b<a then 1 else 0
theorem cmp_pc (hH:HasAll P inv) (a b:Int):PC P inv 53 [.n a,.n b] (·=.n (zjL a b)):=by
 refine zae (F:=cd53) (hH.has _ _ rfl) (Nat.le_of_ble_eq_true rfl) fun w0 M Q hM hQ hR=>?_;have hE:=hH.callable;dsimp only[cd53,qm,ql,qf,qi,qb,qc,qp,qv,qN,qT,qF,qt]at hQ ⊢
 repeat' (first|refine zab [0,1,4,5,6,11,12,13,16,19] fun K hK=>?_|refine AWp.block ?_|(refine hK.go ?_;clear hK K)|refine Cont.go (by assumption) ?_|(refine cnd2 rfl (fun h=>?_) (fun h=>?_)<;>(try first|exact h.elim|obtain rfl:(_:Bool)=true:=h|obtain rfl:(_:Bool)=false:=h)<;>first|(exfalso;omega)|skip)|((first|refine AWp.reg hE hM ?_|refine AWp.regd hE hM ?_|refine AWp.ret ?_|refine AWp.skip ?_|refine AWp.exit ?_|(refine pk2 (fun h=>?_) (fun h=>?_)<;>(try first|exact h.elim|obtain rfl:(_:Bool)=true:=h|obtain rfl:(_:Bool)=false:=h))|refine zac (fun h=>?_) ?_|refine zaa hM (isNaN_pc hH _) ?_|(refine hQ _ _ _ rfl ?_;clear hQ hR hE hM)|(refine hR _ _ (hQ _ _ _ rfl ?_);clear hQ hR hE hM)|(refine zaf ?_ ?_;focus first|omega|(refine zad ?_;(refine no_implicit_lambda% (st ?_);try with_reducible exact True.intro);done)))<;>try (refine no_implicit_lambda% (st ?_);try with_reducible exact True.intro)))
 all_goals (first|rfl|(grind[zjL])|(simp[zjL, *];done)|(simp_all [zjL];done)|(simp_all [zjL]<;>first|omega|((repeat' split)<;>first|rfl|(exfalso;omega))))
theorem zjm (hH:HasAll P inv) (s:Section) (b:Int):PC P inv 52 [.agg s.c,.n b] (·=.n (zjL s.id b)):=by
 refine zae (F:=cd52) (hH.has _ _ rfl) (Nat.le_of_ble_eq_true rfl) fun w0 M Q hM hQ hR=>?_;have hE:=hH.callable;dsimp only[cd52,qm,ql,qf,qi,qb,qc,qp,qv,qN,qT,qF,qt]at hQ ⊢
 repeat' (first|refine zab [0,1,2,4] fun K hK=>?_|refine AWp.block ?_|(refine hK.go ?_;clear hK K)|refine Cont.go (by assumption) ?_|(refine cnd2 rfl (fun h=>?_) (fun h=>?_)<;>(try first|exact h.elim|obtain rfl:(_:Bool)=true:=h|obtain rfl:(_:Bool)=false:=h)<;>first|(exfalso;omega)|skip)|((first|refine AWp.reg hE hM ?_|refine AWp.regd hE hM ?_|refine AWp.ret ?_|refine AWp.skip ?_|refine AWp.exit ?_|(refine pk2 (fun h=>?_) (fun h=>?_)<;>(try first|exact h.elim|obtain rfl:(_:Bool)=true:=h|obtain rfl:(_:Bool)=false:=h))|refine zac (fun h=>?_) ?_|refine zaa hM (cmp_pc hH _ _) ?_|(refine hQ _ _ _ rfl ?_;clear hQ hR hE hM)|(refine hR _ _ (hQ _ _ _ rfl ?_);clear hQ hR hE hM)|(refine zaf ?_ ?_;focus first|omega|(refine zad ?_;(refine no_implicit_lambda% (st ?_);try with_reducible exact True.intro);done)))<;>try (refine no_implicit_lambda% (st ?_);try with_reducible exact True.intro)))
 all_goals (first|rfl|(grind[zjL])|(simp[zjL, *];done)|(simp_all [zjL];done)|(simp_all [zjL]<;>first|omega|((repeat' split)<;>first|rfl|(exfalso;omega))))
def zf4 (l:List Section) (id:Int) (i j:Nat):Nat :=
 if _h:i<j then if zjL (nth l ((i+j) / 2)).id id<0 then zf4 l id ((i+j) / 2+1) j else zf4 l id i ((i+j) / 2) else i
termination_by j-i
def zan (l:List Section) (id:Int):Nat×Bool :=
 (zf4 l id 0 l.length,decide (zf4 l id 0 l.length<l.length)&&decide (zjL (nth l (zf4 l id 0 l.length)).id id=0))
theorem zjO {l:List Section} {id:Int} {i j:Nat} (h:i<j):zf4 l id i j=if zjL (nth l ((i+j) / 2)).id id<0 then zf4 l id ((i+j) / 2+1) j else zf4 l id i ((i+j) / 2):=by
 rw[zf4,dif_pos h]
theorem ziI {l:List Section} {id:Int} {i:Nat}:zf4 l id i i=i:=by rw[zf4,dif_neg (by omega)]
theorem zoh (l:List Section) (id:Int):∀ (n i j:Nat),j-i≤n→i≤j→i≤zf4 l id i j∧zf4 l id i j≤j:=by
 intro n
 induction n with
 |zero=>intro i j h hij;unfold zf4;rw[dif_neg (by omega)];omega
 |succ n ih =>
  intro i j h hij
  unfold zf4
  split
  ·split
   ·have:=ih ((i+j) / 2+1) j (by omega) (by omega);omega
   ·have:=ih i ((i+j) / 2) (by omega) (by omega);omega
  ·omega
theorem bs_pc (hH:HasAll P inv) (l:List Section) (id:Int) (hl:l.length≤1000000000):PC P inv 51 [.sl 3 (l.map Section.c),.n id,.fn 52 []] (·=.tup [.n (zan l id).1,.b (zan l id).2]):=by
 have hb:=zoh l id l.length 0 l.length (by omega) (by omega)
 refine zae (F:=cd51) (hH.has _ _ rfl) (Nat.le_of_ble_eq_true rfl) fun w0 M Q hM hQ hR=>?_;have hE:=hH.callable;dsimp only[cd51,qm,ql,qf,qi,qb,qc,qp,qv,qN,qT,qF,qt]at hQ ⊢
 repeat' (first|refine zab [0,1,2,6,7,8,9,10,11,17,31] fun K hK=>?_|refine AWp.block ?_|(refine hK.go ?_;clear hK K)|refine Cont.go (by assumption) ?_|(refine cnd2 rfl (fun h=>?_) (fun h=>?_)<;>(try first|exact h.elim|obtain rfl:(_:Bool)=true:=h|obtain rfl:(_:Bool)=false:=h)<;>first|(exfalso;omega)|skip)|((first|refine AWp.reg hE hM ?_|refine AWp.regd hE hM ?_|refine AWp.ret ?_|refine AWp.skip ?_|refine AWp.exit ?_|(refine pk2 (fun h=>?_) (fun h=>?_)<;>(try first|exact h.elim|obtain rfl:(_:Bool)=true:=h|obtain rfl:(_:Bool)=false:=h))|refine zac (fun h=>?_) ?_|(refine hQ _ _ _ rfl ?_;clear hQ hR hE hM)|(refine hR _ _ (hQ _ _ _ rfl ?_);clear hQ hR hE hM)|(refine zaf ?_ ?_;focus first|omega|(refine zad ?_;(refine no_implicit_lambda% (st ?_);try with_reducible exact True.intro);done)))<;>try (refine no_implicit_lambda% (st ?_);try with_reducible exact True.intro)))
 refine zaT (ι:=Nat×Nat) (fun k=>[(0,.sl 3 (l.map Section.c)),(1,.n id),(2,.fn 52 []),(8,.n l.length),(9,.n k.1),(10,.n k.2)]) (fun _=>[]) (fun k=>k.1≤k.2∧k.2≤l.length∧zf4 l id k.1 k.2=zf4 l id 0 l.length) (fun k=>k.2-k.1) (0,l.length) ⟨by omega,by omega,rfl⟩ ?_ ?_ ?_
 ·(refine no_implicit_lambda% (st ?_);try with_reducible exact True.intro)
  rfl
 ·(refine no_implicit_lambda% (st ?_);try with_reducible exact True.intro)
 rintro ⟨i,j⟩ ⟨h1,h2,hg⟩
 dsimp only at h1 h2 hg ⊢
 rcases Nat.lt_or_ge i j with hlt|hge
 ·rw[zjO hlt]at hg
  have e1:(((i:Int)+j) / 2).toNat=(i+j) / 2:=by omega
  repeat' (first|refine zab [0,1,2,6,7,8,9,10,11,17,31] fun K hK=>?_|refine AWp.block ?_|(refine hK.go ?_;clear hK K)|refine Cont.go (by assumption) ?_|(refine cnd2 rfl (fun h=>?_) (fun h=>?_)<;>(try first|exact h.elim|obtain rfl:(_:Bool)=true:=h|obtain rfl:(_:Bool)=false:=h)<;>first|(exfalso;omega)|skip)|((first|refine AWp.reg hE hM ?_|refine AWp.regd hE hM ?_|refine AWp.ret ?_|refine AWp.skip ?_|refine AWp.exit ?_|(refine pk2 (fun h=>?_) (fun h=>?_)<;>(try first|exact h.elim|obtain rfl:(_:Bool)=true:=h|obtain rfl:(_:Bool)=false:=h))|refine zac (fun h=>?_) ?_|refine zaa hM (zjm hH _ _) ?_|(refine hQ _ _ _ rfl ?_;clear hQ hR hE hM)|(refine hR _ _ (hQ _ _ _ rfl ?_);clear hQ hR hE hM)|(refine zaf ?_ ?_;focus first|omega|(refine zad ?_;(refine no_implicit_lambda% (st ?_);try with_reducible exact True.intro);done)))<;>try (refine no_implicit_lambda% (st ?_);try with_reducible exact True.intro)))
  ·simp only[e1]at h
   rw[if_pos h]at hg
   exact ⟨((i+j) / 2+1,j),by dsimp only;omega,⟨by dsimp only;omega,h2,hg⟩,(by (try dsimp only);(first|omega|(simp;done)|(simp;omega)))⟩
  ·simp only[e1]at h
   rw[if_neg (by omega)]at hg
   exact ⟨(i,(i+j) / 2),by dsimp only;omega,⟨by dsimp only;omega,by dsimp only;omega,hg⟩,(by (try dsimp only);(first|omega|(simp;done)|(simp;omega)))⟩
 ·obtain rfl:i=j:=by omega
  rw[ziI]at hg
  repeat' (first|refine zab [0,1,2,6,7,8,9,10,11,17,31] fun K hK=>?_|refine AWp.block ?_|(refine hK.go ?_;clear hK K)|refine Cont.go (by assumption) ?_|(refine cnd2 rfl (fun h=>?_) (fun h=>?_)<;>(try first|exact h.elim|obtain rfl:(_:Bool)=true:=h|obtain rfl:(_:Bool)=false:=h)<;>first|(exfalso;omega)|skip)|((first|refine AWp.reg hE hM ?_|refine AWp.regd hE hM ?_|refine AWp.ret ?_|refine AWp.skip ?_|refine AWp.exit ?_|(refine pk2 (fun h=>?_) (fun h=>?_)<;>(try first|exact h.elim|obtain rfl:(_:Bool)=true:=h|obtain rfl:(_:Bool)=false:=h))|refine zac (fun h=>?_) ?_|refine zaa hM (zjm hH _ _) ?_|(refine hQ _ _ _ rfl ?_;clear hQ hR hE hM)|(refine hR _ _ (hQ _ _ _ rfl ?_);clear hQ hR hE hM)|(refine zaf ?_ ?_;focus first|omega|(refine zad ?_;(refine no_implicit_lambda% (st ?_);try with_reducible exact True.intro);done)))<;>try (refine no_implicit_lambda% (st ?_);try with_reducible exact True.intro)))
  ·have h':zf4 l id 0 l.length<l.length:=by omega
   subst hg
   simp[zan,h']
  ·have h':¬zf4 l id 0 l.length<l.length:=by omega
   subst hg
   simp[zan,h']
theorem place_pc (hH:HasAll P inv) (l:List Section) (id:Int) (hl:l.length≤1000000000):PC P inv 46 [.sl 3 (l.map Section.c),.n id] (·=.tup [.n (zan l id).1,.b (zan l id).2]):=by
 refine zae (F:=cd46) (hH.has _ _ rfl) (Nat.le_of_ble_eq_true rfl) fun w0 M Q hM hQ hR=>?_;have hE:=hH.callable;dsimp only[cd46,qm,ql,qf,qi,qb,qc,qp,qv,qN,qT,qF,qt]at hQ ⊢
 repeat' (first|refine zab [0,1,4,5] fun K hK=>?_|refine AWp.block ?_|(refine hK.go ?_;clear hK K)|refine Cont.go (by assumption) ?_|(refine cnd2 rfl (fun h=>?_) (fun h=>?_)<;>(try first|exact h.elim|obtain rfl:(_:Bool)=true:=h|obtain rfl:(_:Bool)=false:=h)<;>first|(exfalso;omega)|skip)|((first|refine AWp.reg hE hM ?_|refine AWp.regd hE hM ?_|refine AWp.ret ?_|refine AWp.skip ?_|refine AWp.exit ?_|(refine pk2 (fun h=>?_) (fun h=>?_)<;>(try first|exact h.elim|obtain rfl:(_:Bool)=true:=h|obtain rfl:(_:Bool)=false:=h))|refine zac (fun h=>?_) ?_|refine zaa hM (bs_pc hH _ _ (by omega)) ?_|(refine hQ _ _ _ rfl ?_;clear hQ hR hE hM)|(refine hR _ _ (hQ _ _ _ rfl ?_);clear hQ hR hE hM)|(refine zaf ?_ ?_;focus first|omega|(refine zad ?_;(refine no_implicit_lambda% (st ?_);try with_reducible exact True.intro);done)))<;>try (refine no_implicit_lambda% (st ?_);try with_reducible exact True.intro)))
def zj0 (id:Int) (k:Nat):List Section→Int
 |[]=>-1
 |x::r=>if x.id=id then k else zj0 id (k+1) r
end Go.Lev
namespace Go.Lev
open Go.Eng
set_option maxRecDepth 10000
set_option maxHeartbeats 4000000
variable {P:Program} {inv:Nat→Option Nat}
def ze9 (pt:Int):List Int:=if pt=0 then [0,3,0,3,0,0,0,0,0] else [0,1,2,1,0,0,2,0,0]
theorem ways_pc (hH:HasAll P inv) (s:Section):PC P inv 42 [.agg s.c] (·=.agg ((ze9 s.pt).map AV.n)):=by
 refine zae (F:=cd42) (hH.has _ _ rfl) (Nat.le_of_ble_eq_true rfl) fun w0 M Q hM hQ hR=>?_;have hE:=hH.callable;dsimp only[cd42,qm,ql,qf,qi,qb,qc,qp,qv,qN,qT,qF,qt]at hQ ⊢
 repeat' (first|refine zab [0,1,2,5] fun K hK=>?_|refine AWp.block ?_|(refine hK.go ?_;clear hK K)|refine Cont.go (by assumption) ?_|(refine cnd2 rfl (fun h=>?_) (fun h=>?_)<;>(try first|exact h.elim|obtain rfl:(_:Bool)=true:=h|obtain rfl:(_:Bool)=false:=h)<;>first|(exfalso;omega)|skip)|((first|refine AWp.reg hE hM ?_|refine AWp.regd hE hM ?_|refine AWp.ret ?_|refine AWp.skip ?_|refine AWp.exit ?_|(refine pk2 (fun h=>?_) (fun h=>?_)<;>(try first|exact h.elim|obtain rfl:(_:Bool)=true:=h|obtain rfl:(_:Bool)=false:=h))|refine zac (fun h=>?_) ?_|(refine hQ _ _ _ rfl ?_;clear hQ hR hE hM)|(refine hR _ _ (hQ _ _ _ rfl ?_);clear hQ hR hE hM)|(refine zaf ?_ ?_;focus first|omega|(refine zad ?_;(refine no_implicit_lambda% (st ?_);try with_reducible exact True.intro);done)))<;>try (refine no_implicit_lambda% (st ?_);try with_reducible exact True.intro)))
 all_goals (first|rfl|(grind[ze9])|(simp[ze9, *];done)|(simp_all [ze9];done)|(simp_all [ze9]<;>first|omega|((repeat' split)<;>first|rfl|(exfalso;omega))))
def zb3 (s:Section):Bool:=if s.pt=0 then decide ((s.ends.length:Int)=2) else decide (1≤s.pt)&&decide (s.pt≤99)&&decide ((s.ends.length:Int)=3)
def rLie (s:Section) (f t:Int):Int:=if s.pt=0 then (if f=0∧t=1∨f=1∧t=0 then 0 else -1) else if f=0∧(t=1∨t=2) then t else if t=0∧(f=1∨f=2) then f else -1
def idxGo (v:Int) (k:Nat):List Int→Int
 |[]=>-1
 |x::r=>if v=x then k else idxGo v (k+1) r
end Go.Lev
namespace Go.Lev
open Go.Eng
set_option maxRecDepth 10000
set_option maxHeartbeats 4000000
variable {P:Program} {inv:Nat→Option Nat}
def rGreat (l:List Section):Bool:=(l.take 40).any (fun s=>decide (20<(s.ends.length:Int)))||decide (40<(l.length:Int))
def rSame (a b:Section):Bool:=decide (a.id=b.id)&&decide (a.pt=b.pt)&&decide (a.ends=b.ends)
def routGo (s:Section) (f lie:Int):Nat→Nat→AV
 |_,0=>.tup [.n 0,.n 2]
 |k,m+1=>if rLie s f k=lie then .tup [.n k,.n 0] else routGo s f lie (k+1) m
end Go.Lev
namespace Go.Lev
open Go.Eng
set_option maxRecDepth 10000
set_option maxHeartbeats 4000000
variable {P:Program} {inv:Nat→Option Nat}
def zcF (pt f t:Int):Int:=if pt=0 then (if f=0∧t=1∨f=1∧t=0 then 3 else 0) else if f=0∧(t=1∨t=2) then t else if t=0∧(f=1∨f=2) then f else 0
theorem zc5 {f:Int} (h:0≤f∧f≤2):f=0∨f=1∨f=2:=by omega
theorem seg_ways {pt f t:Int} (h:0≤f∧f≤2) (h':0≤t∧t≤2):(((((ze9 pt).map AV.n).drop (f.toNat*3)).take 3))[t.toNat]?=some (.n (zcF pt f t)):=by
 rcases zc5 h with rfl|rfl|rfl<;>rcases zc5 h' with rfl|rfl|rfl<;>by_cases hp:pt=0<;>simp[ze9,zcF,hp]
theorem zmR (pt:Int):(((ze9 pt).map AV.n).take 3)=[zcF pt 0 0,zcF pt 0 1,zcF pt 0 2].map AV.n:=by by_cases hp:pt=0<;>simp[ze9,zcF,hp]
theorem zmQ (pt:Int):((((ze9 pt).map AV.n).drop 3).take 3)=[zcF pt 1 0,zcF pt 1 1,zcF pt 1 2].map AV.n:=by by_cases hp:pt=0<;>simp[ze9,zcF,hp]
theorem zmP (pt:Int):((((ze9 pt).map AV.n).drop 6).take 3)=[zcF pt 2 0,zcF pt 2 1,zcF pt 2 2].map AV.n:=by by_cases hp:pt=0<;>simp[ze9,zcF,hp]
attribute [local go_sem] seg_ways zmR zmQ zmP
def zh6 (s:Section) (f t:Int):AV:=if zcg s=true then (if f<0∨2<f∨t<0∨2<t∨zcF s.pt f t=0 then .tup [.n 0,.n 2] else .tup [.n ((zcF s.pt f t).tmod 3),.n 0]) else .tup [.n 0,.n 8]
theorem zlx (hH:HasAll P inv) (s:Section) (f t:Int):PC P inv 16 [.agg s.c,.n f,.n t] (·=zh6 s f t):=by
 refine zae (F:=cd16) (hH.has _ _ rfl) (Nat.le_of_ble_eq_true rfl) fun w0 M Q hM hQ hR=>?_;have hE:=hH.callable;dsimp only[cd16,qm,ql,qf,qi,qb,qc,qp,qv,qN,qT,qF,qt]at hQ ⊢
 repeat' (first|refine zab [0,1,2,3,6,7,10,33] fun K hK=>?_|refine AWp.block ?_|(refine hK.go ?_;clear hK K)|refine Cont.go (by assumption) ?_|(refine cnd2 rfl (fun h=>?_) (fun h=>?_)<;>(try first|exact h.elim|obtain rfl:(_:Bool)=true:=h|obtain rfl:(_:Bool)=false:=h)<;>first|(exfalso;omega)|skip)|((first|refine AWp.reg hE hM ?_|refine AWp.regd hE hM ?_|refine AWp.ret ?_|refine AWp.skip ?_|refine AWp.exit ?_|(refine pk2 (fun h=>?_) (fun h=>?_)<;>(try first|exact h.elim|obtain rfl:(_:Bool)=true:=h|obtain rfl:(_:Bool)=false:=h))|refine zac (fun h=>?_) ?_|refine zaa hM (ziY hH _) ?_|refine zaa hM (ways_pc hH _) ?_|(refine hQ _ _ _ rfl ?_;clear hQ hR hE hM)|(refine hR _ _ (hQ _ _ _ rfl ?_);clear hQ hR hE hM)|(refine zaf ?_ ?_;focus first|omega|(refine zad ?_;(refine no_implicit_lambda% (st ?_);try with_reducible exact True.intro);done)))<;>try (refine no_implicit_lambda% (st ?_);try with_reducible exact True.intro)))
 all_goals (unfold zh6;simp only[*,if_true,if_false,true_or,or_true,reduceCtorEq,Bool.false_eq_true])
 rw[if_neg (by rintro (a|a|a|a|a)<;>first|omega|contradiction)]
def outL (s:Section) (f lie:Int):Int:=idxGo (if s.pt=0∧lie=0 then 3 else lie) 0 [zcF s.pt f 0,zcF s.pt f 1,zcF s.pt f 2]
def outV (s:Section) (f lie:Int):AV:=if zcg s=true then (if f<0∨2<f∨lie<0∨2<lie then .tup [.n 0,.n 2] else if (¬s.pt=0∧lie=0)∨outL s f lie<0 then .tup [.n 0,.n 2] else .tup [.n (outL s f lie),.n 0]) else .tup [.n 0,.n 8]
end Go.Lev
namespace Go.Lev
open Go.Eng
set_option maxRecDepth 10000
set_option maxHeartbeats 4000000
variable {P:Program} {inv:Nat→Option Nat}
def zgy (l:List Section) (s:Section) (e:Nat):Bool :=
 if (nth s.ends e).to=0∧(nth s.ends e).ed=0 then true
 else if zj0 (nth s.ends e).to 0 l<0∨(nth s.ends e).ed<0∨((nth l (zj0 (nth s.ends e).to 0 l).toNat).ends.length:Int)≤(nth s.ends e).ed∨((nth s.ends e).to=s.id∧(nth s.ends e).ed=(e:Int)) then false
 else decide ((nth (nth l (zj0 (nth s.ends e).to 0 l).toNat).ends (nth s.ends e).ed.toNat).to=s.id)&&decide ((nth (nth l (zj0 (nth s.ends e).to 0 l).toNat).ends (nth s.ends e).ed.toNat).ed=(e:Int))
end Go.Lev
namespace Go.Lev
open Go.Eng
set_option maxRecDepth 10000
set_option maxHeartbeats 4000000
variable {P:Program} {inv:Nat→Option Nat}
def rClash (s x:Section):Bool:=decide (s.id≤x.id)||(!decide (s.pt=0)&&decide (x.pt=s.pt))
def rOk (pre:List Section) (s:Section):Bool:=!(decide (s.id<1)||decide (99<s.id)||!zb3 s)&&pre.all fun x=>!rClash s x
def zjf (pre:List Section):List Section→Bool
 |[]=>true
 |s::r=>rOk pre s&&zjf (pre++[s]) r
def zm0 (l:List Section):Bool:=l.all fun s=>zbU (zgy l s) 0 s.ends.length
def ziO (l:List Section):Bool:=!decide (16<(l.length:Int))&&zjf [] l&&zm0 l
end Go.Lev

namespace Go.Lev
open Go.Eng
set_option maxRecDepth 10000
set_option maxHeartbeats 4000000
variable {P:Program} {inv:Nat→Option Nat}
theorem zeA {s:Section} (h:zcg s=true):0≤s.pt∧s.pt≤99∧s.ends.length≤3:=by
 unfold zcg zbQ at h
 simp at h
 omega
theorem zk6 {l:List Section} {id:Int} (h:(zan l id).2=true):(zan l id).1<l.length:=by
 unfold zan at h ⊢
 simp at h
 exact h.1
def zhS (l:List Section) (k:Nat) (pts:List Bool) (s:Section):Bool:=!zbQ s.id||!zcg s||(decide (0<(k:Int))&&decide (s.id≤(nth l ((k:Int)-1).toNat).id))||nth pts s.pt.toNat
def ck1 (l:List Section) (k:Nat) (pts:List Bool):List Section→Bool
 |[]=>true
 |s::r=>!zhS l k pts s&&ck1 l (k+1) (pts.set s.pt.toNat (decide (0<s.pt))) r
def zhw (l:List Section) (s:Section) (e:Nat):Bool :=
 if (nth s.ends e).to=0∧(nth s.ends e).ed=0 then true
 else !(!(zan l (nth s.ends e).to).2||(decide ((nth s.ends e).to=s.id)&&decide ((nth s.ends e).ed=(e:Int)))||decide ((nth s.ends e).ed<0)||decide (((nth l (zan l (nth s.ends e).to).1).ends.length:Int)≤(nth s.ends e).ed)
  || !(decide ((nth (nth l (zan l (nth s.ends e).to).1).ends (nth s.ends e).ed.toNat).to=s.id)&&decide ((nth (nth l (zan l (nth s.ends e).to).1).ends (nth s.ends e).ed.toNat).ed=(e:Int))))
def ck2 (l:List Section):Bool:=l.all fun s=>zbU (zhw l s) 0 s.ends.length
def zdn (l:List Section):Int:=if 16<(l.length:Int) then 8 else if ck1 l 0 (List.replicate 100 false) l&&ck2 l then 0 else 8
theorem check_pc (hH:HasAll P inv) (l:List Section) (hl:l.length≤1000000000) (he:∀ s∈l,s.ends.length≤9223372036854775807):PC P inv 26 [.sl 3 (l.map Section.c)] (·=.n (zdn l)):=by
 refine zae (F:=cd26) (hH.has _ _ rfl) (Nat.le_of_ble_eq_true rfl) fun w0 M Q hM hQ hR=>?_;have hE:=hH.callable;dsimp only[cd26,qm,ql,qf,qi,qb,qc,qp,qv,qN,qT,qF,qt]at hQ ⊢
 repeat' (first|refine zab [0,2,3,4,5,7,8,9,10,11,12,15,16,17,18,19,25,29,52,60,61,62,63,67,68,69,70,76,123] fun K hK=>?_|refine AWp.block ?_|(refine hK.go ?_;clear hK K)|refine Cont.go (by assumption) ?_|(refine cnd2 rfl (fun h=>?_) (fun h=>?_)<;>(try first|exact h.elim|obtain rfl:(_:Bool)=true:=h|obtain rfl:(_:Bool)=false:=h)<;>first|(exfalso;omega)|skip)|((first|refine AWp.reg hE hM ?_|refine AWp.regd hE hM ?_|refine AWp.ret ?_|refine AWp.skip ?_|refine AWp.exit ?_|(refine pk2 (fun h=>?_) (fun h=>?_)<;>(try first|exact h.elim|obtain rfl:(_:Bool)=true:=h|obtain rfl:(_:Bool)=false:=h))|refine zac (fun h=>?_) ?_|(refine hQ _ _ _ rfl ?_;clear hQ hR hE hM)|(refine hR _ _ (hQ _ _ _ rfl ?_);clear hQ hR hE hM)|(refine zaf ?_ ?_;focus first|omega|(refine zad ?_;(refine no_implicit_lambda% (st ?_);try with_reducible exact True.intro);done)))<;>try (refine no_implicit_lambda% (st ?_);try with_reducible exact True.intro)))
 ·simp[zdn,h]
 refine zaT (ι:=Nat×List Bool) (fun k=>[(0,.sl 3 (l.map Section.c)),(3,.ptr 0 100 0),(16,.sl 3 (l.map Section.c)),(17,.n l.length),(18,.n k.1)]) (fun k=>[(0,.cells (k.2.map .b) true)]) (fun k=>k.1≤l.length∧k.2.length=100∧ck1 l k.1 k.2 (l.drop k.1)=ck1 l 0 (List.replicate 100 false) l) (fun k=>l.length-k.1) (0,List.replicate 100 false) ⟨Nat.zero_le _,by simp,rfl⟩ (by (try dsimp only);(refine no_implicit_lambda% (st ?_);try with_reducible exact True.intro)<;>omega) ?_ ?_
 ·(refine no_implicit_lambda% (st ?_);try with_reducible exact True.intro)
  simp
 ·rintro ⟨k,pts⟩ ⟨hk,hp,hg⟩
  dsimp only at hk hp hg ⊢
  rcases Nat.lt_or_ge k l.length with hlt|hge
  ·rw[zao hlt]at hg
   rw[ck1]at hg
   have hs:=he _ (zat hlt)
   have c:=ziY hH (nth l k)
   cases hsh:zcg (nth l k)<;>rw[hsh]at c
   ·repeat' (first|refine zab [0,2,3,4,5,7,8,9,10,11,12,15,16,17,18,19,25,29,52,60,61,62,63,67,68,69,70,76,123] fun K hK=>?_|refine AWp.block ?_|(refine hK.go ?_;clear hK K)|refine Cont.go (by assumption) ?_|(refine cnd2 rfl (fun h=>?_) (fun h=>?_)<;>(try first|exact h.elim|obtain rfl:(_:Bool)=true:=h|obtain rfl:(_:Bool)=false:=h)<;>first|(exfalso;omega)|skip)|((first|refine AWp.reg hE hM ?_|refine AWp.regd hE hM ?_|refine AWp.ret ?_|refine AWp.skip ?_|refine AWp.exit ?_|(refine pk2 (fun h=>?_) (fun h=>?_)<;>(try first|exact h.elim|obtain rfl:(_:Bool)=true:=h|obtain rfl:(_:Bool)=false:=h))|refine zac (fun h=>?_) ?_|refine zaa hM (zel hH _) ?_|refine zaa hM (c) ?_|(refine hQ _ _ _ rfl ?_;clear hQ hR hE hM)|(refine hR _ _ (hQ _ _ _ rfl ?_);clear hQ hR hE hM)|(refine zaf ?_ ?_;focus first|omega|(refine zad ?_;(refine no_implicit_lambda% (st ?_);try with_reducible exact True.intro);done)))<;>try (refine no_implicit_lambda% (st ?_);try with_reducible exact True.intro)))
    all_goals (grind[zdn,zhS])
   ·have hbd:=zeA hsh
    repeat' (first|refine zab [0,2,3,4,5,7,8,9,10,11,12,15,16,17,18,19,25,29,52,60,61,62,63,67,68,69,70,76,123] fun K hK=>?_|refine AWp.block ?_|(refine hK.go ?_;clear hK K)|refine Cont.go (by assumption) ?_|(refine cnd2 rfl (fun h=>?_) (fun h=>?_)<;>(try first|exact h.elim|obtain rfl:(_:Bool)=true:=h|obtain rfl:(_:Bool)=false:=h)<;>first|(exfalso;omega)|skip)|((first|refine AWp.reg hE hM ?_|refine AWp.regd hE hM ?_|refine AWp.ret ?_|refine AWp.skip ?_|refine AWp.exit ?_|(refine pk2 (fun h=>?_) (fun h=>?_)<;>(try first|exact h.elim|obtain rfl:(_:Bool)=true:=h|obtain rfl:(_:Bool)=false:=h))|refine zac (fun h=>?_) ?_|refine zaa hM (zel hH _) ?_|refine zaa hM (c) ?_|(refine hQ _ _ _ rfl ?_;clear hQ hR hE hM)|(refine hR _ _ (hQ _ _ _ rfl ?_);clear hQ hR hE hM)|(refine zaf ?_ ?_;focus first|omega|(refine zad ?_;(refine no_implicit_lambda% (st ?_);try with_reducible exact True.intro);done)))<;>try simp -dsimp -implicitDefEqProofs (disch:=omega) only[go_sem,reduceIte,↓reduceIte,Nat.reduceEqDiff,Nat.reduceLT,Nat.reduceLeDiff,Nat.reduceAdd,Nat.reduceSub,Nat.reduceMul,Int.reduceToNat,Int.reduceLT,Int.reduceLE,Int.reduceEq,Int.reduceNeg,Int.reduceNe,reduceCtorEq,hp]))
    all_goals (first
     |(refine ⟨(k+1,pts.set (nth l k).pt.toNat (decide (0<(nth l k).pt))),by dsimp only;omega,⟨by dsimp only;omega,by simp[hp],by grind[zhS]⟩,by simp,by simp[List.map_set]⟩)
     |(grind[zdn,zhS]))
  ·rw[List.drop_eq_nil_of_le hge,ck1]at hg
   repeat' (first|refine zab [0,2,3,4,5,7,8,9,10,11,12,15,16,17,18,19,25,29,52,60,61,62,63,67,68,69,70,76,123] fun K hK=>?_|refine AWp.block ?_|(refine hK.go ?_;clear hK K)|refine Cont.go (by assumption) ?_|(refine cnd2 rfl (fun h=>?_) (fun h=>?_)<;>(try first|exact h.elim|obtain rfl:(_:Bool)=true:=h|obtain rfl:(_:Bool)=false:=h)<;>first|(exfalso;omega)|skip)|((first|refine AWp.reg hE hM ?_|refine AWp.regd hE hM ?_|refine AWp.ret ?_|refine AWp.skip ?_|refine AWp.exit ?_|(refine pk2 (fun h=>?_) (fun h=>?_)<;>(try first|exact h.elim|obtain rfl:(_:Bool)=true:=h|obtain rfl:(_:Bool)=false:=h))|refine zac (fun h=>?_) ?_|(refine hQ _ _ _ rfl ?_;clear hQ hR hE hM)|(refine hR _ _ (hQ _ _ _ rfl ?_);clear hQ hR hE hM)|(refine zaf ?_ ?_;focus first|omega|(refine zad ?_;(refine no_implicit_lambda% (st ?_);try with_reducible exact True.intro);done)))<;>try (refine no_implicit_lambda% (st ?_);try with_reducible exact True.intro)))
   refine zaT (fun k:Nat=>[(0,.sl 3 (l.map Section.c)),(60,.sl 3 (l.map Section.c)),(61,.n l.length),(62,.n k)]) (fun k:Nat=>[]) (fun k:Nat=>k≤l.length∧(l.drop k).all (fun s=>zbU (zhw l s) 0 s.ends.length)=ck2 l) (fun k=>l.length-k) 0 ⟨Nat.zero_le _,by first|rfl|simp⟩ (by (try dsimp only);(refine no_implicit_lambda% (st ?_);try with_reducible exact True.intro)<;>omega) (by (try dsimp only);(refine no_implicit_lambda% (st ?_);try with_reducible exact True.intro)<;>omega) ?_;rintro k ⟨hk,hg⟩;rcases Nat.lt_or_ge k l.length with hlt|hge
   ·rw[zao hlt]at hg
    rw[List.all_cons]at hg
    have hs:=he _ (zat hlt)
    repeat' (first|refine zab [0,2,3,4,5,7,8,9,10,11,12,15,16,17,18,19,25,29,52,60,61,62,63,67,68,69,70,76,123] fun K hK=>?_|refine AWp.block ?_|(refine hK.go ?_;clear hK K)|refine Cont.go (by assumption) ?_|(refine cnd2 rfl (fun h=>?_) (fun h=>?_)<;>(try first|exact h.elim|obtain rfl:(_:Bool)=true:=h|obtain rfl:(_:Bool)=false:=h)<;>first|(exfalso;omega)|skip)|((first|refine AWp.reg hE hM ?_|refine AWp.regd hE hM ?_|refine AWp.ret ?_|refine AWp.skip ?_|refine AWp.exit ?_|(refine pk2 (fun h=>?_) (fun h=>?_)<;>(try first|exact h.elim|obtain rfl:(_:Bool)=true:=h|obtain rfl:(_:Bool)=false:=h))|refine zac (fun h=>?_) ?_|(refine hQ _ _ _ rfl ?_;clear hQ hR hE hM)|(refine hR _ _ (hQ _ _ _ rfl ?_);clear hQ hR hE hM)|(refine zaf ?_ ?_;focus first|omega|(refine zad ?_;(refine no_implicit_lambda% (st ?_);try with_reducible exact True.intro);done)))<;>try (refine no_implicit_lambda% (st ?_);try with_reducible exact True.intro)))
    refine zaT (fun j:Nat=>[(0,.sl 3 (l.map Section.c)),(60,.sl 3 (l.map Section.c)),(61,.n l.length),(62,.n k),(7,.ptr 0 3 0),(67,.sl 2 ((nth l k).ends.map Join.c)),(68,.n (nth l k).ends.length),(69,.n j)]) (fun _=>[(0,.cells (nth l k).c true)]) (fun j=>j≤(nth l k).ends.length∧zbU (zhw l (nth l k)) j ((nth l k).ends.length-j)=zbU (zhw l (nth l k)) 0 (nth l k).ends.length) (fun j=>(nth l k).ends.length-j) 0 ⟨Nat.zero_le _,rfl⟩ (by (try dsimp only);(refine no_implicit_lambda% (st ?_);try with_reducible exact True.intro)<;>omega) (by (try dsimp only);(refine no_implicit_lambda% (st ?_);try with_reducible exact True.intro)<;>omega) ?_
    rintro j ⟨hj,hi⟩
    rcases Nat.lt_or_ge j (nth l k).ends.length with hjk|hjk
    ·rw[zjV hjk]at hi
     have c:=place_pc hH l (nth (nth l k).ends j).to hl
     cases hpl:(zan l (nth (nth l k).ends j).to).2<;>rw[hpl]at c
     ·repeat' (first|refine zab [0,2,3,4,5,7,8,9,10,11,12,15,16,17,18,19,25,29,52,60,61,62,63,67,68,69,70,76,123] fun K hK=>?_|refine AWp.block ?_|(refine hK.go ?_;clear hK K)|refine Cont.go (by assumption) ?_|(refine cnd2 rfl (fun h=>?_) (fun h=>?_)<;>(try first|exact h.elim|obtain rfl:(_:Bool)=true:=h|obtain rfl:(_:Bool)=false:=h)<;>first|(exfalso;omega)|skip)|((first|refine AWp.reg hE hM ?_|refine AWp.regd hE hM ?_|refine AWp.ret ?_|refine AWp.skip ?_|refine AWp.exit ?_|(refine pk2 (fun h=>?_) (fun h=>?_)<;>(try first|exact h.elim|obtain rfl:(_:Bool)=true:=h|obtain rfl:(_:Bool)=false:=h))|refine zac (fun h=>?_) ?_|refine zaa hM (c) ?_|(refine hQ _ _ _ rfl ?_;clear hQ hR hE hM)|(refine hR _ _ (hQ _ _ _ rfl ?_);clear hQ hR hE hM)|(refine zaf ?_ ?_;focus first|omega|(refine zad ?_;(refine no_implicit_lambda% (st ?_);try with_reducible exact True.intro);done)))<;>try (refine no_implicit_lambda% (st ?_);try with_reducible exact True.intro)))
      all_goals (first|(refine ⟨j+1,by omega,⟨by omega,by grind[zdn,zhw]⟩,(by (try dsimp only);(first|omega|(simp;done)|(simp;omega)))⟩)|(grind[zdn,zhw]))
     ·have hpt:=zk6 hpl
      have hs2:=he _ (zat hpt)
      repeat' (first|refine zab [0,2,3,4,5,7,8,9,10,11,12,15,16,17,18,19,25,29,52,60,61,62,63,67,68,69,70,76,123] fun K hK=>?_|refine AWp.block ?_|(refine hK.go ?_;clear hK K)|refine Cont.go (by assumption) ?_|(refine cnd2 rfl (fun h=>?_) (fun h=>?_)<;>(try first|exact h.elim|obtain rfl:(_:Bool)=true:=h|obtain rfl:(_:Bool)=false:=h)<;>first|(exfalso;omega)|skip)|((first|refine AWp.reg hE hM ?_|refine AWp.regd hE hM ?_|refine AWp.ret ?_|refine AWp.skip ?_|refine AWp.exit ?_|(refine pk2 (fun h=>?_) (fun h=>?_)<;>(try first|exact h.elim|obtain rfl:(_:Bool)=true:=h|obtain rfl:(_:Bool)=false:=h))|refine zac (fun h=>?_) ?_|refine zaa hM (c) ?_|(refine hQ _ _ _ rfl ?_;clear hQ hR hE hM)|(refine hR _ _ (hQ _ _ _ rfl ?_);clear hQ hR hE hM)|(refine zaf ?_ ?_;focus first|omega|(refine zad ?_;(refine no_implicit_lambda% (st ?_);try with_reducible exact True.intro);done)))<;>try (refine no_implicit_lambda% (st ?_);try with_reducible exact True.intro)))
      all_goals (first|(refine ⟨j+1,by omega,⟨by omega,by grind[zdn,zhw]⟩,(by (try dsimp only);(first|omega|(simp;done)|(simp;omega)))⟩)|(grind[zdn,zhw]))
    ·rw[zkI hjk]at hi
     repeat' (first|refine zab [0,2,3,4,5,7,8,9,10,11,12,15,16,17,18,19,25,29,52,60,61,62,63,67,68,69,70,76,123] fun K hK=>?_|refine AWp.block ?_|(refine hK.go ?_;clear hK K)|refine Cont.go (by assumption) ?_|(refine cnd2 rfl (fun h=>?_) (fun h=>?_)<;>(try first|exact h.elim|obtain rfl:(_:Bool)=true:=h|obtain rfl:(_:Bool)=false:=h)<;>first|(exfalso;omega)|skip)|((first|refine AWp.reg hE hM ?_|refine AWp.regd hE hM ?_|refine AWp.ret ?_|refine AWp.skip ?_|refine AWp.exit ?_|(refine pk2 (fun h=>?_) (fun h=>?_)<;>(try first|exact h.elim|obtain rfl:(_:Bool)=true:=h|obtain rfl:(_:Bool)=false:=h))|refine zac (fun h=>?_) ?_|(refine hQ _ _ _ rfl ?_;clear hQ hR hE hM)|(refine hR _ _ (hQ _ _ _ rfl ?_);clear hQ hR hE hM)|(refine zaf ?_ ?_;focus first|omega|(refine zad ?_;(refine no_implicit_lambda% (st ?_);try with_reducible exact True.intro);done)))<;>try (refine no_implicit_lambda% (st ?_);try with_reducible exact True.intro)))
     all_goals (first|(refine ⟨k+1,by omega,⟨by omega,by grind[zdn]⟩,(by (try dsimp only);(first|omega|(simp;done)|(simp;omega)))⟩)|(grind[zdn]))
   ·rw[List.drop_eq_nil_of_le hge,List.all_nil]at hg
    repeat' (first|refine zab [0,2,3,4,5,7,8,9,10,11,12,15,16,17,18,19,25,29,52,60,61,62,63,67,68,69,70,76,123] fun K hK=>?_|refine AWp.block ?_|(refine hK.go ?_;clear hK K)|refine Cont.go (by assumption) ?_|(refine cnd2 rfl (fun h=>?_) (fun h=>?_)<;>(try first|exact h.elim|obtain rfl:(_:Bool)=true:=h|obtain rfl:(_:Bool)=false:=h)<;>first|(exfalso;omega)|skip)|((first|refine AWp.reg hE hM ?_|refine AWp.regd hE hM ?_|refine AWp.ret ?_|refine AWp.skip ?_|refine AWp.exit ?_|(refine pk2 (fun h=>?_) (fun h=>?_)<;>(try first|exact h.elim|obtain rfl:(_:Bool)=true:=h|obtain rfl:(_:Bool)=false:=h))|refine zac (fun h=>?_) ?_|(refine hQ _ _ _ rfl ?_;clear hQ hR hE hM)|(refine hR _ _ (hQ _ _ _ rfl ?_);clear hQ hR hE hM)|(refine zaf ?_ ?_;focus first|omega|(refine zad ?_;(refine no_implicit_lambda% (st ?_);try with_reducible exact True.intro);done)))<;>try (refine no_implicit_lambda% (st ?_);try with_reducible exact True.intro)))
    all_goals (first|rfl|(grind[zdn])|(simp[zdn, *];done)|(simp_all [zdn];done)|(simp_all [zdn]<;>first|omega|((repeat' split)<;>first|rfl|(exfalso;omega))))
end Go.Lev
namespace Go.Lev
open Go.Eng
set_option maxRecDepth 10000
set_option maxHeartbeats 4000000
variable {P:Program} {inv:Nat→Option Nat}
def zgz (l:List Section):Int:=if ziO l=true then 0 else 8
def zeP:Section:=⟨0,0,[]⟩
def rFind (l:List Section) (id:Int):Section×Int:=if ziO l=true then (if zj0 id 0 l<0 then (zeP,6) else (nth l (zj0 id 0 l).toNat,0)) else (zeP,8)
def find (l:List Section) (id:Int):Section×Int:=if zdn l=0 then (if (zan l id).2=true then (nth l (zan l id).1,0) else (zeP,6)) else (zeP,zdn l)
end Go.Lev
namespace Go.Lev
open Go.Eng
def okAt (l:List Section) (j:Nat):Prop:=1≤(nth l j).id∧(nth l j).id≤99∧zb3 (nth l j)=true∧(0<j→(nth l (j-1)).id<(nth l j).id)∧∀ i,i<j→(nth l j).pt≠0→(nth l i).pt≠(nth l j).pt
def okAt' (l:List Section) (j:Nat):Prop:=1≤(nth l j).id∧(nth l j).id≤99∧zb3 (nth l j)=true∧∀ i,i<j→(nth l i).id<(nth l j).id∧((nth l j).pt≠0→(nth l i).pt≠(nth l j).pt)
theorem zdQ (s:Section):zcg s=zb3 s:=by
 unfold zcg zb3 zbQ
 by_cases h:s.pt=0<;>simp[h]
def Marks (l:List Section) (pts:List Bool) (k:Nat):Prop:=pts.length=100∧∀ p,p<100→(nth pts p=true↔0<p∧∃ i,i<k∧(nth l i).pt=(p:Int))
theorem zbC {α:Type} [Inhabited α] (l:List α) (i j:Nat) (x:α) (h:i<l.length):nth (l.set i x) j=if j=i then x else nth l j:=by
 unfold nth
 by_cases e:j=i
 ·subst e;simp[h]
 ·simp[e,List.getElem?_set,Ne.symm e]
theorem ziG (l:List Section):∀ (r:List Section) (k:Nat) (pts:List Bool),l.drop k=r→Marks l pts k→(ck1 l k pts r=true↔∀ j,k≤j→j<l.length→okAt l j)
 |[],k,pts,hr,_=>by
  have:l.length≤k:=by simpa using hr
  simp[ck1];intro j h1 h2;omega
 |s::r,k,pts,hr,hm=>by
  have hk:k<l.length:=by
   rcases Nat.lt_or_ge k l.length with h|h
   ·exact h
   ·rw[List.drop_eq_nil_of_le h]at hr;cases hr
  rw[zao hk,List.cons.injEq]at hr
  obtain ⟨rfl,hr⟩:=hr
  simp only[ck1,Bool.and_eq_true,Bool.not_eq_true']
  have hb:zhS l k pts (nth l k)=false↔okAt l k:=by
   unfold zhS okAt zbQ
   rw[zdQ]
   cases hs:zb3 (nth l k) with
   |false=>simp
   |true =>
    have hbd:=zeA (by rw[zdQ];exact hs)
    have hp:=hm.2 (nth l k).pt.toNat (by omega)
    have e1:(((k:Int)-1).toNat)=k-1:=by omega
    rw[e1]
    have hpf:nth pts (nth l k).pt.toNat=false↔∀ i,i<k→(nth l k).pt≠0→(nth l i).pt≠(nth l k).pt:=by
     rw[←Bool.not_eq_true,hp]
     constructor
     ·intro h i hi h0 he
      exact h ⟨by omega,i,hi,by omega⟩
     ·rintro h ⟨h0,i,hi,he⟩
      exact h i hi (by omega) (by omega)
    simp only[Bool.or_eq_false_iff,Bool.and_eq_false_iff,Bool.not_eq_false',Bool.and_eq_true,decide_eq_true_eq,decide_eq_false_iff_not,hpf]
    constructor
    ·rintro ⟨⟨⟨⟨h1,h2⟩,_⟩,h3⟩,h4⟩
     exact ⟨h1,h2,trivial,fun h0=>by rcases h3 with h3|h3<;>omega,h4⟩
    ·rintro ⟨h1,h2,_,h3,h4⟩
     refine ⟨⟨⟨⟨h1,h2⟩,trivial⟩, ?_⟩,h4⟩
     rcases Nat.eq_zero_or_pos k with h0|h0
     ·left;omega
     ·right;have:=h3 h0;omega
  rw[hb]
  constructor
  ·rintro ⟨h1,h2⟩ j hj hlt
   have hbd:=zeA (by rw[zdQ];exact h1.2.2.1)
   have hm':Marks l (pts.set (nth l k).pt.toNat (decide (0<(nth l k).pt))) (k+1):=by
    refine ⟨by simp[hm.1],fun p hp=>?_⟩
    rw[zbC _ _ _ _ (by rw[hm.1];omega)]
    split
    ·rename_i e
     constructor
     ·intro h;simp at h;exact ⟨by omega,k,by omega,by omega⟩
     ·rintro ⟨h0,_⟩;simp;omega
    ·rename_i e
     rw[hm.2 p hp]
     constructor
     ·rintro ⟨h0,i,hi,he⟩;exact ⟨h0,i,by omega,he⟩
     ·rintro ⟨h0,i,hi,he⟩
      refine ⟨h0,i, ?_,he⟩
      rcases Nat.lt_or_ge i k with h|h
      ·exact h
      ·obtain rfl:i=k:=by omega
       omega
   rcases Nat.lt_or_ge k j with h|h
   ·exact (ziG l r (k+1) _ hr hm').1 h2 j (by omega) hlt
   ·obtain rfl:j=k:=by omega
    exact h1
  ·intro h
   have h1:=h k (Nat.le_refl _) hk
   refine ⟨h1, ?_⟩
   have hbd:=zeA (by rw[zdQ];exact h1.2.2.1)
   have hm':Marks l (pts.set (nth l k).pt.toNat (decide (0<(nth l k).pt))) (k+1):=by
    refine ⟨by simp[hm.1],fun p hp=>?_⟩
    rw[zbC _ _ _ _ (by rw[hm.1];omega)]
    split
    ·rename_i e
     constructor
     ·intro h;simp at h;exact ⟨by omega,k,by omega,by omega⟩
     ·rintro ⟨h0,_⟩;simp;omega
    ·rename_i e
     rw[hm.2 p hp]
     constructor
     ·rintro ⟨h0,i,hi,he⟩;exact ⟨h0,i,by omega,he⟩
     ·rintro ⟨h0,i,hi,he⟩
      refine ⟨h0,i, ?_,he⟩
      rcases Nat.lt_or_ge i k with h|h
      ·exact h
      ·obtain rfl:i=k:=by omega
       omega
   exact (ziG l r (k+1) _ hr hm').2 fun j hj hlt=>h j (by omega) hlt
theorem marks0 (l:List Section):Marks l (List.replicate 100 false) 0:=by
 refine ⟨by simp,fun p hp=>?_⟩
 rw[za3 (by simpa using hp),List.getElem_replicate]
 constructor
 ·intro h;cases h
 ·rintro ⟨_,i,h,_⟩;exact absurd h (Nat.not_lt_zero _)
theorem zgx (l:List Section):∀ (r:List Section) (k:Nat),l.drop k=r→(zjf (l.take k) r=true↔∀ j,k≤j→j<l.length→okAt' l j)
 |[],k,hr=>by
  have:l.length≤k:=by simpa using hr
  simp[zjf];intro j h1 h2;omega
 |s::r,k,hr=>by
  have hk:k<l.length:=by
   rcases Nat.lt_or_ge k l.length with h|h
   ·exact h
   ·rw[List.drop_eq_nil_of_le h]at hr;cases hr
  rw[zao hk,List.cons.injEq]at hr
  obtain ⟨rfl,hr⟩:=hr
  rw[zjf,zmy hk,Bool.and_eq_true,zgx l r (k+1) hr]
  have hb:rOk (l.take k) (nth l k)=true↔okAt' l k:=by
   unfold rOk okAt' rClash
   simp only[Bool.and_eq_true,Bool.not_eq_true',Bool.or_eq_false_iff,decide_eq_false_iff_not,Bool.not_eq_false',List.all_eq_true,Bool.and_eq_false_iff,decide_eq_true_eq]
   constructor
   ·rintro ⟨⟨⟨h1,h2⟩,h3⟩,h4⟩
    refine ⟨by omega,by omega,h3,fun i hi=>?_⟩
    have:=h4 (nth l i) (by rw[←zkR hi];exact zat (by simp;omega))
    refine ⟨by omega,fun h0 he=>?_⟩
    rcases this.2 with h|h
    ·exact h0 h
    ·exact h he
   ·rintro ⟨h1,h2,h3,h4⟩
    refine ⟨⟨⟨by omega,by omega⟩,h3⟩,fun x hx=>?_⟩
    obtain ⟨i,hi,rfl⟩:=List.mem_iff_getElem.1 hx
    have hik:i<k:=by simp at hi;omega
    have:=h4 i hik
    have e:(l.take k)[i]=nth l i:=by rw[←za3 hi,zkR hik]
    rw[e]
    refine ⟨by omega, ?_⟩
    by_cases h0:(nth l k).pt=0
    ·exact .inl h0
    ·exact .inr (this.2 h0)
  rw[hb]
  constructor
  ·rintro ⟨h1,h2⟩ j hj hlt
   rcases Nat.lt_or_ge k j with h|h
   ·exact h2 j (by omega) hlt
   ·obtain rfl:j=k:=by omega
    exact h1
  ·intro h
   exact ⟨h k (Nat.le_refl _) hk,fun j hj hlt=>h j (by omega) hlt⟩
def ze8 (l:List Section):Prop:=∀ i j,i<j→j<l.length→(nth l i).id<(nth l j).id
theorem zgL {l:List Section} (h:∀ j,j<l.length→okAt l j):ze8 l:=by
 intro i j hij hj
 obtain ⟨d,rfl⟩:=Nat.exists_eq_add_of_lt hij
 clear hij
 induction d with
 |zero=>exact (h (i+0+1) hj).2.2.2.1 (by omega)
 |succ d ih =>
  have h1:=ih (by omega)
  have h2:=(h (i+(d+1)+1) hj).2.2.2.1 (by omega)
  have e:i+(d+1)+1-1=i+d+1:=by omega
  rw[e]at h2
  omega
theorem zf3 (l:List Section):ck1 l 0 (List.replicate 100 false) l=zjf [] l:=by
 have h1:=ziG l l 0 _ rfl (marks0 l)
 have h2:=zgx l l 0 rfl
 rw[List.take_zero]at h2
 rw[Bool.eq_iff_iff,h1,h2]
 constructor
 ·intro h j _ hj
  have hs:=zgL fun j hj=>h j (Nat.zero_le _) hj
  have:=h j (Nat.zero_le _) hj
  exact ⟨this.1,this.2.1,this.2.2.1,fun i hi=>⟨hs i j hi hj,this.2.2.2.2 i hi⟩⟩
 ·intro h j _ hj
  have:=h j (Nat.zero_le _) hj
  exact ⟨this.1,this.2.1,this.2.2.1,fun h0=>(this.2.2.2 (j-1) (by omega)).1,fun i hi=>(this.2.2.2 i hi).2⟩
theorem zga {l:List Section} (h:ck1 l 0 (List.replicate 100 false) l=true):ze8 l :=
 zgL fun j hj=>(ziG l l 0 _ rfl (marks0 l)).1 h j (Nat.zero_le _) hj
theorem zoa {a b:Int}:zjL a b<0↔a<b:=by unfold zjL;split<;>(try split)<;>omega
theorem zob {a b:Int}:zjL a b=0↔a=b:=by unfold zjL;split<;>(try split)<;>omega
theorem zha {l:List Section} {id:Int} (hs:ze8 l):∀ (n i j:Nat),j-i≤n→i≤j→j≤l.length→(∀ x,x<i→(nth l x).id<id)→(∀ x,j≤x→x<l.length→id≤(nth l x).id) →
  (∀ x,x<zf4 l id i j→(nth l x).id<id)∧(∀ x,zf4 l id i j≤x→x<l.length→id≤(nth l x).id)
 |0,i,j,hn,hij,hj,h1,h2=>by
  obtain rfl:i=j:=by omega
  rw[ziI];exact ⟨h1,h2⟩
 |n+1,i,j,hn,hij,hj,h1,h2=>by
  rcases Nat.lt_or_ge i j with hlt|hge
  ·rw[zjO hlt]
   split
   ·rename_i hc
    rw[zoa]at hc
    refine zha hs n _ _ (by omega) (by omega) hj (fun x hx=>?_) h2
    rcases Nat.lt_or_ge x ((i+j) / 2) with h|h
    ·have:=hs x ((i+j) / 2) h (by omega);omega
    ·obtain rfl:x=(i+j) / 2:=by omega
     exact hc
   ·rename_i hc
    rw[zoa]at hc
    refine zha hs n _ _ (by omega) (by omega) (by omega) h1 (fun x hx hxl=>?_)
    rcases Nat.lt_or_ge ((i+j) / 2) x with h|h
    ·have:=hs ((i+j) / 2) x h hxl;omega
    ·obtain rfl:x=(i+j) / 2:=by omega
     omega
  ·obtain rfl:i=j:=by omega
   rw[ziI];exact ⟨h1,h2⟩
theorem ze4 (id:Int):∀ (l:List Section) (k:Nat),(zj0 id k l=-1∧∀ i,i<l.length→(nth l i).id≠id)∨∃ p,p<l.length∧zj0 id k l=(k:Int)+p∧(nth l p).id=id
 |[],k=>.inl ⟨rfl,fun i h=>by simp at h⟩
 |x::r,k=>by
  unfold zj0
  split
  ·rename_i h
   exact .inr ⟨0,by simp,by simp,by simpa [nth] using h⟩
  ·rename_i h
   rcases ze4 id r (k+1) with ⟨h1,h2⟩|⟨p,h1,h2,h3⟩
   ·refine .inl ⟨h1,fun i hi=>?_⟩
    cases i with
    |zero=>simpa [nth] using h
    |succ i=>simpa [nth] using h2 i (by simpa using hi)
   ·exact .inr ⟨p+1,by simpa using h1,by rw[h2];omega,by simpa [nth] using h3⟩
theorem place_at {l:List Section} (hs:ze8 l) (id:Int):((zan l id).2=false∧zj0 id 0 l=-1)∨((zan l id).2=true∧zj0 id 0 l=(zan l id).1):=by
 have hb:=zha (id:=id) hs l.length 0 l.length (by omega) (by omega) (Nat.le_refl _) (fun x h=>absurd h (Nat.not_lt_zero _)) (fun x h1 h2=>absurd h1 (by omega))
 have hle:=zoh l id l.length 0 l.length (by omega) (by omega)
 unfold zan
 rcases ze4 id l 0 with ⟨h1,h2⟩|⟨p,h1,h2,h3⟩
 ·left
  refine ⟨?_,h1⟩
  simp only[Bool.and_eq_false_iff,decide_eq_false_iff_not]
  rcases Nat.lt_or_ge (zf4 l id 0 l.length) l.length with h|h
  ·right;rw[zob];exact h2 _ h
  ·left;omega
 ·right
  have hp:zf4 l id 0 l.length=p:=by
   rcases Nat.lt_trichotomy (zf4 l id 0 l.length) p with h|h|h
   ·have a:=hb.2 _ (Nat.le_refl _) (by omega)
    have b:=hs _ _ h h1
    omega
   ·exact h
   ·have:=hb.1 p h;omega
  rw[hp]
  refine ⟨?_,by rw[h2];omega⟩
  simp only[Bool.and_eq_true,decide_eq_true_eq,zob]
  exact ⟨h1,h3⟩
theorem end_eq {l:List Section} (hs:ze8 l) (s:Section) (e:Nat):zhw l s e=zgy l s e:=by
 unfold zhw zgy
 split
 ·rfl
 ·rcases place_at hs (nth s.ends e).to with ⟨h1,h2⟩|⟨h1,h2⟩
  ·rw[h1,h2];simp
  ·have h3:=zk6 h1
   rw[h1,h2]
   simp only[Int.toNat_natCast]
   split
   ·rename_i h
    rcases h with h|h|h|h
    ·omega
    ·simp[h]
    ·simp[h]
    ·simp[h.1,h.2]
   ·rename_i h
    simp only[not_or]at h
    obtain ⟨_,h4,h5,h6⟩:=h
    simp only[h4,h5,decide_false,Bool.not_true,Bool.false_or,Bool.or_false]
    by_cases h7:(nth s.ends e).to=s.id
    ·by_cases h8:(nth s.ends e).ed=(e:Int)
     ·exact absurd ⟨h7,h8⟩ h6
     ·simp[h8]
    ·simp[h7]
theorem check_eq (l:List Section):zdn l=zgz l:=by
 unfold zdn zgz ziO
 by_cases h16:16<(l.length:Int)
 ·simp[h16]
 ·rw[if_neg h16,zf3]
  cases h1:zjf [] l with
  |false=>simp
  |true =>
   have hs:=zga ((zf3 l).trans h1)
   have e2:ck2 l=zm0 l:=by
    unfold ck2 zm0
    congr 1
    funext s
    congr 1
    funext e
    exact end_eq hs s e
   simp[h16,e2]
theorem zlC {l:List Section} (h:ziO l=true):ze8 l:=by
 unfold ziO at h
 simp only[Bool.and_eq_true]at h
 exact zga ((zf3 l).trans h.1.2)
end Go.Lev
namespace Go.Lev
open Go.Eng
set_option maxRecDepth 10000
set_option maxHeartbeats 4000000
variable {P:Program} {inv:Nat→Option Nat}
def SecOK (l:List Section):Prop:=∀ s∈l,1≤s.id∧s.id≤99∧0≤s.pt∧s.pt≤99∧s.ends.length≤3
theorem znW {φ:AF} {σ:AS} {t l ver:Nat} {cs:List AV} {b:Bool} (hf:zbe φ t=.ptr l ver 0) (hs:zaD σ l=some (.cells cs b)) (hl:cs.length=ver) (hv:0<ver):zd5 φ σ [.cell t (some ver)]=some (.agg cs):=by
 subst hl
 have h:zcC cs 0 (some cs.length)=some (.agg cs):=by
  rw[al_s,if_pos (by omega)]
  simp[seg]
 simp[zd5,zhe,ares,hf,zcD,hs,h]
def zg4:List Int→List Section→List Int
 |a,[]=>a
 |a,s::r=>zg4 (a.set s.id.toNat s.ends.length) r
theorem zjE:∀ (l:List Section) (a:List Int),(zg4 a l).length=a.length
 |[],a=>rfl
 |s::r,a=>by rw[zg4,zjE r];simp
def ends (l:List Section):List Int:=zg4 (List.replicate 100 0) l
theorem zlm (l:List Section):(ends l).length=100:=by rw[ends,zjE];simp
theorem ends_pc (hH:HasAll P inv) (l:List Section) (hl:l.length≤1000000000) (hs:SecOK l):PC P inv 122 [.sl 3 (l.map Section.c)] (·=.agg ((ends l).map AV.n)):=by
 refine zae (F:=cd122) (hH.has _ _ rfl) (Nat.le_of_ble_eq_true rfl) fun w0 M Q hM hQ hR=>?_;have hE:=hH.callable;dsimp only[cd122,qm,ql,qf,qi,qb,qc,qp,qv,qN,qT,qF,qt]at hQ ⊢
 repeat' (first|refine zab [0,2,4,5,6,7,8] fun K hK=>?_|refine AWp.block ?_|(refine hK.go ?_;clear hK K)|refine Cont.go (by assumption) ?_|(refine cnd2 rfl (fun h=>?_) (fun h=>?_)<;>(try first|exact h.elim|obtain rfl:(_:Bool)=true:=h|obtain rfl:(_:Bool)=false:=h)<;>first|(exfalso;omega)|skip)|((first|refine AWp.reg hE hM ?_|refine AWp.regd hE hM ?_|refine AWp.ret ?_|refine AWp.skip ?_|refine AWp.exit ?_|(refine pk2 (fun h=>?_) (fun h=>?_)<;>(try first|exact h.elim|obtain rfl:(_:Bool)=true:=h|obtain rfl:(_:Bool)=false:=h))|refine zac (fun h=>?_) ?_|(refine hQ _ _ _ rfl ?_;clear hQ hR hE hM)|(refine hR _ _ (hQ _ _ _ rfl ?_);clear hQ hR hE hM)|(refine zaf ?_ ?_;focus first|omega|(refine zad ?_;(refine no_implicit_lambda% (st ?_);try with_reducible exact True.intro);done)))<;>try (refine no_implicit_lambda% (st ?_);try with_reducible exact True.intro)))
 refine zaj (ι:=Nat×(List Int)) [2,5,6,7] (fun zz=>[(7,.n zz.1)]) (fun zz=>[(0,.cells (zz.2.map AV.n) true)]) (fun zz=>zz.1≤l.length∧(zz.2.length=100)∧(zg4 zz.2 (l.drop zz.1)=ends l)) (fun zz=>l.length-zz.1) (0,List.replicate 100 0) ⟨Nat.zero_le _,(by first|rfl|assumption|omega|(simp;done)|(simp;omega)|grind),(by first|rfl|assumption|omega|(simp;done)|(simp;omega)|grind)⟩ (by (try dsimp only);(refine no_implicit_lambda% (st ?_);try with_reducible exact True.intro)<;>first|omega|(simp;done)) (by (try dsimp only);(refine no_implicit_lambda% (st ?_);try with_reducible exact True.intro)<;>first|omega|(simp;done)) ?_;rintro ⟨k,a⟩ ⟨hk,hp,hg⟩;(try dsimp only at hk hp hg ⊢);rcases Nat.lt_or_ge k l.length with hlt|hge
 ·rw[zao hlt]at hg
  rw[zg4]at hg
  have hb:=hs _ (zat hlt)
  repeat' (first|refine zab [0,2,4,5,6,7,8] fun K hK=>?_|refine AWp.block ?_|(refine hK.go ?_;clear hK K)|refine Cont.go (by assumption) ?_|(refine cnd2 rfl (fun h=>?_) (fun h=>?_)<;>(try first|exact h.elim|obtain rfl:(_:Bool)=true:=h|obtain rfl:(_:Bool)=false:=h)<;>first|(exfalso;omega)|skip)|((first|refine AWp.reg hE hM ?_|refine AWp.regd hE hM ?_|refine AWp.ret ?_|refine AWp.skip ?_|refine AWp.exit ?_|(refine pk2 (fun h=>?_) (fun h=>?_)<;>(try first|exact h.elim|obtain rfl:(_:Bool)=true:=h|obtain rfl:(_:Bool)=false:=h))|refine zac (fun h=>?_) ?_|(refine hQ _ _ _ rfl ?_;clear hQ hR hE hM)|(refine hR _ _ (hQ _ _ _ rfl ?_);clear hQ hR hE hM)|(refine zaf ?_ ?_;focus first|omega|(refine zad ?_;(refine no_implicit_lambda% (st ?_);try with_reducible exact True.intro);done)))<;>try simp -dsimp -implicitDefEqProofs (disch:=omega) only[go_sem,reduceIte,↓reduceIte,Nat.reduceEqDiff,Nat.reduceLT,Nat.reduceLeDiff,Nat.reduceAdd,Nat.reduceSub,Nat.reduceMul,Int.reduceToNat,Int.reduceLT,Int.reduceLE,Int.reduceEq,Int.reduceNeg,Int.reduceNe,reduceCtorEq,hp]))
  refine ⟨(k+1,a.set (nth l k).id.toNat (nth l k).ends.length),by (try dsimp only);omega,⟨by (try dsimp only);omega,by (try dsimp only);simp[hp],hg⟩, ?_⟩;(try dsimp only);(first|omega|(simp;done)|(simp;omega)|((refine no_implicit_lambda% (st ?_);try with_reducible exact True.intro);done)|(simp[List.map_set, *];done)|(simp[List.map_set, *];rfl)|((refine no_implicit_lambda% (st ?_);try with_reducible exact True.intro);simp[List.map_set, *];done)|((try (refine no_implicit_lambda% (st ?_);try with_reducible exact True.intro));(repeat' refine And.intro ?_ ?_)<;>first|omega|rfl|(simp;done)|(simp;omega)|(simp;rfl)|(simp[List.map_set, *];done)|(simp[List.map_set, *];rfl)))
 ·rw[List.drop_eq_nil_of_le hge,zg4]at hg
  repeat' (first|refine zab [0,2,4,5,6,7,8] fun K hK=>?_|refine AWp.block ?_|(refine hK.go ?_;clear hK K)|refine Cont.go (by assumption) ?_|(refine cnd2 rfl (fun h=>?_) (fun h=>?_)<;>(try first|exact h.elim|obtain rfl:(_:Bool)=true:=h|obtain rfl:(_:Bool)=false:=h)<;>first|(exfalso;omega)|skip)|((first|refine AWp.reg hE hM ?_|refine AWp.regd hE hM ?_|refine AWp.ret ?_|refine AWp.skip ?_|refine AWp.exit ?_|(refine pk2 (fun h=>?_) (fun h=>?_)<;>(try first|exact h.elim|obtain rfl:(_:Bool)=true:=h|obtain rfl:(_:Bool)=false:=h))|refine zac (fun h=>?_) ?_|(refine hQ _ _ _ rfl ?_;clear hQ hR hE hM)|(refine hR _ _ (hQ _ _ _ rfl ?_);clear hQ hR hE hM)|(refine zaf ?_ ?_;focus first|omega|(refine zad ?_;(refine no_implicit_lambda% (st ?_);try with_reducible exact True.intro);done)))<;>try simp -dsimp -implicitDefEqProofs (disch:=omega) only[go_sem,reduceIte,↓reduceIte,Nat.reduceEqDiff,Nat.reduceLT,Nat.reduceLeDiff,Nat.reduceAdd,Nat.reduceSub,Nat.reduceMul,Int.reduceToNat,Int.reduceLT,Int.reduceLE,Int.reduceEq,Int.reduceNeg,Int.reduceNe,reduceCtorEq,hp]))
  subst hg
  refine hQ _ _ (.agg ((ends l).map AV.n)) (znW (l:=0) (b:=true) rfl rfl (by simp[hp]) (by omega)) ?_
  simp only[zez,zh7]
def zmn:List Int→Int→List Section→List Int×Int
 |a,m,[]=>(a,m)
 |a,m,s::r=>if 0<s.pt then zmn (a.set s.pt.toNat s.id) (m+1) r else zmn a m r
def zkk (a:List Int) (x:Pnt):Bool:=decide (x.sec=0)||!decide (nth a x.id.toNat=x.sec)
def pts (l:List Section):List Int×Int:=zmn (List.replicate 100 0) 0 l
def points (p:Pln):Bool:=rise (p.points.map Pnt.id) 6&&(decide ((pts p.sections).2=p.points.length)&&!p.points.any (zkk (pts p.sections).1))
theorem ptBad_pc (hH:HasAll P inv) (a:List Int) (ha:a.length=100) (x:Pnt) (hx:0≤x.id∧x.id≤99):PC P inv 132 ([.agg x.c]++[.ip 100 [a.map AV.n] 0 0]) (·=.b (zkk a x)):=by
 refine zae (F:=cd132) (hH.has _ _ rfl) (Nat.le_of_ble_eq_true rfl) fun w0 M Q hM hQ hR=>?_;have hE:=hH.callable;dsimp only[cd132,qm,ql,qf,qi,qb,qc,qp,qv,qN,qT,qF,qt]at hQ ⊢
 repeat' (first|refine zab [0,1,2,3] fun K hK=>?_|refine AWp.block ?_|(refine hK.go ?_;clear hK K)|refine Cont.go (by assumption) ?_|(refine cnd2 rfl (fun h=>?_) (fun h=>?_)<;>(try first|exact h.elim|obtain rfl:(_:Bool)=true:=h|obtain rfl:(_:Bool)=false:=h)<;>first|(exfalso;omega)|skip)|((first|refine AWp.reg hE hM ?_|refine AWp.regd hE hM ?_|refine AWp.ret ?_|refine AWp.skip ?_|refine AWp.exit ?_|(refine pk2 (fun h=>?_) (fun h=>?_)<;>(try first|exact h.elim|obtain rfl:(_:Bool)=true:=h|obtain rfl:(_:Bool)=false:=h))|refine zac (fun h=>?_) ?_|(refine hQ _ _ _ rfl ?_;clear hQ hR hE hM)|(refine hR _ _ (hQ _ _ _ rfl ?_);clear hQ hR hE hM)|(refine zaf ?_ ?_;focus first|omega|(refine zad ?_;(refine no_implicit_lambda% (st ?_);try with_reducible exact True.intro);done)))<;>try simp -dsimp -implicitDefEqProofs (disch:=omega) only[go_sem,reduceIte,↓reduceIte,Nat.reduceEqDiff,Nat.reduceLT,Nat.reduceLeDiff,Nat.reduceAdd,Nat.reduceSub,Nat.reduceMul,Int.reduceToNat,Int.reduceLT,Int.reduceLE,Int.reduceEq,Int.reduceNeg,Int.reduceNe,reduceCtorEq,ha]))
 all_goals (first|rfl|(grind[zkk])|(simp[zkk, *];done)|(simp_all [zkk];done)|(simp_all [zkk]<;>first|omega|((repeat' split)<;>first|rfl|(exfalso;omega))))
theorem zkZ:∀ {l:List Int} {p:Option Int},zda p l=true→∀ x∈l,1≤x∧x≤99
 |[],_,_,_,h=>by cases h
 |y::r,p,hr,x,hx=>by
  simp only[zda,Bool.and_eq_true,Bool.not_eq_true',decide_eq_false_iff_not]at hr
  rcases List.mem_cons.1 hx with rfl|hx
  ·omega
  ·exact zkZ hr.2 x hx
theorem zm4 (hH:HasAll P inv) (hI:HasIds P inv) (p:Pln) (h1:p.sections.length≤1000000000) (h2:p.points.length≤1000000000) (hs:SecOK p.sections):PC P inv 123 [.agg p.c] (·=.b (points p)):=by
 have c1:=zlL hH hI p.points 6 h2
 cases hr:rise (p.points.map Pnt.id) 6 with
 |false =>
  rw[hr]at c1
  refine zae (F:=cd123) (hH.has _ _ rfl) (Nat.le_of_ble_eq_true rfl) fun w0 M Q hM hQ hR=>?_;have hE:=hH.callable;dsimp only[cd123,qm,ql,qf,qi,qb,qc,qp,qv,qN,qT,qF,qt]at hQ ⊢
  repeat' (first|refine zab [0,1,2,3,4,6,10,12,13,14,15,20] fun K hK=>?_|refine AWp.block ?_|(refine hK.go ?_;clear hK K)|refine Cont.go (by assumption) ?_|(refine cnd2 rfl (fun h=>?_) (fun h=>?_)<;>(try first|exact h.elim|obtain rfl:(_:Bool)=true:=h|obtain rfl:(_:Bool)=false:=h)<;>first|(exfalso;omega)|skip)|((first|refine AWp.reg hE hM ?_|refine AWp.regd hE hM ?_|refine AWp.ret ?_|refine AWp.skip ?_|refine AWp.exit ?_|(refine pk2 (fun h=>?_) (fun h=>?_)<;>(try first|exact h.elim|obtain rfl:(_:Bool)=true:=h|obtain rfl:(_:Bool)=false:=h))|refine zac (fun h=>?_) ?_|refine zaa hM (c1) ?_|(refine hQ _ _ _ rfl ?_;clear hQ hR hE hM)|(refine hR _ _ (hQ _ _ _ rfl ?_);clear hQ hR hE hM)|(refine zaf ?_ ?_;focus first|omega|(refine zad ?_;(refine no_implicit_lambda% (st ?_);try with_reducible exact True.intro);done)))<;>try (refine no_implicit_lambda% (st ?_);try with_reducible exact True.intro)))
  all_goals simp[points,hr]
 |true =>
  rw[hr]at c1
  have hid:∀ x∈p.points,0≤x.id∧x.id≤99:=fun x hx=>by
   simp only[rise,Bool.and_eq_true]at hr
   have:=zkZ hr.1 x.id (List.mem_map_of_mem hx)
   omega
  refine zae (F:=cd123) (hH.has _ _ rfl) (Nat.le_of_ble_eq_true rfl) fun w0 M Q hM hQ hR=>?_;have hE:=hH.callable;dsimp only[cd123,qm,ql,qf,qi,qb,qc,qp,qv,qN,qT,qF,qt]at hQ ⊢
  repeat' (first|refine zab [0,1,2,3,4,6,10,12,13,14,15,20] fun K hK=>?_|refine AWp.block ?_|(refine hK.go ?_;clear hK K)|refine Cont.go (by assumption) ?_|(refine cnd2 rfl (fun h=>?_) (fun h=>?_)<;>(try first|exact h.elim|obtain rfl:(_:Bool)=true:=h|obtain rfl:(_:Bool)=false:=h)<;>first|(exfalso;omega)|skip)|((first|refine AWp.reg hE hM ?_|refine AWp.regd hE hM ?_|refine AWp.ret ?_|refine AWp.skip ?_|refine AWp.exit ?_|(refine pk2 (fun h=>?_) (fun h=>?_)<;>(try first|exact h.elim|obtain rfl:(_:Bool)=true:=h|obtain rfl:(_:Bool)=false:=h))|refine zac (fun h=>?_) ?_|refine zaa hM (c1) ?_|(refine hQ _ _ _ rfl ?_;clear hQ hR hE hM)|(refine hR _ _ (hQ _ _ _ rfl ?_);clear hQ hR hE hM)|(refine zaf ?_ ?_;focus first|omega|(refine zad ?_;(refine no_implicit_lambda% (st ?_);try with_reducible exact True.intro);done)))<;>try (refine no_implicit_lambda% (st ?_);try with_reducible exact True.intro)))
  refine zaj (ι:=Nat×(List Int)×Int) [1,2,3,4,12,13,14] (fun zz=>[(4,.n zz.2.2),(14,.n zz.1)]) (fun zz=>[(1,.cells (zz.2.1.map AV.n) true)]) (fun zz=>zz.1≤p.sections.length∧(zz.2.1.length=100)∧(0≤zz.2.2∧zz.2.2≤zz.1)∧(zmn zz.2.1 zz.2.2 (p.sections.drop zz.1)=pts p.sections)) (fun zz=>p.sections.length-zz.1) (0,List.replicate 100 0,0) ⟨Nat.zero_le _,(by first|rfl|assumption|omega|(simp;done)|(simp;omega)|grind),(by first|rfl|assumption|omega|(simp;done)|(simp;omega)|grind),(by first|rfl|assumption|omega|(simp;done)|(simp;omega)|grind)⟩ (by (try dsimp only);(refine no_implicit_lambda% (st ?_);try with_reducible exact True.intro)<;>first|omega|(simp;done)) (by (try dsimp only);(refine no_implicit_lambda% (st ?_);try with_reducible exact True.intro)<;>first|omega|(simp;done)) ?_;rintro ⟨k,a,m⟩ ⟨hk,hp,hm,hg⟩;(try dsimp only at hk hp hm hg ⊢);rcases Nat.lt_or_ge k p.sections.length with hlt|hge
  ·rw[zao hlt]at hg
   rw[zmn]at hg
   have hb:=hs _ (zat hlt)
   repeat' (first|refine zab [0,1,2,3,4,6,10,12,13,14,15,20] fun K hK=>?_|refine AWp.block ?_|(refine hK.go ?_;clear hK K)|refine Cont.go (by assumption) ?_|(refine cnd2 rfl (fun h=>?_) (fun h=>?_)<;>(try first|exact h.elim|obtain rfl:(_:Bool)=true:=h|obtain rfl:(_:Bool)=false:=h)<;>first|(exfalso;omega)|skip)|((first|refine AWp.reg hE hM ?_|refine AWp.regd hE hM ?_|refine AWp.ret ?_|refine AWp.skip ?_|refine AWp.exit ?_|(refine pk2 (fun h=>?_) (fun h=>?_)<;>(try first|exact h.elim|obtain rfl:(_:Bool)=true:=h|obtain rfl:(_:Bool)=false:=h))|refine zac (fun h=>?_) ?_|(refine hQ _ _ _ rfl ?_;clear hQ hR hE hM)|(refine hR _ _ (hQ _ _ _ rfl ?_);clear hQ hR hE hM)|(refine zaf ?_ ?_;focus first|omega|(refine zad ?_;(refine no_implicit_lambda% (st ?_);try with_reducible exact True.intro);done)))<;>try simp -dsimp -implicitDefEqProofs (disch:=omega) only[go_sem,reduceIte,↓reduceIte,Nat.reduceEqDiff,Nat.reduceLT,Nat.reduceLeDiff,Nat.reduceAdd,Nat.reduceSub,Nat.reduceMul,Int.reduceToNat,Int.reduceLT,Int.reduceLE,Int.reduceEq,Int.reduceNeg,Int.reduceNe,reduceCtorEq,hp]))
   ·rw[if_pos (by assumption)]at hg
    refine ⟨(k+1,a.set (nth p.sections k).pt.toNat (nth p.sections k).id,m+1),by (try dsimp only);omega,⟨by (try dsimp only);omega,by (try dsimp only);simp[hp],by (try dsimp only);omega,hg⟩, ?_⟩;(try dsimp only);(first|omega|(simp;done)|(simp;omega)|((refine no_implicit_lambda% (st ?_);try with_reducible exact True.intro);done)|(simp[List.map_set, *];done)|(simp[List.map_set, *];rfl)|((refine no_implicit_lambda% (st ?_);try with_reducible exact True.intro);simp[List.map_set, *];done)|((try (refine no_implicit_lambda% (st ?_);try with_reducible exact True.intro));(repeat' refine And.intro ?_ ?_)<;>first|omega|rfl|(simp;done)|(simp;omega)|(simp;rfl)|(simp[List.map_set, *];done)|(simp[List.map_set, *];rfl)))
   ·rw[if_neg (by assumption)]at hg
    refine ⟨(k+1,a,m),by (try dsimp only);omega,⟨by (try dsimp only);omega,hp,by (try dsimp only);omega,hg⟩, ?_⟩;(try dsimp only);(first|omega|(simp;done)|(simp;omega)|((refine no_implicit_lambda% (st ?_);try with_reducible exact True.intro);done)|(simp[List.map_set, *];done)|(simp[List.map_set, *];rfl)|((refine no_implicit_lambda% (st ?_);try with_reducible exact True.intro);simp[List.map_set, *];done)|((try (refine no_implicit_lambda% (st ?_);try with_reducible exact True.intro));(repeat' refine And.intro ?_ ?_)<;>first|omega|rfl|(simp;done)|(simp;omega)|(simp;rfl)|(simp[List.map_set, *];done)|(simp[List.map_set, *];rfl)))
  ·rw[List.drop_eq_nil_of_le hge,zmn]at hg
   have c2:=any_pnt hH p.points (fun x hx=>ptBad_pc hH a hp x (hid x hx)) h2
   repeat' (first|refine zab [0,1,2,3,4,6,10,12,13,14,15,20] fun K hK=>?_|refine AWp.block ?_|(refine hK.go ?_;clear hK K)|refine Cont.go (by assumption) ?_|(refine cnd2 rfl (fun h=>?_) (fun h=>?_)<;>(try first|exact h.elim|obtain rfl:(_:Bool)=true:=h|obtain rfl:(_:Bool)=false:=h)<;>first|(exfalso;omega)|skip)|((first|refine AWp.reg hE hM ?_|refine AWp.regd hE hM ?_|refine AWp.ret ?_|refine AWp.skip ?_|refine AWp.exit ?_|(refine pk2 (fun h=>?_) (fun h=>?_)<;>(try first|exact h.elim|obtain rfl:(_:Bool)=true:=h|obtain rfl:(_:Bool)=false:=h))|refine zac (fun h=>?_) ?_|(refine zam hM 4 ( c2) ?_ rfl ?_;(focus (simp -dsimp -implicitDefEqProofs (disch:=omega) only[go_sem,reduceIte,↓reduceIte,Nat.reduceEqDiff,Nat.reduceLT,Nat.reduceLeDiff,Nat.reduceAdd,Nat.reduceSub,Nat.reduceMul,Int.reduceToNat,Int.reduceLT,Int.reduceLE,Int.reduceEq,Int.reduceNeg,Int.reduceNe,reduceCtorEq,hp]<;>fail)))|(refine hQ _ _ _ rfl ?_;clear hQ hR hE hM)|(refine hR _ _ (hQ _ _ _ rfl ?_);clear hQ hR hE hM)|(refine zaf ?_ ?_;focus first|omega|(refine zad ?_;(refine no_implicit_lambda% (st ?_);try with_reducible exact True.intro);done)))<;>try simp -dsimp -implicitDefEqProofs (disch:=omega) only[go_sem,reduceIte,↓reduceIte,Nat.reduceEqDiff,Nat.reduceLT,Nat.reduceLeDiff,Nat.reduceAdd,Nat.reduceSub,Nat.reduceMul,Int.reduceToNat,Int.reduceLT,Int.reduceLE,Int.reduceEq,Int.reduceNeg,Int.reduceNe,reduceCtorEq,hp]))
   all_goals (simp only[points,hr,←hg];clear hg hr;simp[*])
end Go.Lev
namespace Go.Lev
open Go.Eng
set_option maxRecDepth 10000
set_option maxHeartbeats 4000000
variable {P:Program} {inv:Nat→Option Nat}
theorem runs300:zdo ((3,.b false)::(3,.b false)::(3,.b false)::(3,.b false)::(3,.b false)::(3,.b false)::(3,.b false)::(3,.b false)::(3,.b false)::(3,.b false)::(3,.b false)::(3,.b false)::(3,.b false)::(3,.b false)::(3,.b false)::(3,.b false)::(3,.b false)::(3,.b false)::(3,.b false)::(3,.b false)::(3,.b false)::(3,.b false)::(3,.b false)::(3,.b false)::(3,.b false)::(3,.b false)::(3,.b false)::(3,.b false)::(3,.b false)::(3,.b false)::(3,.b false)::(3,.b false)::(3,.b false)::(3,.b false)::(3,.b false)::(3,.b false)::(3,.b false)::(3,.b false)::(3,.b false)::(3,.b false)::(3,.b false)::(3,.b false)::(3,.b false)::(3,.b false)::(3,.b false)::(3,.b false)::(3,.b false)::(3,.b false)::(3,.b false)::(3,.b false)::(3,.b false)::(3,.b false)::(3,.b false)::(3,.b false)::(3,.b false)::(3,.b false)::(3,.b false)::(3,.b false)::(3,.b false)::(3,.b false)::(3,.b false)::(3,.b false)::(3,.b false)::(3,.b false)::(3,.b false)::(3,.b false)::(3,.b false)::(3,.b false)::(3,.b false)::(3,.b false)::(3,.b false)::(3,.b false)::(3,.b false)::(3,.b false)::(3,.b false)::(3,.b false)::(3,.b false)::(3,.b false)::(3,.b false)::(3,.b false)::(3,.b false)::(3,.b false)::(3,.b false)::(3,.b false)::(3,.b false)::(3,.b false)::(3,.b false)::(3,.b false)::(3,.b false)::(3,.b false)::(3,.b false)::(3,.b false)::(3,.b false)::(3,.b false)::(3,.b false)::(3,.b false)::(3,.b false)::(3,.b false)::(3,.b false)::(3,.b false)::[])=(List.replicate 300 false).map AV.b:=rfl
attribute [go_sem high] runs300
def zgd (x:Sgn):Nat:=x.sec.toNat*3+x.ed.toNat
def zdk (sec:List Int) (at_:List Bool) (x:Sgn):Bool:=!zcG sec x.sec||(decide (x.ed<0)||(decide (nth sec x.sec.toNat≤x.ed)||nth at_ (zgd x)))
def ziZ (sec:List Int):List Bool→List Sgn→Bool
 |_,[]=>true
 |a,x::r=>!zdk sec a x&&ziZ sec (a.set (zgd x) true) r
def signals (p:Pln) (sec:List Int):Bool:=rise (p.signals.map Sgn.id) 10&&ziZ sec (List.replicate 300 false) p.signals
theorem zlE (hH:HasAll P inv) (hI:HasIds P inv) (p:Pln) (h2:p.signals.length≤1000000000) (sec:List Int) (hs:sec.length=100) (hs3:∀ i,nth sec i≤3):PC P inv 124 [.agg p.c,.agg (sec.map AV.n)] (·=.b (signals p sec)):=by
 have c1:=zlJ hH hI p.signals 10 h2
 have ht:(sec.map AV.n).take 100=sec.map AV.n:=List.take_of_length_le (by simp[hs])
 cases hr:rise (p.signals.map Sgn.id) 10 with
 |false =>
  rw[hr]at c1
  refine zae (F:=cd124) (hH.has _ _ rfl) (Nat.le_of_ble_eq_true rfl) fun w0 M Q hM hQ hR=>?_;have hE:=hH.callable;dsimp only[cd124,qm,ql,qf,qi,qb,qc,qp,qv,qN,qT,qF,qt]at hQ ⊢
  repeat' (first|refine zab [0,1,2,3,4,5,7,11,13,14,15,16,22,46] fun K hK=>?_|refine AWp.block ?_|(refine hK.go ?_;clear hK K)|refine Cont.go (by assumption) ?_|(refine cnd2 rfl (fun h=>?_) (fun h=>?_)<;>(try first|exact h.elim|obtain rfl:(_:Bool)=true:=h|obtain rfl:(_:Bool)=false:=h)<;>first|(exfalso;omega)|skip)|((first|refine AWp.reg hE hM ?_|refine AWp.regd hE hM ?_|refine AWp.ret ?_|refine AWp.skip ?_|refine AWp.exit ?_|(refine pk2 (fun h=>?_) (fun h=>?_)<;>(try first|exact h.elim|obtain rfl:(_:Bool)=true:=h|obtain rfl:(_:Bool)=false:=h))|refine zac (fun h=>?_) ?_|refine zaa hM (c1) ?_|(refine hQ _ _ _ rfl ?_;clear hQ hR hE hM)|(refine hR _ _ (hQ _ _ _ rfl ?_);clear hQ hR hE hM)|(refine zaf ?_ ?_;focus first|omega|(refine zad ?_;(refine no_implicit_lambda% (st ?_);try with_reducible exact True.intro);done)))<;>try (refine no_implicit_lambda% (st ?_);try with_reducible exact True.intro)))
  all_goals simp[signals,hr]
 |true =>
  rw[hr]at c1
  refine zae (F:=cd124) (hH.has _ _ rfl) (Nat.le_of_ble_eq_true rfl) fun w0 M Q hM hQ hR=>?_;have hE:=hH.callable;dsimp only[cd124,qm,ql,qf,qi,qb,qc,qp,qv,qN,qT,qF,qt]at hQ ⊢
  repeat' (first|refine zab [0,1,2,3,4,5,7,11,13,14,15,16,22,46] fun K hK=>?_|refine AWp.block ?_|(refine hK.go ?_;clear hK K)|refine Cont.go (by assumption) ?_|(refine cnd2 rfl (fun h=>?_) (fun h=>?_)<;>(try first|exact h.elim|obtain rfl:(_:Bool)=true:=h|obtain rfl:(_:Bool)=false:=h)<;>first|(exfalso;omega)|skip)|((first|refine AWp.reg hE hM ?_|refine AWp.regd hE hM ?_|refine AWp.ret ?_|refine AWp.skip ?_|refine AWp.exit ?_|(refine pk2 (fun h=>?_) (fun h=>?_)<;>(try first|exact h.elim|obtain rfl:(_:Bool)=true:=h|obtain rfl:(_:Bool)=false:=h))|refine zac (fun h=>?_) ?_|refine zaa hM (c1) ?_|(refine hQ _ _ _ rfl ?_;clear hQ hR hE hM)|(refine hR _ _ (hQ _ _ _ rfl ?_);clear hQ hR hE hM)|(refine zaf ?_ ?_;focus first|omega|(refine zad ?_;(refine no_implicit_lambda% (st ?_);try with_reducible exact True.intro);done)))<;>try simp -dsimp -implicitDefEqProofs (disch:=omega) only[go_sem,reduceIte,↓reduceIte,Nat.reduceEqDiff,Nat.reduceLT,Nat.reduceLeDiff,Nat.reduceAdd,Nat.reduceSub,Nat.reduceMul,Int.reduceToNat,Int.reduceLT,Int.reduceLE,Int.reduceEq,Int.reduceNeg,Int.reduceNe,reduceCtorEq,hs,ht]))
  refine zaj (ι:=Nat×(List Bool)) [3,4,5,13,14,15] (fun zz=>[(15,.n zz.1)]) (fun zz=>[(2,.cells (zz.2.map AV.b) true)]) (fun zz=>zz.1≤p.signals.length∧(zz.2.length=300)∧(ziZ sec zz.2 (p.signals.drop zz.1)=ziZ sec (List.replicate 300 false) p.signals)) (fun zz=>p.signals.length-zz.1) (0,List.replicate 300 false) ⟨Nat.zero_le _,(by first|rfl|assumption|omega|(simp;done)|(simp;omega)|grind),(by first|rfl|assumption|omega|(simp;done)|(simp;omega)|grind)⟩ (by (try dsimp only);(refine no_implicit_lambda% (st ?_);try with_reducible exact True.intro)<;>first|omega|(simp;done)) (by (try dsimp only);(refine no_implicit_lambda% (st ?_);try with_reducible exact True.intro)<;>first|omega|(simp;done)) ?_;rintro ⟨k,a⟩ ⟨hk,hp,hg⟩;(try dsimp only at hk hp hg ⊢);rcases Nat.lt_or_ge k p.signals.length with hlt|hge
  ·rw[zao hlt]at hg
   rw[ziZ]at hg
   have c2:=zkQ hH sec hs (nth p.signals k).sec
   have hb:=hs3 (nth p.signals k).sec.toNat
   cases hth:zcG sec (nth p.signals k).sec with
   |false =>
    rw[hth]at c2
    rw[show zdk sec a (nth p.signals k)=true by simp[zdk,hth]]at hg
    repeat' (first|refine zab [0,1,2,3,4,5,7,11,13,14,15,16,22,46] fun K hK=>?_|refine AWp.block ?_|(refine hK.go ?_;clear hK K)|refine Cont.go (by assumption) ?_|(refine cnd2 rfl (fun h=>?_) (fun h=>?_)<;>(try first|exact h.elim|obtain rfl:(_:Bool)=true:=h|obtain rfl:(_:Bool)=false:=h)<;>first|(exfalso;omega)|skip)|((first|refine AWp.reg hE hM ?_|refine AWp.regd hE hM ?_|refine AWp.ret ?_|refine AWp.skip ?_|refine AWp.exit ?_|(refine pk2 (fun h=>?_) (fun h=>?_)<;>(try first|exact h.elim|obtain rfl:(_:Bool)=true:=h|obtain rfl:(_:Bool)=false:=h))|refine zac (fun h=>?_) ?_|refine zaa hM (c2) ?_|(refine hQ _ _ _ rfl ?_;clear hQ hR hE hM)|(refine hR _ _ (hQ _ _ _ rfl ?_);clear hQ hR hE hM)|(refine zaf ?_ ?_;focus first|omega|(refine zad ?_;(refine no_implicit_lambda% (st ?_);try with_reducible exact True.intro);done)))<;>try simp -dsimp -implicitDefEqProofs (disch:=omega) only[go_sem,reduceIte,↓reduceIte,Nat.reduceEqDiff,Nat.reduceLT,Nat.reduceLeDiff,Nat.reduceAdd,Nat.reduceSub,Nat.reduceMul,Int.reduceToNat,Int.reduceLT,Int.reduceLE,Int.reduceEq,Int.reduceNeg,Int.reduceNe,reduceCtorEq,hp,hs,ht]))
    all_goals simp only[signals,hr,←hg,Bool.and_false,Bool.not_true,Bool.false_and]
   |true =>
    rw[hth]at c2
    have h0:0≤(nth p.signals k).sec∧(nth p.signals k).sec≤99:=by simp only[zcG,Bool.and_eq_true,decide_eq_true_eq]at hth;omega
    repeat' (first|refine zab [0,1,2,3,4,5,7,11,13,14,15,16,22,46] fun K hK=>?_|refine AWp.block ?_|(refine hK.go ?_;clear hK K)|refine Cont.go (by assumption) ?_|(refine cnd2 rfl (fun h=>?_) (fun h=>?_)<;>(try first|exact h.elim|obtain rfl:(_:Bool)=true:=h|obtain rfl:(_:Bool)=false:=h)<;>first|(exfalso;omega)|skip)|((first|refine AWp.reg hE hM ?_|refine AWp.regd hE hM ?_|refine AWp.ret ?_|refine AWp.skip ?_|refine AWp.exit ?_|(refine pk2 (fun h=>?_) (fun h=>?_)<;>(try first|exact h.elim|obtain rfl:(_:Bool)=true:=h|obtain rfl:(_:Bool)=false:=h))|refine zac (fun h=>?_) ?_|refine zaa hM (c2) ?_|(refine hQ _ _ _ rfl ?_;clear hQ hR hE hM)|(refine hR _ _ (hQ _ _ _ rfl ?_);clear hQ hR hE hM)|(refine zaf ?_ ?_;focus first|omega|(refine zad ?_;(refine no_implicit_lambda% (st ?_);try with_reducible exact True.intro);done)))<;>try simp -dsimp -implicitDefEqProofs (disch:=omega) only[go_sem,reduceIte,↓reduceIte,Nat.reduceEqDiff,Nat.reduceLT,Nat.reduceLeDiff,Nat.reduceAdd,Nat.reduceSub,Nat.reduceMul,Int.reduceToNat,Int.reduceLT,Int.reduceLE,Int.reduceEq,Int.reduceNeg,Int.reduceNe,reduceCtorEq,hp,hs,ht]))
    ·rw[show zdk sec a (nth p.signals k)=true by simp[zdk,zgd,hth, *]]at hg
     simp only[signals,hr,←hg,Bool.and_false,Bool.not_true,Bool.false_and]
    ·rw[show zdk sec a (nth p.signals k)=true by simp[zdk,zgd,hth, *]]at hg
     simp only[signals,hr,←hg,Bool.and_false,Bool.not_true,Bool.false_and]
    ·rw[show zdk sec a (nth p.signals k)=true by simp[zdk,zgd,hth, *]]at hg
     simp only[signals,hr,←hg,Bool.and_false,Bool.not_true,Bool.false_and]
    ·rw[show zdk sec a (nth p.signals k)=false by simp[zdk,zgd,hth, *]]at hg
     refine ⟨(k+1,a.set (zgd (nth p.signals k)) true),by (try dsimp only);omega,⟨by (try dsimp only);omega,by (try dsimp only);simp[hp],hg⟩, ?_⟩;(try dsimp only);(first|omega|(simp;done)|(simp;omega)|((refine no_implicit_lambda% (st ?_);try with_reducible exact True.intro);done)|(simp[List.map_set, *];done)|(simp[List.map_set, *];rfl)|((refine no_implicit_lambda% (st ?_);try with_reducible exact True.intro);simp[List.map_set, *];done)|((try (refine no_implicit_lambda% (st ?_);try with_reducible exact True.intro));(repeat' refine And.intro ?_ ?_)<;>first|omega|rfl|(simp;done)|(simp;omega)|(simp;rfl)|(simp[List.map_set, *];done)|(simp[List.map_set, *];rfl)))
  ·rw[List.drop_eq_nil_of_le hge,ziZ]at hg
   repeat' (first|refine zab [0,1,2,3,4,5,7,11,13,14,15,16,22,46] fun K hK=>?_|refine AWp.block ?_|(refine hK.go ?_;clear hK K)|refine Cont.go (by assumption) ?_|(refine cnd2 rfl (fun h=>?_) (fun h=>?_)<;>(try first|exact h.elim|obtain rfl:(_:Bool)=true:=h|obtain rfl:(_:Bool)=false:=h)<;>first|(exfalso;omega)|skip)|((first|refine AWp.reg hE hM ?_|refine AWp.regd hE hM ?_|refine AWp.ret ?_|refine AWp.skip ?_|refine AWp.exit ?_|(refine pk2 (fun h=>?_) (fun h=>?_)<;>(try first|exact h.elim|obtain rfl:(_:Bool)=true:=h|obtain rfl:(_:Bool)=false:=h))|refine zac (fun h=>?_) ?_|(refine hQ _ _ _ rfl ?_;clear hQ hR hE hM)|(refine hR _ _ (hQ _ _ _ rfl ?_);clear hQ hR hE hM)|(refine zaf ?_ ?_;focus first|omega|(refine zad ?_;(refine no_implicit_lambda% (st ?_);try with_reducible exact True.intro);done)))<;>try simp -dsimp -implicitDefEqProofs (disch:=omega) only[go_sem,reduceIte,↓reduceIte,Nat.reduceEqDiff,Nat.reduceLT,Nat.reduceLeDiff,Nat.reduceAdd,Nat.reduceSub,Nat.reduceMul,Int.reduceToNat,Int.reduceLT,Int.reduceLE,Int.reduceEq,Int.reduceNeg,Int.reduceNe,reduceCtorEq,hp]))
   all_goals simp only[signals,hr,←hg,Bool.and_self]
end Go.Lev
namespace Go.Lev
open Go.Eng
set_option maxRecDepth 10000
set_option maxHeartbeats 4000000
variable {P:Program} {inv:Nat→Option Nat}
def zmp (sec:List Int):List Bool→List Int→Bool
 |_,[]=>true
 |m,x::r=>!(!zcG sec x||nth m x.toNat)&&zmp sec (m.set x.toNat true) r
def znX (pts:List Pnt) (pr:Option Int) (f:Flk):Bool:=!(pts.find? fun x=>decide (x.id=f.pnt)).isSome||((match pr with|some y=>decide (f.pnt≤y)|none=>false)||(!decide (f.lie=1)&&!decide (f.lie=2)))
def flkG (pts:List Pnt):Option Int→List Flk→Bool
 |_,[]=>true
 |pr,f::r=>!znX pts pr f&&flkG pts (some f.pnt) r
def zke (p:Pln) (r:Rte):Bool:=(p.signals.find? fun x=>decide (x.id=r.entry)).isSome&&(!(!decide (r.exit=0)&&(!(p.signals.find? fun x=>decide (x.id=r.exit)).isSome||decide (r.exit=r.entry)))&&!(decide (r.exit=0)&&decide (0<(r.over.length:Int))))
def zff (r:Rte):Bool:=!decide ((r.path.length:Int)<1)&&(!decide (6<(r.path.length:Int))&&(!decide (2<(r.over.length:Int))&&!decide (3<(r.flanks.length:Int))))
def zeH (r:Rte):Bool:=!decide (r.timer<1)&&!decide (9<r.timer)
def zid (p:Pln) (r:Rte) (sec:List Int):Bool:=zmp sec ((List.replicate 100 false).set ((p.signals.find? fun x=>decide (x.id=r.entry)).getD Sgn.z).sec.toNat true) (r.path++r.over)
def zfg (p:Pln) (r:Rte) (sec:List Int):Bool:=zke p r&&(zff r&&(zeH r&&(zid p r sec&&flkG p.points none r.flanks)))
def lst (l:List Int):List AV:=[.sl 1 (l.map zhq)]
theorem find_mem {α:Type} {q:α→Bool} {l:List α} {x:α} (h:l.find? q=some x):x∈l:=List.mem_of_find?_eq_some h
theorem route_pc (hH:HasAll P inv) (hI:HasIds P inv) (p:Pln) (r:Rte) (h1:p.signals.length≤1000000000) (h2:p.points.length≤1000000000) (hf:r.flanks.length≤9223372036854775807) (hpa:r.path.length≤9223372036854775807) (hov:r.over.length≤9223372036854775807) (sec:List Int) (hs:sec.length=100) (hsig:∀ x∈p.signals,0≤x.sec∧x.sec≤99):PC P inv 126 [.agg p.c,.agg r.c,.agg (sec.map AV.n)] (·=.b (zfg p r sec)):=by
 have c1:=zlj hH hI p.signals h1 r.entry
 have c2:=zlj hH hI p.signals h1 r.exit
 have ht:(sec.map AV.n).take 100=sec.map AV.n:=List.take_of_length_le (by simp[hs])
 have he:0≤((p.signals.find? fun x=>decide (x.id=r.entry)).getD Sgn.z).sec∧((p.signals.find? fun x=>decide (x.id=r.entry)).getD Sgn.z).sec≤99:=by
  cases ha:(p.signals.find? fun x=>decide (x.id=r.entry)) with
  |none=>simp[Sgn.z]
  |some x=>exact hsig x (find_mem ha)
 have hr:zfg p r sec=(zke p r&&(zff r&&(zeH r&&(zid p r sec&&flkG p.points none r.flanks)))):=rfl
 revert hr
 generalize zfg p r sec=ans
 unfold zid zke
 revert c1 c2 he
 generalize (p.signals.find? fun x=>decide (x.id=r.entry)).isSome=ia
 generalize (p.signals.find? fun x=>decide (x.id=r.entry)).getD Sgn.z=e
 generalize (p.signals.find? fun x=>decide (x.id=r.exit)).isSome=ib
 generalize (p.signals.find? fun x=>decide (x.id=r.exit)).getD Sgn.z=e'
 intro c1 c2 he hr
 refine zae (F:=cd126) (hH.has _ _ rfl) (Nat.le_of_ble_eq_true rfl) fun w0 M Q hM hQ hR=>?_;have hE:=hH.callable;dsimp only[cd126,qm,ql,qf,qi,qb,qc,qp,qv,qN,qT,qF,qt]at hQ ⊢
 repeat' (first|(refine zab [0,1,2,3,4,5,6,7,8,10,11,13,15,16,17,19,36,62,79,93,94,95,96,99,100,101,102,113,119,120,121,122,161] fun K hK=>cnd2 rfl (fun h=>?_) (fun h=>?_)<;>(try first|exact h.elim|obtain rfl:(_:Bool)=true:=h|obtain rfl:(_:Bool)=false:=h)<;>first|(exfalso;omega)|skip)|refine AWp.block ?_|(refine hK.go ?_;clear hK K)|refine Cont.go (by assumption) ?_|(refine cnd2 rfl (fun h=>?_) (fun h=>?_)<;>(try first|exact h.elim|obtain rfl:(_:Bool)=true:=h|obtain rfl:(_:Bool)=false:=h)<;>first|(exfalso;omega)|skip)|((first|refine zab [0,1,2,3,4,5,6,7,8,10,11,13,15,16,17,19,36,62,79,93,94,95,96,99,100,101,102,113,119,120,121,122,161] fun K hK=>AWp.reg hE hM ?_|refine zab [0,1,2,3,4,5,6,7,8,10,11,13,15,16,17,19,36,62,79,93,94,95,96,99,100,101,102,113,119,120,121,122,161] fun K hK=>AWp.regd hE hM ?_|refine AWp.reg hE hM ?_|refine AWp.regd hE hM ?_|refine AWp.ret ?_|refine AWp.skip ?_|refine AWp.exit ?_|(refine pk2 (fun h=>?_) (fun h=>?_)<;>(try first|exact h.elim|obtain rfl:(_:Bool)=true:=h|obtain rfl:(_:Bool)=false:=h))|refine zac (fun h=>?_) ?_|refine zaa hM (c1) ?_|refine zaa hM (c2) ?_|(refine hQ _ _ _ rfl ?_;clear hQ hR hE hM)|(refine hR _ _ (hQ _ _ _ rfl ?_);clear hQ hR hE hM)|(refine zaf ?_ ?_;focus first|omega|(refine zad ?_;(refine no_implicit_lambda% (st ?_);try with_reducible exact True.intro);done)))<;>try simp -dsimp -implicitDefEqProofs (disch:=omega) only[go_sem,reduceIte,↓reduceIte,Nat.reduceEqDiff,Nat.reduceLT,Nat.reduceLeDiff,Nat.reduceAdd,Nat.reduceSub,Nat.reduceMul,Int.reduceToNat,Int.reduceLT,Int.reduceLE,Int.reduceEq,Int.reduceNeg,Int.reduceNe,reduceCtorEq,ht]))
 refine AWp.mid [0,1,2,3,4,5,6,7] (ans=(zmp sec ((List.replicate 100 false).set e.sec.toNat true) (r.path++r.over)&&flkG p.points none r.flanks)) ?_ fun hr=>?_
 ·repeat' (first|refine zab [0,1,2,3,4,5,6,7,8,10,11,13,15,16,17,19,36,62,79,93,94,95,96,99,100,101,102,113,119,120,121,122,161] fun K hK=>?_|refine AWp.block ?_|(refine hK.go ?_;clear hK K)|refine Cont.go (by assumption) ?_|(refine cnd2 rfl (fun h=>?_) (fun h=>?_)<;>(try first|exact h.elim|obtain rfl:(_:Bool)=true:=h|obtain rfl:(_:Bool)=false:=h)<;>first|(exfalso;omega)|skip)|((first|refine AWp.reg hE hM ?_|refine AWp.regd hE hM ?_|refine AWp.ret ?_|refine AWp.skip ?_|refine AWp.exit ?_|(refine pk2 (fun h=>?_) (fun h=>?_)<;>(try first|exact h.elim|obtain rfl:(_:Bool)=true:=h|obtain rfl:(_:Bool)=false:=h))|refine zac (fun h=>?_) ?_|(refine hQ _ _ _ rfl ?_;clear hQ hR hE hM)|(refine hR _ _ (hQ _ _ _ rfl ?_);clear hQ hR hE hM)|(refine zaf ?_ ?_;focus first|omega|(refine zad ?_;(refine no_implicit_lambda% (st ?_);try with_reducible exact True.intro);done)))<;>try (refine no_implicit_lambda% (st ?_);try with_reducible exact True.intro)))
  all_goals (first|(grind[zff,zeH])|(refine ⟨?_, ?_⟩<;>first|(grind[zff,zeH])|(simp;done)))
 ·clear c1 c2
  repeat' (first|refine zab [0,1,2,3,4,5,6,7,8,10,11,13,15,16,17,19,36,62,79,93,94,95,96,99,100,101,102,113,119,120,121,122,161] fun K hK=>?_|refine AWp.block ?_|(refine hK.go ?_;clear hK K)|refine Cont.go (by assumption) ?_|(refine cnd2 rfl (fun h=>?_) (fun h=>?_)<;>(try first|exact h.elim|obtain rfl:(_:Bool)=true:=h|obtain rfl:(_:Bool)=false:=h)<;>first|(exfalso;omega)|skip)|((first|refine AWp.reg hE hM ?_|refine AWp.regd hE hM ?_|refine AWp.ret ?_|refine AWp.skip ?_|refine AWp.exit ?_|(refine pk2 (fun h=>?_) (fun h=>?_)<;>(try first|exact h.elim|obtain rfl:(_:Bool)=true:=h|obtain rfl:(_:Bool)=false:=h))|refine zac (fun h=>?_) ?_|(refine hQ _ _ _ rfl ?_;clear hQ hR hE hM)|(refine hR _ _ (hQ _ _ _ rfl ?_);clear hQ hR hE hM)|(refine zaf ?_ ?_;focus first|omega|(refine zad ?_;(refine no_implicit_lambda% (st ?_);try with_reducible exact True.intro);done)))<;>try simp -dsimp -implicitDefEqProofs (disch:=omega) only[go_sem,reduceIte,↓reduceIte,Nat.reduceEqDiff,Nat.reduceLT,Nat.reduceLeDiff,Nat.reduceAdd,Nat.reduceSub,Nat.reduceMul,Int.reduceToNat,Int.reduceLT,Int.reduceLE,Int.reduceEq,Int.reduceNeg,Int.reduceNe,reduceCtorEq,ht]))
  obtain ⟨L,hL⟩:∃ L,L=[r.path,r.over]:=⟨_,rfl⟩
  have hLl:L.length=2:=by rw[hL];rfl
  have hLf:L.flatten=r.path++r.over:=by rw[hL];simp
  rw[show [[AV.sl 1 (r.path.map zhq)],[AV.sl 1 (r.over.map zhq)]]=L.map lst by rw[hL];rfl]
  rw[←hLf]at hr
  have hLb:∀ i,i<2→(nth L i).length≤9223372036854775807:=by
   intro i hi
   rcases (show i=0∨i=1 by omega) with rfl|rfl<;>(rw[hL];simpa [nth] using by omega)
  clear hL hLf
  rw[show (List.replicate 100 (AV.b false)).set e.sec.toNat (AV.b true)=((List.replicate 100 false).set e.sec.toNat true).map AV.b by rw[List.map_set,List.map_replicate]]
  have hp0:((List.replicate 100 false).set e.sec.toNat true).length=100:=by simp
  revert hr hp0
  generalize (List.replicate 100 false).set e.sec.toNat true=m0
  intro hr hp0
  refine zaj (ι:=Nat×(List Bool)) [3,4,5,6,11,93,94,95] (fun zz=>[(95,.n zz.1)]) (fun zz=>[(5,.cells (zz.2.map AV.b) true)]) (fun zz=>zz.1≤2∧(zz.2.length=100)∧(zmp sec zz.2 (L.drop zz.1).flatten=zmp sec m0 L.flatten)) (fun zz=>2-zz.1) (0,m0) ⟨Nat.zero_le _,(by first|rfl|assumption|omega|(simp;done)|(simp;omega)|grind),(by first|rfl|assumption|omega|(simp;done)|(simp;omega)|grind)⟩ (by (try dsimp only);(refine no_implicit_lambda% (st ?_);try with_reducible exact True.intro)<;>first|omega|(simp;done)) (by (try dsimp only);(refine no_implicit_lambda% (st ?_);try with_reducible exact True.intro)<;>first|omega|(simp;done)) ?_;rintro ⟨k,m⟩ ⟨hk,hp,hg⟩;(try dsimp only at hk hp hg ⊢);rcases Nat.lt_or_ge k 2 with hlt|hge
  ·rw[zao (by omega),List.flatten_cons]at hg
   have hb:=hLb k hlt
   repeat' (first|refine zab [0,1,2,3,4,5,6,7,8,10,11,13,15,16,17,19,36,62,79,93,94,95,96,99,100,101,102,113,119,120,121,122,161] fun K hK=>?_|refine AWp.block ?_|(refine hK.go ?_;clear hK K)|refine Cont.go (by assumption) ?_|(refine cnd2 rfl (fun h=>?_) (fun h=>?_)<;>(try first|exact h.elim|obtain rfl:(_:Bool)=true:=h|obtain rfl:(_:Bool)=false:=h)<;>first|(exfalso;omega)|skip)|((first|refine AWp.reg hE hM ?_|refine AWp.regd hE hM ?_|refine AWp.ret ?_|refine AWp.skip ?_|refine AWp.exit ?_|(refine pk2 (fun h=>?_) (fun h=>?_)<;>(try first|exact h.elim|obtain rfl:(_:Bool)=true:=h|obtain rfl:(_:Bool)=false:=h))|refine zac (fun h=>?_) ?_|(refine hQ _ _ _ rfl ?_;clear hQ hR hE hM)|(refine hR _ _ (hQ _ _ _ rfl ?_);clear hQ hR hE hM)|(refine zaf ?_ ?_;focus first|omega|(refine zad ?_;(refine no_implicit_lambda% (st ?_);try with_reducible exact True.intro);done)))<;>try simp -dsimp -implicitDefEqProofs (disch:=omega) only[go_sem,reduceIte,↓reduceIte,Nat.reduceEqDiff,Nat.reduceLT,Nat.reduceLeDiff,Nat.reduceAdd,Nat.reduceSub,Nat.reduceMul,Int.reduceToNat,Int.reduceLT,Int.reduceLE,Int.reduceEq,Int.reduceNeg,Int.reduceNe,reduceCtorEq,ht,lst]))
   refine zaj (ι:=Nat×(List Bool)) [3,4,5,6,11,93,94,95,99,100,101] (fun zz=>[(101,.n zz.1)]) (fun zz=>[(5,.cells (zz.2.map AV.b) true)]) (fun zz=>zz.1≤(nth L k).length∧(zz.2.length=100)∧(zmp sec zz.2 ((nth L k).drop zz.1++(L.drop (k+1)).flatten)=zmp sec m0 L.flatten)) (fun zz=>(nth L k).length-zz.1) (0,m) ⟨Nat.zero_le _,(by first|rfl|assumption|omega|(simp;done)|(simp;omega)|grind),(by first|rfl|assumption|omega|(simp;done)|(simp;omega)|grind)⟩ (by (try dsimp only);(refine no_implicit_lambda% (st ?_);try with_reducible exact True.intro)<;>first|omega|(simp;done)) (by (try dsimp only);(refine no_implicit_lambda% (st ?_);try with_reducible exact True.intro)<;>first|omega|(simp;done)) ?_;rintro ⟨i,q⟩ ⟨hk,hq,hf'⟩;(try dsimp only at hk hq hf' ⊢);rcases Nat.lt_or_ge i (nth L k).length with hlt|hge
   ·rw[zao (by assumption),List.cons_append,zmp]at hf'
    have c2:=zkQ hH sec hs (nth (nth L k) i)
    cases hth:zcG sec (nth (nth L k) i) with
    |false =>
     rw[hth]at c2 hf'
     repeat' (first|refine zab [0,1,2,3,4,5,6,7,8,10,11,13,15,16,17,19,36,62,79,93,94,95,96,99,100,101,102,113,119,120,121,122,161] fun K hK=>?_|refine AWp.block ?_|(refine hK.go ?_;clear hK K)|refine Cont.go (by assumption) ?_|(refine cnd2 rfl (fun h=>?_) (fun h=>?_)<;>(try first|exact h.elim|obtain rfl:(_:Bool)=true:=h|obtain rfl:(_:Bool)=false:=h)<;>first|(exfalso;omega)|skip)|((first|refine AWp.reg hE hM ?_|refine AWp.regd hE hM ?_|refine AWp.ret ?_|refine AWp.skip ?_|refine AWp.exit ?_|(refine pk2 (fun h=>?_) (fun h=>?_)<;>(try first|exact h.elim|obtain rfl:(_:Bool)=true:=h|obtain rfl:(_:Bool)=false:=h))|refine zac (fun h=>?_) ?_|refine zaa hM (c2) ?_|(refine hQ _ _ _ rfl ?_;clear hQ hR hE hM)|(refine hR _ _ (hQ _ _ _ rfl ?_);clear hQ hR hE hM)|(refine zaf ?_ ?_;focus first|omega|(refine zad ?_;(refine no_implicit_lambda% (st ?_);try with_reducible exact True.intro);done)))<;>try simp -dsimp -implicitDefEqProofs (disch:=omega) only[go_sem,reduceIte,↓reduceIte,Nat.reduceEqDiff,Nat.reduceLT,Nat.reduceLeDiff,Nat.reduceAdd,Nat.reduceSub,Nat.reduceMul,Int.reduceToNat,Int.reduceLT,Int.reduceLE,Int.reduceEq,Int.reduceNeg,Int.reduceNe,reduceCtorEq,hs,ht,hq]))
     all_goals (rw[hr,←hf'];simp)
    |true =>
     rw[hth]at c2 hf'
     have h0:0≤nth (nth L k) i∧nth (nth L k) i≤99:=by simp only[zcG,Bool.and_eq_true,decide_eq_true_eq]at hth;omega
     repeat' (first|refine zab [0,1,2,3,4,5,6,7,8,10,11,13,15,16,17,19,36,62,79,93,94,95,96,99,100,101,102,113,119,120,121,122,161] fun K hK=>?_|refine AWp.block ?_|(refine hK.go ?_;clear hK K)|refine Cont.go (by assumption) ?_|(refine cnd2 rfl (fun h=>?_) (fun h=>?_)<;>(try first|exact h.elim|obtain rfl:(_:Bool)=true:=h|obtain rfl:(_:Bool)=false:=h)<;>first|(exfalso;omega)|skip)|((first|refine AWp.reg hE hM ?_|refine AWp.regd hE hM ?_|refine AWp.ret ?_|refine AWp.skip ?_|refine AWp.exit ?_|(refine pk2 (fun h=>?_) (fun h=>?_)<;>(try first|exact h.elim|obtain rfl:(_:Bool)=true:=h|obtain rfl:(_:Bool)=false:=h))|refine zac (fun h=>?_) ?_|refine zaa hM (c2) ?_|(refine hQ _ _ _ rfl ?_;clear hQ hR hE hM)|(refine hR _ _ (hQ _ _ _ rfl ?_);clear hQ hR hE hM)|(refine zaf ?_ ?_;focus first|omega|(refine zad ?_;(refine no_implicit_lambda% (st ?_);try with_reducible exact True.intro);done)))<;>try simp -dsimp -implicitDefEqProofs (disch:=omega) only[go_sem,reduceIte,↓reduceIte,Nat.reduceEqDiff,Nat.reduceLT,Nat.reduceLeDiff,Nat.reduceAdd,Nat.reduceSub,Nat.reduceMul,Int.reduceToNat,Int.reduceLT,Int.reduceLE,Int.reduceEq,Int.reduceNeg,Int.reduceNe,reduceCtorEq,hs,ht,hq]))
     ·rw[hr,←hf'];simp[*]
     ·refine ⟨(i+1,q.set (nth (nth L k) i).toNat true),by (try dsimp only);omega,⟨by (try dsimp only);omega,by (try dsimp only);simp[hq],by (try dsimp only);rw[←hf'];simp[*]⟩, ?_⟩;(try dsimp only);(first|omega|(simp;done)|(simp;omega)|((refine no_implicit_lambda% (st ?_);try with_reducible exact True.intro);done)|(simp[List.map_set, *];done)|(simp[List.map_set, *];rfl)|((refine no_implicit_lambda% (st ?_);try with_reducible exact True.intro);simp[List.map_set, *];done)|((try (refine no_implicit_lambda% (st ?_);try with_reducible exact True.intro));(repeat' refine And.intro ?_ ?_)<;>first|omega|rfl|(simp;done)|(simp;omega)|(simp;rfl)|(simp[List.map_set, *];done)|(simp[List.map_set, *];rfl)))
   ·rw[List.drop_eq_nil_of_le (by assumption),List.nil_append]at hf'
    repeat' (first|refine zab [0,1,2,3,4,5,6,7,8,10,11,13,15,16,17,19,36,62,79,93,94,95,96,99,100,101,102,113,119,120,121,122,161] fun K hK=>?_|refine AWp.block ?_|(refine hK.go ?_;clear hK K)|refine Cont.go (by assumption) ?_|(refine cnd2 rfl (fun h=>?_) (fun h=>?_)<;>(try first|exact h.elim|obtain rfl:(_:Bool)=true:=h|obtain rfl:(_:Bool)=false:=h)<;>first|(exfalso;omega)|skip)|((first|refine AWp.reg hE hM ?_|refine AWp.regd hE hM ?_|refine AWp.ret ?_|refine AWp.skip ?_|refine AWp.exit ?_|(refine pk2 (fun h=>?_) (fun h=>?_)<;>(try first|exact h.elim|obtain rfl:(_:Bool)=true:=h|obtain rfl:(_:Bool)=false:=h))|refine zac (fun h=>?_) ?_|(refine hQ _ _ _ rfl ?_;clear hQ hR hE hM)|(refine hR _ _ (hQ _ _ _ rfl ?_);clear hQ hR hE hM)|(refine zaf ?_ ?_;focus first|omega|(refine zad ?_;(refine no_implicit_lambda% (st ?_);try with_reducible exact True.intro);done)))<;>try simp -dsimp -implicitDefEqProofs (disch:=omega) only[go_sem,reduceIte,↓reduceIte,Nat.reduceEqDiff,Nat.reduceLT,Nat.reduceLeDiff,Nat.reduceAdd,Nat.reduceSub,Nat.reduceMul,Int.reduceToNat,Int.reduceLT,Int.reduceLE,Int.reduceEq,Int.reduceNeg,Int.reduceNe,reduceCtorEq,hs,ht,hq]))
    refine ⟨(k+1,q),by (try dsimp only);omega,⟨by (try dsimp only);omega,hq,hf'⟩, ?_⟩;(try dsimp only);(first|omega|(simp;done)|(simp;omega)|((refine no_implicit_lambda% (st ?_);try with_reducible exact True.intro);done)|(simp[List.map_set, *];done)|(simp[List.map_set, *];rfl)|((refine no_implicit_lambda% (st ?_);try with_reducible exact True.intro);simp[List.map_set, *];done)|((try (refine no_implicit_lambda% (st ?_);try with_reducible exact True.intro));(repeat' refine And.intro ?_ ?_)<;>first|omega|rfl|(simp;done)|(simp;omega)|(simp;rfl)|(simp[List.map_set, *];done)|(simp[List.map_set, *];rfl)))
  ·rw[List.drop_eq_nil_of_le (by omega)]at hg
   rw[←hg]at hr
   clear hg hp0
   simp only[List.flatten_nil,zmp,Bool.true_and]at hr
   repeat' (first|refine zab [0,1,2,3,4,5,6,7,8,10,11,13,15,16,17,19,36,62,79,93,94,95,96,99,100,101,102,113,119,120,121,122,161] fun K hK=>?_|refine AWp.block ?_|(refine hK.go ?_;clear hK K)|refine Cont.go (by assumption) ?_|(refine cnd2 rfl (fun h=>?_) (fun h=>?_)<;>(try first|exact h.elim|obtain rfl:(_:Bool)=true:=h|obtain rfl:(_:Bool)=false:=h)<;>first|(exfalso;omega)|skip)|((first|refine AWp.reg hE hM ?_|refine AWp.regd hE hM ?_|refine AWp.ret ?_|refine AWp.skip ?_|refine AWp.exit ?_|(refine pk2 (fun h=>?_) (fun h=>?_)<;>(try first|exact h.elim|obtain rfl:(_:Bool)=true:=h|obtain rfl:(_:Bool)=false:=h))|refine zac (fun h=>?_) ?_|(refine hQ _ _ _ rfl ?_;clear hQ hR hE hM)|(refine hR _ _ (hQ _ _ _ rfl ?_);clear hQ hR hE hM)|(refine zaf ?_ ?_;focus first|omega|(refine zad ?_;(refine no_implicit_lambda% (st ?_);try with_reducible exact True.intro);done)))<;>try (refine no_implicit_lambda% (st ?_);try with_reducible exact True.intro)))
   refine zaj (ι:=Nat) [3,4,6,119,120,121] (fun zz=>[(121,.n zz)]) (fun zz=>[]) (fun zz=>zz≤r.flanks.length∧(flkG p.points (zjj (r.flanks.map Flk.pnt) zz) (r.flanks.drop zz)=flkG p.points none r.flanks)) (fun zz=>r.flanks.length-zz) (0) ⟨Nat.zero_le _,(by first|rfl|assumption|omega|(simp;done)|(simp;omega)|grind)⟩ (by (try dsimp only);(refine no_implicit_lambda% (st ?_);try with_reducible exact True.intro)<;>first|omega|(simp;done)) (by (try dsimp only);(refine no_implicit_lambda% (st ?_);try with_reducible exact True.intro)<;>first|omega|(simp;done)) ?_;rintro k2 ⟨hk,hf'⟩;(try dsimp only at hk hf' ⊢);rcases Nat.lt_or_ge k2 r.flanks.length with hlt|hge
   ·rw[zao (by assumption),flkG,←zji Flk.pnt (by assumption)]at hf'
    have c3:=find_pnt hH hI p.points h2 (nth r.flanks k2).pnt
    unfold znX at hf'
    rw[zm3 Flk.pnt (by assumption)]at hf'
    revert c3 hf'
    generalize (p.points.find? fun x=>decide (x.id=(nth r.flanks k2).pnt)).isSome=ic
    generalize (p.points.find? fun x=>decide (x.id=(nth r.flanks k2).pnt)).getD Pnt.z=y
    intro hf' c3
    repeat' (first|refine zab [0,1,2,3,4,5,6,7,8,10,11,13,15,16,17,19,36,62,79,93,94,95,96,99,100,101,102,113,119,120,121,122,161] fun K hK=>?_|refine AWp.block ?_|(refine hK.go ?_;clear hK K)|refine Cont.go (by assumption) ?_|(refine cnd2 rfl (fun h=>?_) (fun h=>?_)<;>(try first|exact h.elim|obtain rfl:(_:Bool)=true:=h|obtain rfl:(_:Bool)=false:=h)<;>first|(exfalso;omega)|skip)|((first|refine AWp.reg hE hM ?_|refine AWp.regd hE hM ?_|refine AWp.ret ?_|refine AWp.skip ?_|refine AWp.exit ?_|(refine pk2 (fun h=>?_) (fun h=>?_)<;>(try first|exact h.elim|obtain rfl:(_:Bool)=true:=h|obtain rfl:(_:Bool)=false:=h))|refine zac (fun h=>?_) ?_|refine zaa hM (c3) ?_|(refine hQ _ _ _ rfl ?_;clear hQ hR hE hM)|(refine hR _ _ (hQ _ _ _ rfl ?_);clear hQ hR hE hM)|(refine zaf ?_ ?_;focus first|omega|(refine zad ?_;(refine no_implicit_lambda% (st ?_);try with_reducible exact True.intro);done)))<;>try (refine no_implicit_lambda% (st ?_);try with_reducible exact True.intro)))
    all_goals first|(first|rw[if_pos (show 0<(k2:Int) by assumption)]at hf'|rw[if_neg (show ¬0<(k2:Int) by assumption)]at hf'|skip)
    all_goals (clear c3;(try clear hQ hR);(try generalize (nth r.flanks ((k2:Int)-1).toNat).pnt=y0 at *))
    all_goals first|(rw[hr,←hf'];clear hr hf';simp[*];done)|(refine ⟨k2+1,by omega,⟨by omega, ?_⟩,by omega⟩;rw[←hf'];clear hf' hr;simp[*];done)
   ·rw[List.drop_eq_nil_of_le (by assumption),flkG]at hf'
    repeat' (first|refine zab [0,1,2,3,4,5,6,7,8,10,11,13,15,16,17,19,36,62,79,93,94,95,96,99,100,101,102,113,119,120,121,122,161] fun K hK=>?_|refine AWp.block ?_|(refine hK.go ?_;clear hK K)|refine Cont.go (by assumption) ?_|(refine cnd2 rfl (fun h=>?_) (fun h=>?_)<;>(try first|exact h.elim|obtain rfl:(_:Bool)=true:=h|obtain rfl:(_:Bool)=false:=h)<;>first|(exfalso;omega)|skip)|((first|refine AWp.reg hE hM ?_|refine AWp.regd hE hM ?_|refine AWp.ret ?_|refine AWp.skip ?_|refine AWp.exit ?_|(refine pk2 (fun h=>?_) (fun h=>?_)<;>(try first|exact h.elim|obtain rfl:(_:Bool)=true:=h|obtain rfl:(_:Bool)=false:=h))|refine zac (fun h=>?_) ?_|(refine hQ _ _ _ rfl ?_;clear hQ hR hE hM)|(refine hR _ _ (hQ _ _ _ rfl ?_);clear hQ hR hE hM)|(refine zaf ?_ ?_;focus first|omega|(refine zad ?_;(refine no_implicit_lambda% (st ?_);try with_reducible exact True.intro);done)))<;>try (refine no_implicit_lambda% (st ?_);try with_reducible exact True.intro)))
    rw[hr,←hf']
end Go.Lev
