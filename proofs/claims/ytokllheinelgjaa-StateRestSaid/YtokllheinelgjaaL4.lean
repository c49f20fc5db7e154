/-
  A part of the engine that walks the functions' codes, and of the functions' contracts. Conditions: those that each theorem names.
-/
import Derived.Test.YtokllheinelgjaaL3
import Derived.IntWalk
set_option linter.unusedSimpArgs false
set_option linter.unusedVariables false
set_option linter.unusedSectionVars false
namespace Go.Lev
open Go.Eng
set_option maxRecDepth 10000
set_option maxHeartbeats 4000000
variable {P:Program} {inv:Nat→Option Nat}
structure Sm (p:Pln):Prop where
 sec:p.sections.length≤1000000
 ends:∀ s∈p.sections,s.ends.length≤9223372036854775807
 pts:p.points.length≤1000000
 sgn:p.signals.length≤1000000
 rte:p.routes.length≤1000000
 rtes:∀ r∈p.routes,r.path.length≤9223372036854775807∧r.over.length≤9223372036854775807∧r.flanks.length≤9223372036854775807
theorem znb (hH:HasAll P inv) (l:List Section) (hl:l.length≤1000000000) (he:∀ s∈l,s.ends.length≤9223372036854775807):PC P inv 26 [.sl 3 (l.map Section.c)] (·=.n (zf4 l)):=check_eq l▸check_pc hH l hl he
def zbw (p:Pln):Int:=if zb6 p=true then 0 else 8
theorem sgn_sec {p:Pln} (hm:zh1 p.sections=true) (h:signals p (ends p.sections)=true):∀ x∈p.signals,0≤x.sec∧x.sec≤99:=fun x hx=>by
 simp only[signals,Bool.and_eq_true]at h
 have:=(zfH _ _ _ h.2 x hx).1
 simp only[zcq,Bool.and_eq_true,decide_eq_true_eq]at this
 omega
theorem zfb (hH:HasAll P inv) (hI:HasIds P inv) (p:Pln) (hp:Sm p):PC P inv 95 [.agg p.c] (·=.n (zbw p)):=by
 have hlr:=hp.rte
 have c0:=znb hH p.sections (Nat.le_trans hp.sec (by omega)) hp.ends
 cases hm:zh1 p.sections with
 |false =>
  rw[show zf4 p.sections=8 by simp[zf4,hm]]at c0
  rw[show zbw p=8 by simp[zbw,zb6,hm]]
  refine zae (F:=cd95) (hH.has _ _ rfl) (Nat.le_of_ble_eq_true rfl) fun w0 M Q hM hQ hR=>?_;have hE:=hH.callable;dsimp only[cd95,qm,ql,qf,qi,qb,qc,qp,qv,qN,qT,qF,qt]at hQ ⊢
  repeat' (first|refine zaa [0,1,2,3,5,31,49,51,52,53,54,61] fun K hK=>?_|refine AWp.block ?_|(refine hK.go ?_;clear hK K)|refine Cont.go (by assumption) ?_|(refine cnd2 rfl (fun h=>?_) (fun h=>?_)<;>(try first|exact h.elim|obtain rfl:(_:Bool)=true:=h|obtain rfl:(_:Bool)=false:=h)<;>first|(exfalso;omega)|skip)|((first|refine AWp.reg hE hM ?_|refine AWp.regd hE hM ?_|refine AWp.ret ?_|refine AWp.skip ?_|refine AWp.exit ?_|(refine pk2 (fun h=>?_) (fun h=>?_)<;>(try first|exact h.elim|obtain rfl:(_:Bool)=true:=h|obtain rfl:(_:Bool)=false:=h))|refine zab (fun h=>?_) ?_|refine zad hM (c0) ?_|(refine hQ _ _ _ rfl ?_;clear hQ hR hE hM)|(refine hR _ _ (hQ _ _ _ rfl ?_);clear hQ hR hE hM)|(refine zaf ?_ ?_;focus first|omega|(refine zac ?_;(refine no_implicit_lambda% (st ?_);try with_reducible exact True.intro);done)))<;>try (refine no_implicit_lambda% (st ?_);try with_reducible exact True.intro)))
  all_goals (first|rfl|omega)
 |true =>
  rw[show zf4 p.sections=0 by simp[zf4,hm]]at c0
  have c1:=ends_pc hH p.sections (Nat.le_trans hp.sec (by omega)) (zb0 hm)
  have c2:=zmd hH hI p (Nat.le_trans hp.sec (by omega)) (Nat.le_trans hp.pts (by omega)) (zb0 hm)
  have c3:=zkU hH hI p (Nat.le_trans hp.sgn (by omega)) (ends p.sections) (zkD _) (ends_le hm)
  have c4:=zkZ hH hI p.routes 16 (Nat.le_trans hp.rte (by omega))
  have hlen:=zkD p.sections
  have ht:((ends p.sections).map AV.n).take 100=(ends p.sections).map AV.n:=List.take_of_length_le (by simp[hlen])
  have hov:ovl (List.replicate 100 (AV.i .i64 0)) 0 ((ends p.sections).map AV.n)=(ends p.sections).map AV.n:=by
   rw[zko _ _ _ (by simp[hlen]),List.take_zero,List.nil_append,List.drop_eq_nil_of_le (by simp[hlen]),List.append_nil]
  cases hv:(points p&&(signals p (ends p.sections)&&rise (p.routes.map Rte.id) 16)) with
  |false =>
   rw[show zbw p=8 by
    unfold zbw
    rw[if_neg]
    intro h
    simp only[zb6,Bool.and_eq_true]at h
    rw[h.2.1,h.2.2.1,h.2.2.2.1]at hv
    cases hv]
   refine zae (F:=cd95) (hH.has _ _ rfl) (Nat.le_of_ble_eq_true rfl) fun w0 M Q hM hQ hR=>?_;have hE:=hH.callable;dsimp only[cd95,qm,ql,qf,qi,qb,qc,qp,qv,qN,qT,qF,qt]at hQ ⊢
   repeat' (first|refine zaa [0,1,2,3,5,31,49,51,52,53,54,61] fun K hK=>?_|refine AWp.block ?_|(refine hK.go ?_;clear hK K)|refine Cont.go (by assumption) ?_|(refine cnd2 rfl (fun h=>?_) (fun h=>?_)<;>(try first|exact h.elim|obtain rfl:(_:Bool)=true:=h|obtain rfl:(_:Bool)=false:=h)<;>first|(exfalso;omega)|skip)|((first|refine AWp.reg hE hM ?_|refine AWp.regd hE hM ?_|refine AWp.ret ?_|refine AWp.skip ?_|refine AWp.exit ?_|(refine pk2 (fun h=>?_) (fun h=>?_)<;>(try first|exact h.elim|obtain rfl:(_:Bool)=true:=h|obtain rfl:(_:Bool)=false:=h))|refine zab (fun h=>?_) ?_|refine zad hM (c0) ?_|refine zad hM (c1) ?_|refine zad hM (c2) ?_|refine zad hM (c3) ?_|refine zad hM (c4) ?_|(refine hQ _ _ _ rfl ?_;clear hQ hR hE hM)|(refine hR _ _ (hQ _ _ _ rfl ?_);clear hQ hR hE hM)|(refine zaf ?_ ?_;focus first|omega|(refine zac ?_;(refine no_implicit_lambda% (st ?_);try with_reducible exact True.intro);done)))<;>try simp -dsimp -implicitDefEqProofs (disch:=omega) only[go_sem,reduceIte,↓reduceIte,Nat.reduceEqDiff,Nat.reduceLT,Nat.reduceLeDiff,Nat.reduceAdd,Nat.reduceSub,Nat.reduceMul,Int.reduceToNat,Int.reduceLT,Int.reduceLE,Int.reduceEq,Int.reduceNeg,Int.reduceNe,reduceCtorEq,hlen,ht,hov]))
   all_goals (first|rfl|omega|(simp_all;done))
  |true =>
   simp only[Bool.and_eq_true]at hv
   rw[hv.1]at c2
   rw[hv.2.1]at c3
   rw[hv.2.2]at c4
   have hsg:=sgn_sec hm hv.2.1
   have h0:zbw p=if (decide (p.version<1)||(decide (2147483647<p.version)||(decide (p.parent<0)||decide (p.version≤p.parent))))=true then 8 else if (p.routes.all fun r=>zfh p r (ends p.sections))=true then 0 else 8:=by
    simp only[zbw,zb6,hm,hv.1,hv.2.1,hv.2.2]
    cases decide (p.version<1)<;>cases decide (2147483647<p.version)<;>cases decide (p.parent<0)<;>cases decide (p.version≤p.parent)<;>simp
   refine zae (F:=cd95) (hH.has _ _ rfl) (Nat.le_of_ble_eq_true rfl) fun w0 M Q hM hQ hR=>?_;have hE:=hH.callable;dsimp only[cd95,qm,ql,qf,qi,qb,qc,qp,qv,qN,qT,qF,qt]at hQ ⊢
   repeat' (first|refine zaa [0,1,2,3,5,31,49,51,52,53,54,61] fun K hK=>?_|refine AWp.block ?_|(refine hK.go ?_;clear hK K)|refine Cont.go (by assumption) ?_|(refine cnd2 rfl (fun h=>?_) (fun h=>?_)<;>(try first|exact h.elim|obtain rfl:(_:Bool)=true:=h|obtain rfl:(_:Bool)=false:=h)<;>first|(exfalso;omega)|skip)|((first|refine AWp.reg hE hM ?_|refine AWp.regd hE hM ?_|refine AWp.ret ?_|refine AWp.skip ?_|refine AWp.exit ?_|(refine pk2 (fun h=>?_) (fun h=>?_)<;>(try first|exact h.elim|obtain rfl:(_:Bool)=true:=h|obtain rfl:(_:Bool)=false:=h))|refine zab (fun h=>?_) ?_|refine zad hM (c0) ?_|refine zad hM (c1) ?_|refine zad hM (c2) ?_|refine zad hM (c3) ?_|refine zad hM (c4) ?_|(refine hQ _ _ _ rfl ?_;clear hQ hR hE hM)|(refine hR _ _ (hQ _ _ _ rfl ?_);clear hQ hR hE hM)|(refine zaf ?_ ?_;focus first|omega|(refine zac ?_;(refine no_implicit_lambda% (st ?_);try with_reducible exact True.intro);done)))<;>try simp -dsimp -implicitDefEqProofs (disch:=omega) only[go_sem,reduceIte,↓reduceIte,Nat.reduceEqDiff,Nat.reduceLT,Nat.reduceLeDiff,Nat.reduceAdd,Nat.reduceSub,Nat.reduceMul,Int.reduceToNat,Int.reduceLT,Int.reduceLE,Int.reduceEq,Int.reduceNeg,Int.reduceNe,reduceCtorEq,hlen,ht,hov]))
   all_goals try (rw[h0,if_pos (by simp[*])];done)
   refine zai (ι:=Nat) [1,2,3,51,52,53] (fun zz=>[(53,.n zz)]) (fun zz=>[]) (fun zz=>zz≤p.routes.length∧(((p.routes.drop zz).all fun r=>zfh p r (ends p.sections))=(p.routes.all fun r=>zfh p r (ends p.sections)))) (fun zz=>p.routes.length-zz) (0) ⟨Nat.zero_le _,(by first|rfl|assumption|omega|(simp;done)|(simp;omega)|grind)⟩ (by (try dsimp only);(refine no_implicit_lambda% (st ?_);try with_reducible exact True.intro)<;>first|omega|(simp;done)) (by (try dsimp only);(refine no_implicit_lambda% (st ?_);try with_reducible exact True.intro)<;>first|omega|(simp;done)) ?_;rintro k ⟨hk,hg⟩;(try dsimp only at hk hg ⊢);rcases Nat.lt_or_ge k p.routes.length with hlt|hge
   ·rw[zaq hlt]at hg
    rw[List.all_cons]at hg
    repeat' (first|refine zaa [0,1,2,3,5,31,49,51,52,53,54,61] fun K hK=>?_|refine AWp.block ?_|(refine hK.go ?_;clear hK K)|refine Cont.go (by assumption) ?_|(refine cnd2 rfl (fun h=>?_) (fun h=>?_)<;>(try first|exact h.elim|obtain rfl:(_:Bool)=true:=h|obtain rfl:(_:Bool)=false:=h)<;>first|(exfalso;omega)|skip)|((first|refine AWp.reg hE hM ?_|refine AWp.regd hE hM ?_|refine AWp.ret ?_|refine AWp.skip ?_|refine AWp.exit ?_|(refine pk2 (fun h=>?_) (fun h=>?_)<;>(try first|exact h.elim|obtain rfl:(_:Bool)=true:=h|obtain rfl:(_:Bool)=false:=h))|refine zab (fun h=>?_) ?_|refine zad hM (route_pc hH hI p (nth p.routes k) (Nat.le_trans hp.sgn (by omega)) (Nat.le_trans hp.pts (by omega)) (Nat.le_trans (hp.rtes _ (zas hlt)).2.2 (by omega)) (Nat.le_trans (hp.rtes _ (zas hlt)).1 (by omega)) (Nat.le_trans (hp.rtes _ (zas hlt)).2.1 (by omega)) _ hlen hsg) ?_|(refine hQ _ _ _ rfl ?_;clear hQ hR hE hM)|(refine hR _ _ (hQ _ _ _ rfl ?_);clear hQ hR hE hM)|(refine zaf ?_ ?_;focus first|omega|(refine zac ?_;(refine no_implicit_lambda% (st ?_);try with_reducible exact True.intro);done)))<;>try simp -dsimp -implicitDefEqProofs (disch:=omega) only[go_sem,reduceIte,↓reduceIte,Nat.reduceEqDiff,Nat.reduceLT,Nat.reduceLeDiff,Nat.reduceAdd,Nat.reduceSub,Nat.reduceMul,Int.reduceToNat,Int.reduceLT,Int.reduceLE,Int.reduceEq,Int.reduceNeg,Int.reduceNe,reduceCtorEq,hlen,ht,hov]))
    ·rw[h0,←hg];simp[*]
    ·refine ⟨(k+1),by (try dsimp only);omega,⟨by (try dsimp only);omega,by (try dsimp only);rw[←hg];simp[*]⟩, ?_⟩;(try dsimp only);(first|omega|(simp;done)|(simp;omega)|((refine no_implicit_lambda% (st ?_);try with_reducible exact True.intro);done)|(simp[List.map_set, *];done)|(simp[List.map_set, *];rfl)|((refine no_implicit_lambda% (st ?_);try with_reducible exact True.intro);simp[List.map_set, *];done)|((try (refine no_implicit_lambda% (st ?_);try with_reducible exact True.intro));(repeat' refine And.intro ?_ ?_)<;>first|omega|rfl|(simp;done)|(simp;omega)|(simp;rfl)|(simp[List.map_set, *];done)|(simp[List.map_set, *];rfl)))
   ·rw[List.drop_eq_nil_of_le hge]at hg
    repeat' (first|refine zaa [0,1,2,3,5,31,49,51,52,53,54,61] fun K hK=>?_|refine AWp.block ?_|(refine hK.go ?_;clear hK K)|refine Cont.go (by assumption) ?_|(refine cnd2 rfl (fun h=>?_) (fun h=>?_)<;>(try first|exact h.elim|obtain rfl:(_:Bool)=true:=h|obtain rfl:(_:Bool)=false:=h)<;>first|(exfalso;omega)|skip)|((first|refine AWp.reg hE hM ?_|refine AWp.regd hE hM ?_|refine AWp.ret ?_|refine AWp.skip ?_|refine AWp.exit ?_|(refine pk2 (fun h=>?_) (fun h=>?_)<;>(try first|exact h.elim|obtain rfl:(_:Bool)=true:=h|obtain rfl:(_:Bool)=false:=h))|refine zab (fun h=>?_) ?_|(refine hQ _ _ _ rfl ?_;clear hQ hR hE hM)|(refine hR _ _ (hQ _ _ _ rfl ?_);clear hQ hR hE hM)|(refine zaf ?_ ?_;focus first|omega|(refine zac ?_;(refine no_implicit_lambda% (st ?_);try with_reducible exact True.intro);done)))<;>try (refine no_implicit_lambda% (st ?_);try with_reducible exact True.intro)))
    rw[h0,←hg,if_neg (by simp[*])];rfl
theorem zcX (hH:HasAll P inv) (l:List Int) (h:l.length≤1000000):PC P inv 108 [.sl 1 (l.map zgM)] (·=.sl 1 (l.map zgM)):=by
 refine zae (F:=cd108) (hH.has _ _ rfl) (Nat.le_of_ble_eq_true rfl) fun w0 M Q hM hQ hR=>?_;have hE:=hH.callable;dsimp only[cd108,qm,ql,qf,qi,qb,qc,qp,qv,qN,qT,qF,qt]at hQ ⊢
 repeat' (first|refine zaa [0,2,4] fun K hK=>?_|refine AWp.block ?_|(refine hK.go ?_;clear hK K)|refine Cont.go (by assumption) ?_|(refine cnd2 rfl (fun h=>?_) (fun h=>?_)<;>(try first|exact h.elim|obtain rfl:(_:Bool)=true:=h|obtain rfl:(_:Bool)=false:=h)<;>first|(exfalso;omega)|skip)|((first|refine AWp.reg hE hM ?_|refine AWp.regd hE hM ?_|refine AWp.ret ?_|refine AWp.skip ?_|refine AWp.exit ?_|(refine pk2 (fun h=>?_) (fun h=>?_)<;>(try first|exact h.elim|obtain rfl:(_:Bool)=true:=h|obtain rfl:(_:Bool)=false:=h))|refine zab (fun h=>?_) ?_|(refine hQ _ _ _ rfl ?_;clear hQ hR hE hM)|(refine hR _ _ (hQ _ _ _ rfl ?_);clear hQ hR hE hM)|(refine zaf ?_ ?_;focus first|omega|(refine zac ?_;(refine no_implicit_lambda% (st ?_);try with_reducible exact True.intro);done)))<;>try (refine no_implicit_lambda% (st ?_);try with_reducible exact True.intro)))
 ·have h0:l.length=0:=by assumption
  obtain rfl:=List.length_eq_zero_iff.1 h0
  rfl
theorem zjO (hH:HasAll P inv) (l:List Flk) (h:l.length≤1000000):PC P inv 128 [.sl 2 (l.map Flk.c)] (·=.sl 2 (l.map Flk.c)):=by
 refine zae (F:=cd128) (hH.has _ _ rfl) (Nat.le_of_ble_eq_true rfl) fun w0 M Q hM hQ hR=>?_;have hE:=hH.callable;dsimp only[cd128,qm,ql,qf,qi,qb,qc,qp,qv,qN,qT,qF,qt]at hQ ⊢
 repeat' (first|refine zaa [0,2,4] fun K hK=>?_|refine AWp.block ?_|(refine hK.go ?_;clear hK K)|refine Cont.go (by assumption) ?_|(refine cnd2 rfl (fun h=>?_) (fun h=>?_)<;>(try first|exact h.elim|obtain rfl:(_:Bool)=true:=h|obtain rfl:(_:Bool)=false:=h)<;>first|(exfalso;omega)|skip)|((first|refine AWp.reg hE hM ?_|refine AWp.regd hE hM ?_|refine AWp.ret ?_|refine AWp.skip ?_|refine AWp.exit ?_|(refine pk2 (fun h=>?_) (fun h=>?_)<;>(try first|exact h.elim|obtain rfl:(_:Bool)=true:=h|obtain rfl:(_:Bool)=false:=h))|refine zab (fun h=>?_) ?_|(refine hQ _ _ _ rfl ?_;clear hQ hR hE hM)|(refine hR _ _ (hQ _ _ _ rfl ?_);clear hQ hR hE hM)|(refine zaf ?_ ?_;focus first|omega|(refine zac ?_;(refine no_implicit_lambda% (st ?_);try with_reducible exact True.intro);done)))<;>try (refine no_implicit_lambda% (st ?_);try with_reducible exact True.intro)))
 ·have h0:l.length=0:=by assumption
  obtain rfl:=List.length_eq_zero_iff.1 h0
  rfl
theorem zkO (hH:HasAll P inv) (r:Rte) (h:r.path.length≤1000000∧r.over.length≤1000000∧r.flanks.length≤1000000):PC P inv 99 [.agg r.c] (·=.agg r.c):=by
 refine zae (F:=cd99) (hH.has _ _ rfl) (Nat.le_of_ble_eq_true rfl) fun w0 M Q hM hQ hR=>?_;have hE:=hH.callable;dsimp only[cd99,qm,ql,qf,qi,qb,qc,qp,qv,qN,qT,qF,qt]at hQ ⊢
 repeat' (first|refine zaa [0,1,2] fun K hK=>?_|refine AWp.block ?_|(refine hK.go ?_;clear hK K)|refine Cont.go (by assumption) ?_|(refine cnd2 rfl (fun h=>?_) (fun h=>?_)<;>(try first|exact h.elim|obtain rfl:(_:Bool)=true:=h|obtain rfl:(_:Bool)=false:=h)<;>first|(exfalso;omega)|skip)|((first|refine AWp.reg hE hM ?_|refine AWp.regd hE hM ?_|refine AWp.ret ?_|refine AWp.skip ?_|refine AWp.exit ?_|(refine pk2 (fun h=>?_) (fun h=>?_)<;>(try first|exact h.elim|obtain rfl:(_:Bool)=true:=h|obtain rfl:(_:Bool)=false:=h))|refine zab (fun h=>?_) ?_|refine zad hM (zcX hH _ h.1) ?_|refine zad hM (zcX hH _ h.2.1) ?_|refine zad hM (zjO hH _ h.2.2) ?_|(refine hQ _ _ _ rfl ?_;clear hQ hR hE hM)|(refine hR _ _ (hQ _ _ _ rfl ?_);clear hQ hR hE hM)|(refine zaf ?_ ?_;focus first|omega|(refine zac ?_;(refine no_implicit_lambda% (st ?_);try with_reducible exact True.intro);done)))<;>try (refine no_implicit_lambda% (st ?_);try with_reducible exact True.intro)))
def zed (p:Pln) (n:Int):Rte×Int:=if zb6 p=true then (match p.routes.find? fun x=>decide (x.id=n) with|some r=>(r,0)|none=>(Rte.z,6)) else (Rte.z,8)
theorem zjT (hH:HasAll P inv) (hI:HasIds P inv) (p:Pln) (hp:Sm p) (n:Int):PC P inv 98 [.agg p.c,.sl 7 (p.routes.map Rte.c),.n n] (·=.tup [.agg (zed p n).1.c,.n (zed p n).2]):=by
 have c0:=zfb hH hI p hp
 have c1:=find_rte hH hI p.routes (Nat.le_trans hp.rte (by omega)) n
 cases ho:zb6 p with
 |false =>
  rw[show zbw p=8 by simp[zbw,ho]]at c0
  rw[show zed p n=(Rte.z,8) by simp[zed,ho]]
  refine zae (F:=cd98) (hH.has _ _ rfl) (Nat.le_of_ble_eq_true rfl) fun w0 M Q hM hQ hR=>?_;have hE:=hH.callable;dsimp only[cd98,qm,ql,qf,qi,qb,qc,qp,qv,qN,qT,qF,qt]at hQ ⊢
  repeat' (first|refine zaa [0,1,2,3,6,7,8,9,10,11,15,25] fun K hK=>?_|refine AWp.block ?_|(refine hK.go ?_;clear hK K)|refine Cont.go (by assumption) ?_|(refine cnd2 rfl (fun h=>?_) (fun h=>?_)<;>(try first|exact h.elim|obtain rfl:(_:Bool)=true:=h|obtain rfl:(_:Bool)=false:=h)<;>first|(exfalso;omega)|skip)|((first|refine AWp.reg hE hM ?_|refine AWp.regd hE hM ?_|refine AWp.ret ?_|refine AWp.skip ?_|refine AWp.exit ?_|(refine pk2 (fun h=>?_) (fun h=>?_)<;>(try first|exact h.elim|obtain rfl:(_:Bool)=true:=h|obtain rfl:(_:Bool)=false:=h))|refine zab (fun h=>?_) ?_|refine zad hM (c0) ?_|(refine hQ _ _ _ rfl ?_;clear hQ hR hE hM)|(refine hR _ _ (hQ _ _ _ rfl ?_);clear hQ hR hE hM)|(refine zaf ?_ ?_;focus first|omega|(refine zac ?_;(refine no_implicit_lambda% (st ?_);try with_reducible exact True.intro);done)))<;>try (refine no_implicit_lambda% (st ?_);try with_reducible exact True.intro)))
  all_goals (first|rfl|omega)
 |true =>
  rw[show zbw p=0 by simp[zbw,ho]]at c0
  unfold zed
  rw[if_pos ho]
  revert c1
  generalize (p.routes.find? fun x=>decide (x.id=n))=x
  intro c1
  cases x with
  |none =>
   refine zae (F:=cd98) (hH.has _ _ rfl) (Nat.le_of_ble_eq_true rfl) fun w0 M Q hM hQ hR=>?_;have hE:=hH.callable;dsimp only[cd98,qm,ql,qf,qi,qb,qc,qp,qv,qN,qT,qF,qt]at hQ ⊢
   repeat' (first|refine zaa [0,1,2,3,6,7,8,9,10,11,15,25] fun K hK=>?_|refine AWp.block ?_|(refine hK.go ?_;clear hK K)|refine Cont.go (by assumption) ?_|(refine cnd2 rfl (fun h=>?_) (fun h=>?_)<;>(try first|exact h.elim|obtain rfl:(_:Bool)=true:=h|obtain rfl:(_:Bool)=false:=h)<;>first|(exfalso;omega)|skip)|((first|refine AWp.reg hE hM ?_|refine AWp.regd hE hM ?_|refine AWp.ret ?_|refine AWp.skip ?_|refine AWp.exit ?_|(refine pk2 (fun h=>?_) (fun h=>?_)<;>(try first|exact h.elim|obtain rfl:(_:Bool)=true:=h|obtain rfl:(_:Bool)=false:=h))|refine zab (fun h=>?_) ?_|refine zad hM (c0) ?_|refine zad hM (c1) ?_|(refine hQ _ _ _ rfl ?_;clear hQ hR hE hM)|(refine hR _ _ (hQ _ _ _ rfl ?_);clear hQ hR hE hM)|(refine zaf ?_ ?_;focus first|omega|(refine zac ?_;(refine no_implicit_lambda% (st ?_);try with_reducible exact True.intro);done)))<;>try simp -dsimp -implicitDefEqProofs (disch:=omega) only[go_sem,reduceIte,↓reduceIte,Nat.reduceEqDiff,Nat.reduceLT,Nat.reduceLeDiff,Nat.reduceAdd,Nat.reduceSub,Nat.reduceMul,Int.reduceToNat,Int.reduceLT,Int.reduceLE,Int.reduceEq,Int.reduceNeg,Int.reduceNe,reduceCtorEq,Option.isSome_none,Option.isSome_some,Option.getD_none,Option.getD_some]))
   all_goals (first|rfl|omega)
  |some r =>
   refine zae (F:=cd98) (hH.has _ _ rfl) (Nat.le_of_ble_eq_true rfl) fun w0 M Q hM hQ hR=>?_;have hE:=hH.callable;dsimp only[cd98,qm,ql,qf,qi,qb,qc,qp,qv,qN,qT,qF,qt]at hQ ⊢
   repeat' (first|refine zaa [0,1,2,3,6,7,8,9,10,11,15,25] fun K hK=>?_|refine AWp.block ?_|(refine hK.go ?_;clear hK K)|refine Cont.go (by assumption) ?_|(refine cnd2 rfl (fun h=>?_) (fun h=>?_)<;>(try first|exact h.elim|obtain rfl:(_:Bool)=true:=h|obtain rfl:(_:Bool)=false:=h)<;>first|(exfalso;omega)|skip)|((first|refine AWp.reg hE hM ?_|refine AWp.regd hE hM ?_|refine AWp.ret ?_|refine AWp.skip ?_|refine AWp.exit ?_|(refine pk2 (fun h=>?_) (fun h=>?_)<;>(try first|exact h.elim|obtain rfl:(_:Bool)=true:=h|obtain rfl:(_:Bool)=false:=h))|refine zab (fun h=>?_) ?_|refine zad hM (c0) ?_|refine zad hM (c1) ?_|(refine hQ _ _ _ rfl ?_;clear hQ hR hE hM)|(refine hR _ _ (hQ _ _ _ rfl ?_);clear hQ hR hE hM)|(refine zaf ?_ ?_;focus first|omega|(refine zac ?_;(refine no_implicit_lambda% (st ?_);try with_reducible exact True.intro);done)))<;>try simp -dsimp -implicitDefEqProofs (disch:=omega) only[go_sem,reduceIte,↓reduceIte,Nat.reduceEqDiff,Nat.reduceLT,Nat.reduceLeDiff,Nat.reduceAdd,Nat.reduceSub,Nat.reduceMul,Int.reduceToNat,Int.reduceLT,Int.reduceLE,Int.reduceEq,Int.reduceNeg,Int.reduceNe,reduceCtorEq,Option.isSome_none,Option.isSome_some,Option.getD_none,Option.getD_some]))
   all_goals (first|rfl|omega)
theorem rteOf_sm (p:Pln) (n:Int):(zed p n).1.path.length≤1000000∧(zed p n).1.over.length≤1000000∧(zed p n).1.flanks.length≤1000000:=by
 unfold zed
 split
 ·rename_i ho
  split
  ·rename_i r h
   simp only[zb6,Bool.and_eq_true,List.all_eq_true]at ho
   have h1:=ho.2.2.2.2 r (zes h).1
   simp only[zfh,zeM,Bool.and_eq_true,Bool.not_eq_true',decide_eq_false_iff_not]at h1
   dsimp only
   omega
  ·simp[Rte.z]
 ·simp[Rte.z]
theorem ziv (hH:HasAll P inv) (hI:HasIds P inv) (p:Pln) (hp:Sm p) (n:Int):PC P inv 89 [.agg p.c,.n n] (·=.tup [.agg (zed p n).1.c,.n (zed p n).2]):=by
 refine zae (F:=cd89) (hH.has _ _ rfl) (Nat.le_of_ble_eq_true rfl) fun w0 M Q hM hQ hR=>?_;have hE:=hH.callable;dsimp only[cd89,qm,ql,qf,qi,qb,qc,qp,qv,qN,qT,qF,qt]at hQ ⊢
 repeat' (first|refine zaa [0,1,2,4,5,6,7] fun K hK=>?_|refine AWp.block ?_|(refine hK.go ?_;clear hK K)|refine Cont.go (by assumption) ?_|(refine cnd2 rfl (fun h=>?_) (fun h=>?_)<;>(try first|exact h.elim|obtain rfl:(_:Bool)=true:=h|obtain rfl:(_:Bool)=false:=h)<;>first|(exfalso;omega)|skip)|((first|refine AWp.reg hE hM ?_|refine AWp.regd hE hM ?_|refine AWp.ret ?_|refine AWp.skip ?_|refine AWp.exit ?_|(refine pk2 (fun h=>?_) (fun h=>?_)<;>(try first|exact h.elim|obtain rfl:(_:Bool)=true:=h|obtain rfl:(_:Bool)=false:=h))|refine zab (fun h=>?_) ?_|refine zad hM (zjT hH hI p hp n) ?_|refine zad hM (zkO hH _ (rteOf_sm p n)) ?_|(refine hQ _ _ _ rfl ?_;clear hQ hR hE hM)|(refine hR _ _ (hQ _ _ _ rfl ?_);clear hQ hR hE hM)|(refine zaf ?_ ?_;focus first|omega|(refine zac ?_;(refine no_implicit_lambda% (st ?_);try with_reducible exact True.intro);done)))<;>try (refine no_implicit_lambda% (st ?_);try with_reducible exact True.intro)))
end Go.Lev
namespace Go.Eng
section
variable {φ:List (Nat×AV)} {σ:List (Nat×AO)} {K:AV→Prop} {tk:Tok K}
def cpT (x:AV) (K:AV→Prop) (_:Tok K):Prop:=match x with|.s0 _=>K (.i .i64 0)|_=>False
theorem av_cap (x:Opd):avT φ σ (.cap x) K tk=cpT (ev φ x) K .mk:=rfl
theorem cp_0 (sz:Nat):cpT (.s0 sz) K tk=K (.i .i64 0):=rfl
theorem av_look (m k:Opd):avT φ σ (.look m k) K tk=zb7 (zi3 σ (ev φ m) (ev φ k)) K:=rfl
def lkR (o:Option AO) (a:Int):Option AV:=match o with|some (.imap kvs)=>some (.i .i64 (zeD kvs a))|_=>none
theorem lk_m (l:Nat) (a:Int):zi3 σ (.mp l) (.i .i64 a)=lkR (zaB σ l) a:=by unfold zi3 lkR;rfl
theorem lkR_m (kvs:List (Int×Int)) (a:Int):lkR (some (.imap kvs)) a=some (.i .i64 (zeD kvs a)):=rfl
theorem s0_01 (sz sz':Nat) (k:IntKind) (h:Int):scT σ (.s0 sz') none (some (.i k h)) none sz K tk=ob (h=0) (K (.s0 sz)):=rfl
theorem s0_00 (sz sz':Nat):scT σ (.s0 sz') none none none sz K tk=K (.s0 sz):=rfl
theorem zdB:∀ (xs ys:List AV),zag (xs++ys)=mx (zag xs) (zag ys)
 |[],ys=>by
  simp only[List.nil_append,zag]
  unfold mx
  split<;>omega
 |x::xs,ys=>by
  simp only[List.cons_append,zag,zdB xs ys]
  unfold mx
  split<;>split<;>(try split)<;>(try split)<;>omega
attribute [go_sem] zdB av_cap cp_0 av_look lk_m lkR_m s0_01 s0_00
end
end Go.Eng
namespace Go.Lev
open Go.Eng
set_option maxRecDepth 10000
set_option maxHeartbeats 4000000
variable {P:Program} {inv:Nat→Option Nat}
def za9 (s:Section) (f t:Int):Int×Int:=if zbT s=true then (if rLie s f t<0 then (0,2) else (rLie s f t,0)) else (0,8)
def zfD (s:Section) (f t:Int):Int×Int:=if zb5 s=true then (if f<0∨2<f∨t<0∨2<t∨zcp s.pt f t=0 then (0,2) else ((zcp s.pt f t).tmod 3,0)) else (0,8)
def outR (s:Section) (f lie:Int):Int×Int:=if zb5 s=true then (if f<0∨2<f∨lie<0∨2<lie then (0,2) else if (¬s.pt=0∧lie=0)∨outL s f lie<0 then (0,2) else (outL s f lie,0)) else (0,8)
def routP (s:Section) (f lie:Int):Nat→Nat→Int×Int
 |_,0=>(0,2)
 |k,m+1=>if rLie s f k=lie then (k,0) else routP s f lie (k+1) m
def rout (s:Section) (f lie:Int):Int×Int:=if zbT s=true then (if lie<0 then (0,2) else routP s f lie 0 s.ends.length) else (0,8)
def two (x:Int×Int):AV:=.tup [.n x.1,.n x.2]
theorem zjb (hH:HasAll P inv) (s:Section) (f t:Int):PC P inv 16 [.agg s.c,.n f,.n t] (·=.tup [.n (zfD s f t).1,.n (zfD s f t).2]) :=
 (zkP hH s f t).mono fun r e=>by (rw[e];unfold zhi zfD;(repeat' split)<;>rfl)
theorem zlS (s:Section):zb5 s=zbT s:=by
 unfold zb5 zbT zbI
 by_cases h:s.pt=0
 ·simp[h]
 ·simp[h]
theorem zkQ (s:Section) (f t:Int):zfD s f t=za9 s f t:=by
 unfold zfD za9
 rw[zlS]
 split
 ·by_cases hf:0≤f∧f≤2
  ·by_cases ht:0≤t∧t≤2
   ·rcases zcL hf with rfl|rfl|rfl<;>rcases zcL ht with rfl|rfl|rfl<;>by_cases hp:s.pt=0<;>simp[zcp,rLie,hp]
   ·rw[if_pos (by omega),if_pos (by unfold rLie;(repeat' split)<;>omega)]
  ·rw[if_pos (by omega),if_pos (by unfold rLie;(repeat' split)<;>omega)]
 ·rfl
theorem zbP (hH:HasAll P inv) (s:Section) (f t:Int):PC P inv 16 [.agg s.c,.n f,.n t] (·=.tup [.n (za9 s f t).1,.n (za9 s f t).2]):=zkQ s f t▸zjb hH s f t
end Go.Lev
namespace Go.Lev
open Go.Eng
set_option maxRecDepth 10000
set_option maxHeartbeats 4000000
variable {P:Program} {inv:Nat→Option Nat}
def sigG (n:Int):Sgn→List Sgn→Sgn
 |o,[]=>o
 |o,x::r=>if x.id=n then sigG n x r else sigG n o r
def sig (p:Pln) (n:Int):Sgn:=sigG n Sgn.z p.signals
theorem zh8 (hH:HasAll P inv) (p:Pln) (hp:Sm p) (n:Int):PC P inv 100 [.agg p.c,.n n] (·=.agg (sig p n).c):=by
 have hl:=hp.sgn
 refine zae (F:=cd100) (hH.has _ _ rfl) (Nat.le_of_ble_eq_true rfl) fun w0 M Q hM hQ hR=>?_;have hE:=hH.callable;dsimp only[cd100,qm,ql,qf,qi,qb,qc,qp,qv,qN,qT,qF,qt]at hQ ⊢
 repeat' (first|refine zaa [0,1,2,4,6,8,9,10,11,17] fun K hK=>?_|refine AWp.block ?_|(refine hK.go ?_;clear hK K)|refine Cont.go (by assumption) ?_|(refine cnd2 rfl (fun h=>?_) (fun h=>?_)<;>(try first|exact h.elim|obtain rfl:(_:Bool)=true:=h|obtain rfl:(_:Bool)=false:=h)<;>first|(exfalso;omega)|skip)|((first|refine AWp.reg hE hM ?_|refine AWp.regd hE hM ?_|refine AWp.ret ?_|refine AWp.skip ?_|refine AWp.exit ?_|(refine pk2 (fun h=>?_) (fun h=>?_)<;>(try first|exact h.elim|obtain rfl:(_:Bool)=true:=h|obtain rfl:(_:Bool)=false:=h))|refine zab (fun h=>?_) ?_|(refine hQ _ _ _ rfl ?_;clear hQ hR hE hM)|(refine hR _ _ (hQ _ _ _ rfl ?_);clear hQ hR hE hM)|(refine zaf ?_ ?_;focus first|omega|(refine zac ?_;(refine no_implicit_lambda% (st ?_);try with_reducible exact True.intro);done)))<;>try (refine no_implicit_lambda% (st ?_);try with_reducible exact True.intro)))
 refine zai (ι:=Nat×Sgn) [1,4,8,9,10] (fun zz=>[(10,.n zz.1)]) (fun zz=>[(1,.cells zz.2.c true)]) (fun zz=>zz.1≤p.signals.length∧(sigG n zz.2 (p.signals.drop zz.1)=sig p n)) (fun zz=>p.signals.length-zz.1) (0,(⟨0,0,0⟩:Sgn)) ⟨Nat.zero_le _,(by first|rfl|assumption|omega|(simp;done)|(simp;omega)|grind)⟩ (by (try dsimp only);(refine no_implicit_lambda% (st ?_);try with_reducible exact True.intro)<;>first|omega|(simp;done)) (by (try dsimp only);(refine no_implicit_lambda% (st ?_);try with_reducible exact True.intro)<;>first|omega|(simp;done)) ?_;rintro ⟨k,o⟩ ⟨hk,hg⟩;(try dsimp only at hk hg ⊢);rcases Nat.lt_or_ge k p.signals.length with hlt|hge
 ·rw[zaq hlt]at hg
  rw[sigG]at hg
  repeat' (first|refine zaa [0,1,2,4,6,8,9,10,11,17] fun K hK=>?_|refine AWp.block ?_|(refine hK.go ?_;clear hK K)|refine Cont.go (by assumption) ?_|(refine cnd2 rfl (fun h=>?_) (fun h=>?_)<;>(try first|exact h.elim|obtain rfl:(_:Bool)=true:=h|obtain rfl:(_:Bool)=false:=h)<;>first|(exfalso;omega)|skip)|((first|refine AWp.reg hE hM ?_|refine AWp.regd hE hM ?_|refine AWp.ret ?_|refine AWp.skip ?_|refine AWp.exit ?_|(refine pk2 (fun h=>?_) (fun h=>?_)<;>(try first|exact h.elim|obtain rfl:(_:Bool)=true:=h|obtain rfl:(_:Bool)=false:=h))|refine zab (fun h=>?_) ?_|(refine hQ _ _ _ rfl ?_;clear hQ hR hE hM)|(refine hR _ _ (hQ _ _ _ rfl ?_);clear hQ hR hE hM)|(refine zaf ?_ ?_;focus first|omega|(refine zac ?_;(refine no_implicit_lambda% (st ?_);try with_reducible exact True.intro);done)))<;>try (refine no_implicit_lambda% (st ?_);try with_reducible exact True.intro)))
  ·rw[if_pos (by assumption)]at hg
   refine ⟨(k+1,nth p.signals k),by (try dsimp only);omega,⟨by (try dsimp only);omega,hg⟩, ?_⟩;(try dsimp only);(first|omega|(simp;done)|(simp;omega)|((refine no_implicit_lambda% (st ?_);try with_reducible exact True.intro);done)|(simp[List.map_set, *];done)|(simp[List.map_set, *];rfl)|((refine no_implicit_lambda% (st ?_);try with_reducible exact True.intro);simp[List.map_set, *];done)|((try (refine no_implicit_lambda% (st ?_);try with_reducible exact True.intro));(repeat' refine And.intro ?_ ?_)<;>first|omega|rfl|(simp;done)|(simp;omega)|(simp;rfl)|(simp[List.map_set, *];done)|(simp[List.map_set, *];rfl)))
  ·rw[if_neg (by assumption)]at hg
   refine ⟨(k+1,o),by (try dsimp only);omega,⟨by (try dsimp only);omega,hg⟩, ?_⟩;(try dsimp only);(first|omega|(simp;done)|(simp;omega)|((refine no_implicit_lambda% (st ?_);try with_reducible exact True.intro);done)|(simp[List.map_set, *];done)|(simp[List.map_set, *];rfl)|((refine no_implicit_lambda% (st ?_);try with_reducible exact True.intro);simp[List.map_set, *];done)|((try (refine no_implicit_lambda% (st ?_);try with_reducible exact True.intro));(repeat' refine And.intro ?_ ?_)<;>first|omega|rfl|(simp;done)|(simp;omega)|(simp;rfl)|(simp[List.map_set, *];done)|(simp[List.map_set, *];rfl)))
 ·rw[List.drop_eq_nil_of_le hge,sigG]at hg
  subst hg
  repeat' (first|refine zaa [0,1,2,4,6,8,9,10,11,17] fun K hK=>?_|refine AWp.block ?_|(refine hK.go ?_;clear hK K)|refine Cont.go (by assumption) ?_|(refine cnd2 rfl (fun h=>?_) (fun h=>?_)<;>(try first|exact h.elim|obtain rfl:(_:Bool)=true:=h|obtain rfl:(_:Bool)=false:=h)<;>first|(exfalso;omega)|skip)|((first|refine AWp.reg hE hM ?_|refine AWp.regd hE hM ?_|refine AWp.ret ?_|refine AWp.skip ?_|refine AWp.exit ?_|(refine pk2 (fun h=>?_) (fun h=>?_)<;>(try first|exact h.elim|obtain rfl:(_:Bool)=true:=h|obtain rfl:(_:Bool)=false:=h))|refine zab (fun h=>?_) ?_|(refine hQ _ _ _ rfl ?_;clear hQ hR hE hM)|(refine hR _ _ (hQ _ _ _ rfl ?_);clear hQ hR hE hM)|(refine zaf ?_ ?_;focus first|omega|(refine zac ?_;(refine no_implicit_lambda% (st ?_);try with_reducible exact True.intro);done)))<;>try (refine no_implicit_lambda% (st ?_);try with_reducible exact True.intro)))
theorem grow_po0 (hH:HasAll P inv) (n:Int) (h:0<n) (h9:n≤1000000000):PO P inv 129 [.s0 1,.n n] (.sm 0 n.toNat 0 0 1) [(0,.cells (List.replicate n.toNat (.n 0)) true)]:=by
 refine zco (F:=cd129) (hH.has _ _ rfl) (Nat.le_of_ble_eq_true rfl) fun w0 M Q hM hQ hR=>?_;have hE:=hH.callable;dsimp only[cd129,qm,ql,qf,qi,qb,qc,qp,qv,qN,qT,qF,qt]at hQ ⊢
 repeat' (first|refine zaa [0,1,4,6,16,22] fun K hK=>?_|refine AWp.block ?_|(refine hK.go ?_;clear hK K)|refine Cont.go (by assumption) ?_|(refine cnd2 rfl (fun h=>?_) (fun h=>?_)<;>(try first|exact h.elim|obtain rfl:(_:Bool)=true:=h|obtain rfl:(_:Bool)=false:=h)<;>first|(exfalso;omega)|skip)|((first|refine AWp.reg hE hM ?_|refine AWp.regd hE hM ?_|refine AWp.ret ?_|refine AWp.skip ?_|refine AWp.exit ?_|(refine pk2 (fun h=>?_) (fun h=>?_)<;>(try first|exact h.elim|obtain rfl:(_:Bool)=true:=h|obtain rfl:(_:Bool)=false:=h))|refine zab (fun h=>?_) ?_|(refine zaf ?_ ?_;focus first|omega|(refine zac ?_;(refine no_implicit_lambda% (st ?_);try with_reducible exact True.intro);done)))<;>try simp -dsimp -implicitDefEqProofs (disch:=omega) only[go_sem,reduceIte,↓reduceIte,Nat.reduceEqDiff,Nat.reduceLT,Nat.reduceLeDiff,Nat.reduceAdd,Nat.reduceSub,Nat.reduceMul,Int.reduceToNat,Int.reduceLT,Int.reduceLE,Int.reduceEq,Int.reduceNeg,Int.reduceNe,reduceCtorEq,Int.sub_zero,Int.sub_self,List.flatten_replicate_singleton,List.length_replicate])|(refine hQ _ _ _ rfl ?_;clear hQ hR hE hM)|(refine hR _ _ (hQ _ _ _ rfl ?_);clear hQ hR hE hM))
 left
 constructor
 ·(refine no_implicit_lambda% (st ?_);try with_reducible exact True.intro)
 ·(refine no_implicit_lambda% (st ?_);try with_reducible exact True.intro)
  simp
  omega
theorem grow_po' (hH:HasAll P inv):PO P inv 129 [.s0 1,.n 0] (.sm 0 0 0 0 1) [(0,.cells [] false)]:=by
 refine zco (F:=cd129) (hH.has _ _ rfl) (Nat.le_of_ble_eq_true rfl) fun w0 M Q hM hQ hR=>?_;have hE:=hH.callable;dsimp only[cd129,qm,ql,qf,qi,qb,qc,qp,qv,qN,qT,qF,qt]at hQ ⊢
 repeat' (first|refine zaa [0,1,4,6,16,22] fun K hK=>?_|refine AWp.block ?_|(refine hK.go ?_;clear hK K)|refine Cont.go (by assumption) ?_|(refine cnd2 rfl (fun h=>?_) (fun h=>?_)<;>(try first|exact h.elim|obtain rfl:(_:Bool)=true:=h|obtain rfl:(_:Bool)=false:=h)<;>first|(exfalso;omega)|skip)|((first|refine AWp.reg hE hM ?_|refine AWp.regd hE hM ?_|refine AWp.ret ?_|refine AWp.skip ?_|refine AWp.exit ?_|(refine pk2 (fun h=>?_) (fun h=>?_)<;>(try first|exact h.elim|obtain rfl:(_:Bool)=true:=h|obtain rfl:(_:Bool)=false:=h))|refine zab (fun h=>?_) ?_|(refine zaf ?_ ?_;focus first|omega|(refine zac ?_;(refine no_implicit_lambda% (st ?_);try with_reducible exact True.intro);done)))<;>try simp -dsimp -implicitDefEqProofs (disch:=omega) only[go_sem,reduceIte,↓reduceIte,Nat.reduceEqDiff,Nat.reduceLT,Nat.reduceLeDiff,Nat.reduceAdd,Nat.reduceSub,Nat.reduceMul,Int.reduceToNat,Int.reduceLT,Int.reduceLE,Int.reduceEq,Int.reduceNeg,Int.reduceNe,reduceCtorEq,Int.sub_zero,Int.sub_self,List.flatten_replicate_singleton,List.length_replicate])|(refine hQ _ _ _ rfl ?_;clear hQ hR hE hM)|(refine hR _ _ (hQ _ _ _ rfl ?_);clear hQ hR hE hM))
 right
 exact ⟨1,rfl,rfl,rfl⟩
theorem grow_po (hH:HasAll P inv) (n:Int) (h:0<n) (h9:n≤1000000000):PO P inv 129 [.s0 1,.n n] (.sm 1 0 0 0 1) [(1,.cells [] true)]:=by
 have:=(grow_po0 hH n h h9).trunc (by rw[show List.replicate n.toNat (AV.n 0)=(List.replicate n.toNat (0:Int)).map AV.n by simp];exact zdw .i64 _) (by simp) (by omega)
 simpa using this
theorem zen (l:List Int):(l.map zgM).flatten=l.map AV.n:=zmJ l
def zhH:List (List Int)→Int
 |[]=>0
 |l::r=>l.length+zhH r
theorem zhG:∀ L:List (List Int),0≤zhH L
 |[]=>Int.le_refl _
 |l::r=>by have:=zhG r;simp only[zhH];omega
theorem ziT (hH:HasAll P inv) (L:List (List Int)) (h0:L.length≤1000000) (hL:zhH L≤1000000000):PC P inv 101 [.sl 1 (L.map lst)] (·=.sl 1 (L.flatten.map zgM)):=by
 refine zae (F:=cd101) (hH.has _ _ rfl) (Nat.le_of_ble_eq_true rfl) fun w0 M Q hM hQ hR=>?_;have hE:=hH.callable;dsimp only[cd101,qm,ql,qf,qi,qb,qc,qp,qv,qN,qT,qF,qt]at hQ ⊢
 repeat' (first|refine zaa [0,2,3,5,6,8,9,10,11,12,20,25,26,27,28] fun K hK=>?_|refine AWp.block ?_|(refine hK.go ?_;clear hK K)|refine Cont.go (by assumption) ?_|(refine cnd2 rfl (fun h=>?_) (fun h=>?_)<;>(try first|exact h.elim|obtain rfl:(_:Bool)=true:=h|obtain rfl:(_:Bool)=false:=h)<;>first|(exfalso;omega)|skip)|((first|refine AWp.reg hE hM ?_|refine AWp.regd hE hM ?_|refine AWp.ret ?_|refine AWp.skip ?_|refine AWp.exit ?_|(refine pk2 (fun h=>?_) (fun h=>?_)<;>(try first|exact h.elim|obtain rfl:(_:Bool)=true:=h|obtain rfl:(_:Bool)=false:=h))|refine zab (fun h=>?_) ?_|(refine hQ _ _ _ rfl ?_;clear hQ hR hE hM)|(refine hR _ _ (hQ _ _ _ rfl ?_);clear hQ hR hE hM)|(refine zaf ?_ ?_;focus first|omega|(refine zac ?_;(refine no_implicit_lambda% (st ?_);try with_reducible exact True.intro);done)))<;>try (refine no_implicit_lambda% (st ?_);try with_reducible exact True.intro)))
 refine zai (ι:=Nat×Int) [0,2,3,9,10,11] (fun zz=>[(3,.n zz.2),(11,.n zz.1)]) (fun zz=>[]) (fun zz=>zz.1≤L.length∧(0≤zz.2)∧(zz.2+zhH (L.drop zz.1)=zhH L)) (fun zz=>L.length-zz.1) (0,0) ⟨Nat.zero_le _,(by first|rfl|assumption|omega|(simp;done)|(simp;omega)|grind),(by first|rfl|assumption|omega|(simp;done)|(simp;omega)|grind)⟩ (by (try dsimp only);(refine no_implicit_lambda% (st ?_);try with_reducible exact True.intro)<;>first|omega|(simp;done)) (by (try dsimp only);(refine no_implicit_lambda% (st ?_);try with_reducible exact True.intro)<;>first|omega|(simp;done)) ?_;rintro ⟨k,t⟩ ⟨hk,ht,hg⟩;(try dsimp only at hk ht hg ⊢);rcases Nat.lt_or_ge k L.length with hlt|hge
 ·rw[zaq hlt]at hg
  rw[zhH]at hg
  have h1:=zhG (L.drop (k+1))
  repeat' (first|refine zaa [0,2,3,5,6,8,9,10,11,12,20,25,26,27,28] fun K hK=>?_|refine AWp.block ?_|(refine hK.go ?_;clear hK K)|refine Cont.go (by assumption) ?_|(refine cnd2 rfl (fun h=>?_) (fun h=>?_)<;>(try first|exact h.elim|obtain rfl:(_:Bool)=true:=h|obtain rfl:(_:Bool)=false:=h)<;>first|(exfalso;omega)|skip)|((first|refine AWp.reg hE hM ?_|refine AWp.regd hE hM ?_|refine AWp.ret ?_|refine AWp.skip ?_|refine AWp.exit ?_|(refine pk2 (fun h=>?_) (fun h=>?_)<;>(try first|exact h.elim|obtain rfl:(_:Bool)=true:=h|obtain rfl:(_:Bool)=false:=h))|refine zab (fun h=>?_) ?_|(refine hQ _ _ _ rfl ?_;clear hQ hR hE hM)|(refine hR _ _ (hQ _ _ _ rfl ?_);clear hQ hR hE hM)|(refine zaf ?_ ?_;focus first|omega|(refine zac ?_;(refine no_implicit_lambda% (st ?_);try with_reducible exact True.intro);done)))<;>try simp -dsimp -implicitDefEqProofs (disch:=omega) only[go_sem,reduceIte,↓reduceIte,Nat.reduceEqDiff,Nat.reduceLT,Nat.reduceLeDiff,Nat.reduceAdd,Nat.reduceSub,Nat.reduceMul,Int.reduceToNat,Int.reduceLT,Int.reduceLE,Int.reduceEq,Int.reduceNeg,Int.reduceNe,reduceCtorEq,lst]))
  refine ⟨(k+1,t+(nth L k).length),by (try dsimp only);omega,⟨by (try dsimp only);omega,by (try dsimp only);omega,by (try dsimp only);omega⟩, ?_⟩;(try dsimp only);(first|omega|(simp;done)|(simp;omega)|((refine no_implicit_lambda% (st ?_);try with_reducible exact True.intro);done)|(simp[List.map_set, *];done)|(simp[List.map_set, *];rfl)|((refine no_implicit_lambda% (st ?_);try with_reducible exact True.intro);simp[List.map_set, *];done)|((try (refine no_implicit_lambda% (st ?_);try with_reducible exact True.intro));(repeat' refine And.intro ?_ ?_)<;>first|omega|rfl|(simp;done)|(simp;omega)|(simp;rfl)|(simp[List.map_set, *];done)|(simp[List.map_set, *];rfl)))
 ·rw[List.drop_eq_nil_of_le hge,zhH,Int.add_zero]at hg
  subst hg
  rcases Int.lt_or_le 0 (zhH L) with hp|hz
  ·repeat' (first|refine zaa [0,2,3,5,6,8,9,10,11,12,20,25,26,27,28] fun K hK=>?_|refine AWp.block ?_|(refine hK.go ?_;clear hK K)|refine Cont.go (by assumption) ?_|(refine cnd2 rfl (fun h=>?_) (fun h=>?_)<;>(try first|exact h.elim|obtain rfl:(_:Bool)=true:=h|obtain rfl:(_:Bool)=false:=h)<;>first|(exfalso;omega)|skip)|((first|refine AWp.reg hE hM ?_|refine AWp.regd hE hM ?_|refine AWp.ret ?_|refine AWp.skip ?_|refine AWp.exit ?_|(refine pk2 (fun h=>?_) (fun h=>?_)<;>(try first|exact h.elim|obtain rfl:(_:Bool)=true:=h|obtain rfl:(_:Bool)=false:=h))|refine zab (fun h=>?_) ?_|refine PO.callK hM ( grow_po hH (zhH L) hp hL) ?_|(refine hQ _ _ _ rfl ?_;clear hQ hR hE hM)|(refine hR _ _ (hQ _ _ _ rfl ?_);clear hQ hR hE hM)|(refine zaf ?_ ?_;focus first|omega|(refine zac ?_;(refine no_implicit_lambda% (st ?_);try with_reducible exact True.intro);done)))<;>try (refine no_implicit_lambda% (st ?_);try with_reducible exact True.intro)))
   refine zai (ι:=Nat×(List Int)×Bool) [2,6,25,26,27] (fun zz=>[(6,.sm 1 zz.2.1.length 0 zz.2.1.length 1),(27,.n zz.1)]) (fun zz=>[(1,.cells (zz.2.1.map AV.n) zz.2.2)]) (fun zz=>zz.1≤L.length∧(zz.2.1++(L.drop zz.1).flatten=L.flatten)∧((zz.2.1.length:Int)+zhH (L.drop zz.1)=zhH L)) (fun zz=>L.length-zz.1) (0,[],true) ⟨Nat.zero_le _,(by first|rfl|assumption|omega|(simp;done)|(simp;omega)|grind),(by first|rfl|assumption|omega|(simp;done)|(simp;omega)|grind)⟩ (by (try dsimp only);(refine no_implicit_lambda% (st ?_);try with_reducible exact True.intro)<;>first|omega|(simp;done)) (by (try dsimp only);(refine no_implicit_lambda% (st ?_);try with_reducible exact True.intro)<;>first|omega|(simp;done)) ?_;rintro ⟨k,acc,b⟩ ⟨hk,hg,hx⟩;(try dsimp only at hk hg hx ⊢);rcases Nat.lt_or_ge k L.length with hlt|hge
   ·rw[zaq hlt,zhH]at hx
    rw[zaq hlt,List.flatten_cons,←List.append_assoc]at hg
    have h1:=zhG (L.drop (k+1))
    repeat' (first|refine zaa [0,2,3,5,6,8,9,10,11,12,20,25,26,27,28] fun K hK=>?_|refine AWp.block ?_|(refine hK.go ?_;clear hK K)|refine Cont.go (by assumption) ?_|(refine cnd2 rfl (fun h=>?_) (fun h=>?_)<;>(try first|exact h.elim|obtain rfl:(_:Bool)=true:=h|obtain rfl:(_:Bool)=false:=h)<;>first|(exfalso;omega)|skip)|((first|refine AWp.reg hE hM ?_|refine AWp.regd hE hM ?_|refine AWp.ret ?_|refine AWp.skip ?_|refine AWp.exit ?_|(refine pk2 (fun h=>?_) (fun h=>?_)<;>(try first|exact h.elim|obtain rfl:(_:Bool)=true:=h|obtain rfl:(_:Bool)=false:=h))|refine zab (fun h=>?_) ?_|(refine hQ _ _ _ rfl ?_;clear hQ hR hE hM)|(refine hR _ _ (hQ _ _ _ rfl ?_);clear hQ hR hE hM)|(refine zaf ?_ ?_;focus first|omega|(refine zac ?_;(refine no_implicit_lambda% (st ?_);try with_reducible exact True.intro);done)))<;>try simp -dsimp -implicitDefEqProofs (disch:=omega) only[go_sem,reduceIte,↓reduceIte,Nat.reduceEqDiff,Nat.reduceLT,Nat.reduceLeDiff,Nat.reduceAdd,Nat.reduceSub,Nat.reduceMul,Int.reduceToNat,Int.reduceLT,Int.reduceLE,Int.reduceEq,Int.reduceNeg,Int.reduceNe,reduceCtorEq,lst,zen,List.length_map,List.length_append]))
    refine ⟨(k+1,acc++nth L k,(b||decide (0<(nth L k).length))),by (try dsimp only);omega,⟨by (try dsimp only);omega,hg,by (try dsimp only);simp;omega⟩, ?_⟩;(try dsimp only);(first|omega|(simp;done)|(simp;omega)|((refine no_implicit_lambda% (st ?_);try with_reducible exact True.intro);done)|(simp[List.map_set, *];done)|(simp[List.map_set, *];rfl)|((refine no_implicit_lambda% (st ?_);try with_reducible exact True.intro);simp[List.map_set, *];done)|((try (refine no_implicit_lambda% (st ?_);try with_reducible exact True.intro));(repeat' refine And.intro ?_ ?_)<;>first|omega|rfl|(simp;done)|(simp;omega)|(simp;rfl)|(simp[List.map_set, *];done)|(simp[List.map_set, *];rfl)))
   ·rw[List.drop_eq_nil_of_le hge,List.flatten_nil,List.append_nil]at hg
    subst hg
    repeat' (first|refine zaa [0,2,3,5,6,8,9,10,11,12,20,25,26,27,28] fun K hK=>?_|refine AWp.block ?_|(refine hK.go ?_;clear hK K)|refine Cont.go (by assumption) ?_|(refine cnd2 rfl (fun h=>?_) (fun h=>?_)<;>(try first|exact h.elim|obtain rfl:(_:Bool)=true:=h|obtain rfl:(_:Bool)=false:=h)<;>first|(exfalso;omega)|skip)|((first|refine AWp.reg hE hM ?_|refine AWp.regd hE hM ?_|refine AWp.ret ?_|refine AWp.skip ?_|refine AWp.exit ?_|(refine pk2 (fun h=>?_) (fun h=>?_)<;>(try first|exact h.elim|obtain rfl:(_:Bool)=true:=h|obtain rfl:(_:Bool)=false:=h))|refine zab (fun h=>?_) ?_|(refine hQ _ _ _ rfl ?_;clear hQ hR hE hM)|(refine hR _ _ (hQ _ _ _ rfl ?_);clear hQ hR hE hM)|(refine zaf ?_ ?_;focus first|omega|(refine zac ?_;(refine no_implicit_lambda% (st ?_);try with_reducible exact True.intro);done)))<;>try simp -dsimp -implicitDefEqProofs (disch:=omega) only[go_sem,reduceIte,↓reduceIte,Nat.reduceEqDiff,Nat.reduceLT,Nat.reduceLeDiff,Nat.reduceAdd,Nat.reduceSub,Nat.reduceMul,Int.reduceToNat,Int.reduceLT,Int.reduceLE,Int.reduceEq,Int.reduceNeg,Int.reduceNe,reduceCtorEq,List.length_map]))
    rw[show L.flatten.map (AV.i .i64)=(L.flatten.map zgM).flatten from (zen _).symm,zbX]
  ·have hz0:zhH L=0:=by omega
   rw[hz0]
   repeat' (first|refine zaa [0,2,3,5,6,8,9,10,11,12,20,25,26,27,28] fun K hK=>?_|refine AWp.block ?_|(refine hK.go ?_;clear hK K)|refine Cont.go (by assumption) ?_|(refine cnd2 rfl (fun h=>?_) (fun h=>?_)<;>(try first|exact h.elim|obtain rfl:(_:Bool)=true:=h|obtain rfl:(_:Bool)=false:=h)<;>first|(exfalso;omega)|skip)|((first|refine AWp.reg hE hM ?_|refine AWp.regd hE hM ?_|refine AWp.ret ?_|refine AWp.skip ?_|refine AWp.exit ?_|(refine pk2 (fun h=>?_) (fun h=>?_)<;>(try first|exact h.elim|obtain rfl:(_:Bool)=true:=h|obtain rfl:(_:Bool)=false:=h))|refine zab (fun h=>?_) ?_|refine PO.callK hM ( grow_po' hH) ?_|(refine hQ _ _ _ rfl ?_;clear hQ hR hE hM)|(refine hR _ _ (hQ _ _ _ rfl ?_);clear hQ hR hE hM)|(refine zaf ?_ ?_;focus first|omega|(refine zac ?_;(refine no_implicit_lambda% (st ?_);try with_reducible exact True.intro);done)))<;>try (refine no_implicit_lambda% (st ?_);try with_reducible exact True.intro)))
   refine AWp.swap [(0,1)] ⟨⟨by omega,by omega⟩,trivial⟩ ?_
   (refine no_implicit_lambda% (st ?_);try with_reducible exact True.intro)
   refine zai (ι:=Nat×(List Int)×Bool) [2,6,25,26,27] (fun zz=>[(6,.sm 1 zz.2.1.length 0 zz.2.1.length 1),(27,.n zz.1)]) (fun zz=>[(1,.cells (zz.2.1.map AV.n) zz.2.2)]) (fun zz=>zz.1≤L.length∧(zz.2.1++(L.drop zz.1).flatten=L.flatten)∧((zz.2.1.length:Int)+zhH (L.drop zz.1)=zhH L)) (fun zz=>L.length-zz.1) (0,[],false) ⟨Nat.zero_le _,(by first|rfl|assumption|omega|(simp;done)|(simp;omega)|grind),(by first|rfl|assumption|omega|(simp;done)|(simp;omega)|grind)⟩ (by (try dsimp only);(refine no_implicit_lambda% (st ?_);try with_reducible exact True.intro)<;>first|omega|(simp;done)) (by (try dsimp only);(refine no_implicit_lambda% (st ?_);try with_reducible exact True.intro)<;>first|omega|(simp;done)) ?_;rintro ⟨k,acc,b⟩ ⟨hk,hg,hx⟩;(try dsimp only at hk hg hx ⊢);rcases Nat.lt_or_ge k L.length with hlt|hge
   ·rw[zaq hlt,zhH]at hx
    rw[zaq hlt,List.flatten_cons,←List.append_assoc]at hg
    have h1:=zhG (L.drop (k+1))
    repeat' (first|refine zaa [0,2,3,5,6,8,9,10,11,12,20,25,26,27,28] fun K hK=>?_|refine AWp.block ?_|(refine hK.go ?_;clear hK K)|refine Cont.go (by assumption) ?_|(refine cnd2 rfl (fun h=>?_) (fun h=>?_)<;>(try first|exact h.elim|obtain rfl:(_:Bool)=true:=h|obtain rfl:(_:Bool)=false:=h)<;>first|(exfalso;omega)|skip)|((first|refine AWp.reg hE hM ?_|refine AWp.regd hE hM ?_|refine AWp.ret ?_|refine AWp.skip ?_|refine AWp.exit ?_|(refine pk2 (fun h=>?_) (fun h=>?_)<;>(try first|exact h.elim|obtain rfl:(_:Bool)=true:=h|obtain rfl:(_:Bool)=false:=h))|refine zab (fun h=>?_) ?_|(refine hQ _ _ _ rfl ?_;clear hQ hR hE hM)|(refine hR _ _ (hQ _ _ _ rfl ?_);clear hQ hR hE hM)|(refine zaf ?_ ?_;focus first|omega|(refine zac ?_;(refine no_implicit_lambda% (st ?_);try with_reducible exact True.intro);done)))<;>try simp -dsimp -implicitDefEqProofs (disch:=omega) only[go_sem,reduceIte,↓reduceIte,Nat.reduceEqDiff,Nat.reduceLT,Nat.reduceLeDiff,Nat.reduceAdd,Nat.reduceSub,Nat.reduceMul,Int.reduceToNat,Int.reduceLT,Int.reduceLE,Int.reduceEq,Int.reduceNeg,Int.reduceNe,reduceCtorEq,lst,zen,List.length_map,List.length_append]))
    refine ⟨(k+1,acc++nth L k,(b||decide (0<(nth L k).length))),by (try dsimp only);omega,⟨by (try dsimp only);omega,hg,by (try dsimp only);simp;omega⟩, ?_⟩;(try dsimp only);(first|omega|(simp;done)|(simp;omega)|((refine no_implicit_lambda% (st ?_);try with_reducible exact True.intro);done)|(simp[List.map_set, *];done)|(simp[List.map_set, *];rfl)|((refine no_implicit_lambda% (st ?_);try with_reducible exact True.intro);simp[List.map_set, *];done)|((try (refine no_implicit_lambda% (st ?_);try with_reducible exact True.intro));(repeat' refine And.intro ?_ ?_)<;>first|omega|rfl|(simp;done)|(simp;omega)|(simp;rfl)|(simp[List.map_set, *];done)|(simp[List.map_set, *];rfl)))
   ·rw[List.drop_eq_nil_of_le hge,List.flatten_nil,List.append_nil]at hg
    subst hg
    repeat' (first|refine zaa [0,2,3,5,6,8,9,10,11,12,20,25,26,27,28] fun K hK=>?_|refine AWp.block ?_|(refine hK.go ?_;clear hK K)|refine Cont.go (by assumption) ?_|(refine cnd2 rfl (fun h=>?_) (fun h=>?_)<;>(try first|exact h.elim|obtain rfl:(_:Bool)=true:=h|obtain rfl:(_:Bool)=false:=h)<;>first|(exfalso;omega)|skip)|((first|refine AWp.reg hE hM ?_|refine AWp.regd hE hM ?_|refine AWp.ret ?_|refine AWp.skip ?_|refine AWp.exit ?_|(refine pk2 (fun h=>?_) (fun h=>?_)<;>(try first|exact h.elim|obtain rfl:(_:Bool)=true:=h|obtain rfl:(_:Bool)=false:=h))|refine zab (fun h=>?_) ?_|(refine hQ _ _ _ rfl ?_;clear hQ hR hE hM)|(refine hR _ _ (hQ _ _ _ rfl ?_);clear hQ hR hE hM)|(refine zaf ?_ ?_;focus first|omega|(refine zac ?_;(refine no_implicit_lambda% (st ?_);try with_reducible exact True.intro);done)))<;>try simp -dsimp -implicitDefEqProofs (disch:=omega) only[go_sem,reduceIte,↓reduceIte,Nat.reduceEqDiff,Nat.reduceLT,Nat.reduceLeDiff,Nat.reduceAdd,Nat.reduceSub,Nat.reduceMul,Int.reduceToNat,Int.reduceLT,Int.reduceLE,Int.reduceEq,Int.reduceNeg,Int.reduceNe,reduceCtorEq,List.length_map]))
    rw[show L.flatten.map (AV.i .i64)=(L.flatten.map zgM).flatten from (zen _).symm,zbX]
end Go.Lev
namespace Go.Lev
open Go.Eng
set_option maxRecDepth 10000
set_option maxHeartbeats 4000000
variable {P:Program} {inv:Nat→Option Nat} {w0:World} {M:Nat→Prop}
structure Wk where
 inn:Join
 asks:List AskR
 outs:List Join
 lost:Bool
def Wk.c (p:Pln) (w:Wk):List AV:=[.n p.version,.n p.parent,.sl 3 (p.sections.map Section.c),.sl 2 (p.points.map Pnt.c),.sl 3 (p.signals.map Sgn.c),.sl 7 (p.routes.map Rte.c),.n w.inn.to,.n w.inn.ed,.sm 20 (w.asks.length*3) 0 w.asks.length 3,.sm 21 (w.outs.length*2) 0 w.outs.length 2,.b w.lost]
attribute [go_sem] Wk.c
def zic (p:Pln) (w:Wk) (id:Int):Option Section:=if w.inn.to=id then p.sections.find? fun s=>decide (s.id=id) else none
def zls (pt lie pos:Int) (l:List AskR):List AskR:=if 0<pt∧0<lie then l++[⟨pt,lie,pos⟩] else l
def zbn (s:Section) (frm:Int) (right:Int→Join→Bool):Nat→List Join→Option (Nat×Join×Int)
 |_,[]=>none
 |e,j::r=>if (za9 s frm e).2=0∧right e j=true then some (e,j,(za9 s frm e).1) else zbn s frm right (e+1) r
def zaH (p:Pln) (w:Wk) (id pos:Int) (right:Int→Join→Bool):Wk :=
 if w.lost=true then w else match zic p w id with
 |none=>{ w with lost:=true }
 |some s=>match zbn s w.inn.ed right 0 s.ends with
  |none=>{ w with lost:=true }
  |some (e,j,lie)=>⟨j,zls s.pt lie pos w.asks,w.outs++[⟨id,e⟩],false⟩
def zd3 (p:Pln) (w:Wk) (id pos:Int):Wk :=
 match zic p w id with
 |none=>{ w with lost:=true }
 |some s=>if w.lost=false∧0<w.inn.ed then { w with asks:=zls s.pt w.inn.ed pos w.asks } else w
theorem zfu (hH:HasAll P inv) (n:Int) (x:Section):PC P inv 140 ([.agg x.c]++[.ip 1 [[.n n]] 0 0]) (·=.b (decide (x.id=n))):=by
 refine zae (F:=cd140) (hH.has _ _ rfl) (Nat.le_of_ble_eq_true rfl) fun w0 M Q hM hQ hR=>?_;have hE:=hH.callable;dsimp only[cd140,qm,ql,qf,qi,qb,qc,qp,qv,qN,qT,qF,qt]at hQ ⊢
 repeat' (first|refine zaa [0,1,2,3] fun K hK=>?_|refine AWp.block ?_|(refine hK.go ?_;clear hK K)|refine Cont.go (by assumption) ?_|(refine cnd2 rfl (fun h=>?_) (fun h=>?_)<;>(try first|exact h.elim|obtain rfl:(_:Bool)=true:=h|obtain rfl:(_:Bool)=false:=h)<;>first|(exfalso;omega)|skip)|((first|refine AWp.reg hE hM ?_|refine AWp.regd hE hM ?_|refine AWp.ret ?_|refine AWp.skip ?_|refine AWp.exit ?_|(refine pk2 (fun h=>?_) (fun h=>?_)<;>(try first|exact h.elim|obtain rfl:(_:Bool)=true:=h|obtain rfl:(_:Bool)=false:=h))|refine zab (fun h=>?_) ?_|(refine hQ _ _ _ rfl ?_;clear hQ hR hE hM)|(refine hR _ _ (hQ _ _ _ rfl ?_);clear hQ hR hE hM)|(refine zaf ?_ ?_;focus first|omega|(refine zac ?_;(refine no_implicit_lambda% (st ?_);try with_reducible exact True.intro);done)))<;>try (refine no_implicit_lambda% (st ?_);try with_reducible exact True.intro)))
theorem zl5 (hH:HasAll P inv) (e:Int) (j:Join):PC P inv 103 [.n e,.agg j.c] (·=.b (decide (j=⟨0,0⟩))):=by
 refine zae (F:=cd103) (hH.has _ _ rfl) (Nat.le_of_ble_eq_true rfl) fun w0 M Q hM hQ hR=>?_;have hE:=hH.callable;dsimp only[cd103,qm,ql,qf,qi,qb,qc,qp,qv,qN,qT,qF,qt]at hQ ⊢
 repeat' (first|refine zaa [1,3,4] fun K hK=>?_|refine AWp.block ?_|(refine hK.go ?_;clear hK K)|refine Cont.go (by assumption) ?_|(refine cnd2 rfl (fun h=>?_) (fun h=>?_)<;>(try first|exact h.elim|obtain rfl:(_:Bool)=true:=h|obtain rfl:(_:Bool)=false:=h)<;>first|(exfalso;omega)|skip)|((first|refine AWp.reg hE hM ?_|refine AWp.regd hE hM ?_|refine AWp.ret ?_|refine AWp.skip ?_|refine AWp.exit ?_|(refine pk2 (fun h=>?_) (fun h=>?_)<;>(try first|exact h.elim|obtain rfl:(_:Bool)=true:=h|obtain rfl:(_:Bool)=false:=h))|refine zab (fun h=>?_) ?_|(refine hQ _ _ _ rfl ?_;clear hQ hR hE hM)|(refine hR _ _ (hQ _ _ _ rfl ?_);clear hQ hR hE hM)|(refine zaf ?_ ?_;focus first|omega|(refine zac ?_;(refine no_implicit_lambda% (st ?_);try with_reducible exact True.intro);done)))<;>try (refine no_implicit_lambda% (st ?_);try with_reducible exact True.intro)))
 simp[zmE]
theorem zl4 (hH:HasAll P inv) (e:Int) (j:Join) (s:Int) (x:Sgn):PC P inv 104 ([.n e,.agg j.c]++[.ip 1 [[.n s]] 0 0,.ip 3 [x.c] 0 0]) (·=.b (decide (s=x.sec)&&decide (e=x.ed))):=by
 refine zae (F:=cd104) (hH.has _ _ rfl) (Nat.le_of_ble_eq_true rfl) fun w0 M Q hM hQ hR=>?_;have hE:=hH.callable;dsimp only[cd104,qm,ql,qf,qi,qb,qc,qp,qv,qN,qT,qF,qt]at hQ ⊢
 repeat' (first|refine zaa [0,1,2,3,6] fun K hK=>?_|refine AWp.block ?_|(refine hK.go ?_;clear hK K)|refine Cont.go (by assumption) ?_|(refine cnd2 rfl (fun h=>?_) (fun h=>?_)<;>(try first|exact h.elim|obtain rfl:(_:Bool)=true:=h|obtain rfl:(_:Bool)=false:=h)<;>first|(exfalso;omega)|skip)|((first|refine AWp.reg hE hM ?_|refine AWp.regd hE hM ?_|refine AWp.ret ?_|refine AWp.skip ?_|refine AWp.exit ?_|(refine pk2 (fun h=>?_) (fun h=>?_)<;>(try first|exact h.elim|obtain rfl:(_:Bool)=true:=h|obtain rfl:(_:Bool)=false:=h))|refine zab (fun h=>?_) ?_|(refine hQ _ _ _ rfl ?_;clear hQ hR hE hM)|(refine hR _ _ (hQ _ _ _ rfl ?_);clear hQ hR hE hM)|(refine zaf ?_ ?_;focus first|omega|(refine zac ?_;(refine no_implicit_lambda% (st ?_);try with_reducible exact True.intro);done)))<;>try (refine no_implicit_lambda% (st ?_);try with_reducible exact True.intro)))
 all_goals simp[*]
theorem zl3 (hH:HasAll P inv) (e:Int) (j:Join) (all:List Int) (i:Nat) (hi:i+1<all.length) (ha:all.length≤1000000000):PC P inv 106 ([.n e,.agg j.c]++[.ip 1 [[.sl 1 (all.map zgM)]] 0 0,.ip 1 [[.n i]] 0 0]) (·=.b (decide (j.to=nth all (i+1)))):=by
 refine zae (F:=cd106) (hH.has _ _ rfl) (Nat.le_of_ble_eq_true rfl) fun w0 M Q hM hQ hR=>?_;have hE:=hH.callable;dsimp only[cd106,qm,ql,qf,qi,qb,qc,qp,qv,qN,qT,qF,qt]at hQ ⊢
 repeat' (first|refine zaa [1,2,3,5,6] fun K hK=>?_|refine AWp.block ?_|(refine hK.go ?_;clear hK K)|refine Cont.go (by assumption) ?_|(refine cnd2 rfl (fun h=>?_) (fun h=>?_)<;>(try first|exact h.elim|obtain rfl:(_:Bool)=true:=h|obtain rfl:(_:Bool)=false:=h)<;>first|(exfalso;omega)|skip)|((first|refine AWp.reg hE hM ?_|refine AWp.regd hE hM ?_|refine AWp.ret ?_|refine AWp.skip ?_|refine AWp.exit ?_|(refine pk2 (fun h=>?_) (fun h=>?_)<;>(try first|exact h.elim|obtain rfl:(_:Bool)=true:=h|obtain rfl:(_:Bool)=false:=h))|refine zab (fun h=>?_) ?_|(refine hQ _ _ _ rfl ?_;clear hQ hR hE hM)|(refine hR _ _ (hQ _ _ _ rfl ?_);clear hQ hR hE hM)|(refine zaf ?_ ?_;focus first|omega|(refine zac ?_;(refine no_implicit_lambda% (st ?_);try with_reducible exact True.intro);done)))<;>try (refine no_implicit_lambda% (st ?_);try with_reducible exact True.intro)))
 rw[show ((i:Int)+1).toNat=i+1 by omega]
def stW (p:Pln) (r:Rte) (x y:Sgn) (w:Wk) (all:List Int) (i s:Int) (ba bo:Bool):List (Nat×AO):=[(1,.cells r.c true),(2,.cells [.s0 1,.s0 1,.s0 3,.n 0] true),(3,.cells x.c true),(4,.cells y.c true),(5,.cells (w.c p) true),(6,.cells [.sl 1 (all.map zgM)] true),(20,.cells (w.asks.map AskR.c).flatten ba),(21,.cells (w.outs.map Join.c).flatten bo),(22,.cells [.n i] true),(23,.cells [.n s] true)]
theorem stay_ac (hH:HasAll P inv) (hM:∀ b,M b→b<w0.heap.size) (p:Pln) (hp:Sm p) (r:Rte) (x y:Sgn) (w:Wk) (all:List Int) (i s:Int) (ba bo:Bool) (hw:w.asks.length≤1000000) :
  AC P inv w0 M 30 105 [.ptr 5 11 0,.n s,.n i] (stW p r x y w all i s ba bo) fun r0 σ'=>r0=.tup []∧σ'=stW p r x y (zd3 p w s i) all i s (ba||decide (w.asks.length<(zd3 p w s i).asks.length)) bo:=by
 have hs:=zb8 (fun t:Section=>decide (t.id=s)) p.sections 0
 have c0:=zgi hH p.sections (fun t _=>zfu hH s t) (Nat.le_trans hp.sec (by omega))
 have hl:=hp.sec
 obtain ⟨inn,asks,outs,lost⟩:=w
 dsimp only at hw
 generalize hW:zd3 p ⟨inn,asks,outs,lost⟩ s i=W
 unfold zd3 zic zls at hW
 dsimp only at hW
 rcases hs with ⟨h1,h2⟩|⟨k,hk,h1,h2⟩
 ·rw[h1]at c0
  rw[h2,ite_self]at hW
  subst hW
  refine zaS (F:=cd105) (hH.has _ _ rfl) rfl (Nat.le_of_ble_eq_true rfl) fun Q hQ hR=>?_;have hE:=hH.callable;dsimp only[cd105,qm,ql,qf,qi,qb,qc,qp,qv,qN,qT,qF,qt]at hQ ⊢
  skip
  unfold stW
  (refine no_implicit_lambda% (st ?_);try with_reducible exact True.intro)
  repeat' (first|refine zaa [0,1,2,3,4,5,6,13,22,23] fun K hK=>?_|refine AWp.block ?_|(refine hK.go ?_;clear hK K)|refine Cont.go (by assumption) ?_|(refine cnd2 rfl (fun h=>?_) (fun h=>?_)<;>(try first|exact h.elim|obtain rfl:(_:Bool)=true:=h|obtain rfl:(_:Bool)=false:=h)<;>first|(exfalso;omega)|skip)|((first|refine AWp.reg hE hM ?_|refine AWp.regd hE hM ?_|refine AWp.ret ?_|refine AWp.skip ?_|refine AWp.exit ?_|(refine pk2 (fun h=>?_) (fun h=>?_)<;>(try first|exact h.elim|obtain rfl:(_:Bool)=true:=h|obtain rfl:(_:Bool)=false:=h))|refine zab (fun h=>?_) ?_|(refine AC.callK 30 (by omega) (by first|omega|((refine no_implicit_lambda% (st ?_);try with_reducible exact True.intro);done)|((refine no_implicit_lambda% (st ?_);try with_reducible exact True.intro);omega)) (zax (F:=cd130) (hH.has _ _ rfl) (Nat.le_of_ble_eq_true rfl) fun Q hQ hR=>?_);dsimp only[cd130,qm,ql,qf,qi,qb,qc,qp,qv,qN,qT,qF,qt]at hQ ⊢)|(refine AC.callK 40 (by omega) (by first|omega|((refine no_implicit_lambda% (st ?_);try with_reducible exact True.intro);done)|((refine no_implicit_lambda% (st ?_);try with_reducible exact True.intro);omega)) (zax (F:=cd107) (hH.has _ _ rfl) (Nat.le_of_ble_eq_true rfl) fun Q hQ hR=>?_);dsimp only[cd107,qm,ql,qf,qi,qb,qc,qp,qv,qN,qT,qF,qt]at hQ ⊢)|(refine zat hM 4 ( c0) ?_ rfl ?_;(focus ((refine no_implicit_lambda% (st ?_);try with_reducible exact True.intro)<;>fail)))|(refine hQ _ _ _ rfl ?_;clear hQ hR)|(refine hR _ _ (hQ _ _ _ rfl ?_);clear hQ hR)|(refine zaf ?_ ?_;focus first|omega|(refine zac ?_;(refine no_implicit_lambda% (st ?_);try with_reducible exact True.intro);done)))<;>try (refine no_implicit_lambda% (st ?_);try with_reducible exact True.intro)))
  all_goals (refine ⟨[],trivial, ?_⟩;simp only[swS,stW,Wk.c];(refine no_implicit_lambda% (st ?_);try with_reducible exact True.intro);(try simp))
 ·rw[h1,Int.zero_add]at c0
  rw[h2]at hW
  refine zaS (F:=cd105) (hH.has _ _ rfl) rfl (Nat.le_of_ble_eq_true rfl) fun Q hQ hR=>?_;have hE:=hH.callable;dsimp only[cd105,qm,ql,qf,qi,qb,qc,qp,qv,qN,qT,qF,qt]at hQ ⊢
  skip
  unfold stW
  (refine no_implicit_lambda% (st ?_);try with_reducible exact True.intro)
  repeat' (first|refine zaa [0,1,2,3,4,5,6,13,22,23] fun K hK=>?_|refine AWp.block ?_|(refine hK.go ?_;clear hK K)|refine Cont.go (by assumption) ?_|(refine cnd2 rfl (fun h=>?_) (fun h=>?_)<;>(try first|exact h.elim|obtain rfl:(_:Bool)=true:=h|obtain rfl:(_:Bool)=false:=h)<;>first|(exfalso;omega)|skip)|((first|refine AWp.reg hE hM ?_|refine AWp.regd hE hM ?_|refine AWp.ret ?_|refine AWp.skip ?_|refine AWp.exit ?_|(refine pk2 (fun h=>?_) (fun h=>?_)<;>(try first|exact h.elim|obtain rfl:(_:Bool)=true:=h|obtain rfl:(_:Bool)=false:=h))|refine zab (fun h=>?_) ?_|(refine AC.callK 30 (by omega) (by first|omega|((refine no_implicit_lambda% (st ?_);try with_reducible exact True.intro);done)|((refine no_implicit_lambda% (st ?_);try with_reducible exact True.intro);omega)) (zax (F:=cd130) (hH.has _ _ rfl) (Nat.le_of_ble_eq_true rfl) fun Q hQ hR=>?_);dsimp only[cd130,qm,ql,qf,qi,qb,qc,qp,qv,qN,qT,qF,qt]at hQ ⊢)|(refine AC.callK 40 (by omega) (by first|omega|((refine no_implicit_lambda% (st ?_);try with_reducible exact True.intro);done)|((refine no_implicit_lambda% (st ?_);try with_reducible exact True.intro);omega)) (zax (F:=cd107) (hH.has _ _ rfl) (Nat.le_of_ble_eq_true rfl) fun Q hQ hR=>?_);dsimp only[cd107,qm,ql,qf,qi,qb,qc,qp,qv,qN,qT,qF,qt]at hQ ⊢)|(refine zat hM 4 ( c0) ?_ rfl ?_;(focus ((refine no_implicit_lambda% (st ?_);try with_reducible exact True.intro)<;>fail)))|(refine hQ _ _ _ rfl ?_;clear hQ hR)|(refine hR _ _ (hQ _ _ _ rfl ?_);clear hQ hR)|(refine zaf ?_ ?_;focus first|omega|(refine zac ?_;(refine no_implicit_lambda% (st ?_);try with_reducible exact True.intro);done)))<;>try (refine no_implicit_lambda% (st ?_);try with_reducible exact True.intro)))
  all_goals (simp only[*,true_and,and_true,and_self,if_true,if_false,false_and,and_false,reduceCtorEq,Bool.true_eq_false,Bool.false_eq_true]at hW)
  all_goals (try subst hW)
  all_goals (refine ⟨[],trivial, ?_⟩;simp only[swS,stW,Wk.c];(refine no_implicit_lambda% (st ?_);try with_reducible exact True.intro))
  all_goals simp[AskR.c]
end Go.Lev
