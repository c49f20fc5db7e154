/-
  A part of the engine that walks the functions' codes, and of the functions' contracts. Conditions: those that each theorem names.
-/
import Derived.Test.YtjgelcegjmfgnaaGreatL8
import Derived.IntWalk
set_option linter.unusedSimpArgs false
set_option linter.unusedVariables false
set_option linter.unusedSectionVars false
namespace Go.Lev
open Go.Eng
set_option maxRecDepth 10000
set_option maxHeartbeats 4000000
variable {P:Program} {inv:Nat→Option Nat}
theorem znc (hH:HasAll P inv) (l:List Flk) (h:l.length≤1000000):PC P inv 128 [.sl 2 (l.map Flk.c)] (·=.sl 2 (l.map Flk.c)):=by
 refine PC.fn hH cd128 fun w0 M Q hM hE hQ hR=>?_;dsimp only[cd128,qm,ql,qf,qi,qb,qc,qp,qv,qN,qT,qF,qt]at hQ ⊢
 (repeat' first|refine zaa [0,2,4] fun K hK=>?_|(refine hK.go ?_;clear hK K)|with_reducible exact wT|refine wA ?_|(refine wB (fun h=>?_) (fun h=>?_)<;>first|exact wN h|subst (h:(_:Bool)=_)|skip)|(refine wQ ?_;clear hQ hR hE hM)|fail)
 ·have h0:l.length=0:=by assumption
  obtain rfl:=List.length_eq_zero_iff.1 h0
  rfl
theorem zoo (hH:HasAll P inv) (r:Rte) (h:r.path.length≤1000000∧r.over.length≤1000000∧r.flanks.length≤1000000):PC P inv 99 [.agg r.c] (·=.agg r.c):=by
 refine PC.fn hH cd99 fun w0 M Q hM hE hQ hR=>?_;dsimp only[cd99,qm,ql,qf,qi,qb,qc,qp,qv,qN,qT,qF,qt]at hQ ⊢
 (repeat' first|refine zaa [0,1,2] fun K hK=>?_|(refine hK.go ?_;clear hK K)|with_reducible exact wT|refine wA ?_|(refine wB (fun h=>?_) (fun h=>?_)<;>first|exact wN h|subst (h:(_:Bool)=_)|skip)|(refine wQ ?_;clear hQ hR hE hM)|(refine zau hM (zd4 hH _ h.1) ?_;try (refine no_implicit_lambda% (st ?_);try with_reducible exact wT))|(refine zau hM (zd4 hH _ h.2.1) ?_;try (refine no_implicit_lambda% (st ?_);try with_reducible exact wT))|(refine zau hM (znc hH _ h.2.2) ?_;try (refine no_implicit_lambda% (st ?_);try with_reducible exact wT))|fail)
theorem znh (hH:HasAll P inv) (hI:HasIds P inv) (p:Pln) (hp:Sm p) (n:Int):PC P inv 98 [.agg p.c,.sl 7 (p.routes.map Rte.c),.n n] (·=.tup [.agg (zfD p n).1.c,.n (zfD p n).2]):=by
 have c0:=zg3 hH hI p hp
 have c1:=find_rte hH hI p.routes (Nat.le_trans hp.rte (by omega)) n
 cases ho:zcL p with
 |false =>
  rw[show zbV p=8 by simp[zbV,ho]]at c0
  rw[show zfD p n=(Rte.z,8) by simp[zfD,ho]]
  refine PC.fn hH cd98 fun w0 M Q hM hE hQ hR=>?_;dsimp only[cd98,qm,ql,qf,qi,qb,qc,qp,qv,qN,qT,qF,qt]at hQ ⊢
  (repeat' first|refine zaa [0,1,2,3,6,7,8,9,10,11,15,25] fun K hK=>?_|(refine hK.go ?_;clear hK K)|with_reducible exact wT|refine wA ?_|(refine wB (fun h=>?_) (fun h=>?_)<;>first|exact wN h|subst (h:(_:Bool)=_)|skip)|(refine wQ ?_;clear hQ hR hE hM)|refine wC c0 ?_|fail)
  all_goals (first|rfl|omega)
 |true =>
  rw[show zbV p=0 by simp[zbV,ho]]at c0
  unfold zfD
  rw[if_pos ho]
  revert c1
  generalize (p.routes.find? fun x=>decide (x.id=n))=x
  intro c1
  cases x with
  |none =>
   refine PC.fn hH cd98 fun w0 M Q hM hE hQ hR=>?_;dsimp only[cd98,qm,ql,qf,qi,qb,qc,qp,qv,qN,qT,qF,qt]at hQ ⊢
   (have hX:=zA @Option.isSome_none.{0} (zA @Option.isSome_some.{0} (zA @Option.getD_none.{0} @Option.getD_some.{0}));(repeat' first|refine zaa [0,1,2,3,6,7,8,9,10,11,15,25] fun K hK=>?_|(refine hK.go ?_;clear hK K)|with_reducible exact wT|refine wA ?_|(refine wB (fun h=>?_) (fun h=>?_)<;>first|exact wN h|subst (h:(_:Bool)=_)|skip)|(refine wQ ?_;clear hQ hR hE hM)|refine wC c0 ?_|refine wC c1 ?_|fail);all_goals clear hX)
   all_goals (first|rfl|omega)
  |some r =>
   refine PC.fn hH cd98 fun w0 M Q hM hE hQ hR=>?_;dsimp only[cd98,qm,ql,qf,qi,qb,qc,qp,qv,qN,qT,qF,qt]at hQ ⊢
   (have hX:=zA @Option.isSome_none.{0} (zA @Option.isSome_some.{0} (zA @Option.getD_none.{0} @Option.getD_some.{0}));(repeat' first|refine zaa [0,1,2,3,6,7,8,9,10,11,15,25] fun K hK=>?_|(refine hK.go ?_;clear hK K)|with_reducible exact wT|refine wA ?_|(refine wB (fun h=>?_) (fun h=>?_)<;>first|exact wN h|subst (h:(_:Bool)=_)|skip)|(refine wQ ?_;clear hQ hR hE hM)|refine wC c0 ?_|refine wC c1 ?_|fail);all_goals clear hX)
   all_goals (first|rfl|omega)
theorem rteOf_sm (p:Pln) (n:Int):(zfD p n).1.path.length≤1000000∧(zfD p n).1.over.length≤1000000∧(zfD p n).1.flanks.length≤1000000:=by
 unfold zfD
 split
 ·rename_i ho
  split
  ·rename_i r h
   simp only[zcL,Bool.and_eq_true,List.all_eq_true]at ho
   have h1:=ho.2.2.2.2 r (zev h).1
   simp only[zgt,zgs,Bool.and_eq_true,Bool.not_eq_true',decide_eq_false_iff_not]at h1
   dsimp only
   omega
  ·simp[Rte.z]
 ·simp[Rte.z]
theorem zls (hH:HasAll P inv) (hI:HasIds P inv) (p:Pln) (hp:Sm p) (n:Int):PC P inv 89 [.agg p.c,.n n] (·=.tup [.agg (zfD p n).1.c,.n (zfD p n).2]):=by
 refine PC.fn hH cd89 fun w0 M Q hM hE hQ hR=>?_;dsimp only[cd89,qm,ql,qf,qi,qb,qc,qp,qv,qN,qT,qF,qt]at hQ ⊢
 (repeat' first|refine zaa [0,1,2,4,5,6,7] fun K hK=>?_|(refine hK.go ?_;clear hK K)|with_reducible exact wT|refine wA ?_|(refine wB (fun h=>?_) (fun h=>?_)<;>first|exact wN h|subst (h:(_:Bool)=_)|skip)|(refine wQ ?_;clear hQ hR hE hM)|refine wC (znh hH hI p hp n) ?_|(refine zau hM (zoo hH _ (rteOf_sm p n)) ?_;try (refine no_implicit_lambda% (st ?_);try with_reducible exact wT))|fail)
end Go.Lev
namespace Go.Lev
open Go.Eng
set_option maxRecDepth 10000
set_option maxHeartbeats 4000000
variable {P:Program} {inv:Nat→Option Nat} {w0:World} {M:Nat→Prop}
theorem zpq (hH:HasAll P inv) (hI:HasIds P inv) (p:Pln) (hp:Sm p) (n:Int):PC P inv 76 [.agg p.c,.n n] (·=.tup [.agg (ofW p n).1.c,.n (ofW p n).2]):=by
 have c0:=zls hH hI p hp n
 unfold ofW
 cases ho:zcL p with
 |false =>
  rw[if_neg (by simp)]
  rw[show zfD p n=(Rte.z,8) by simp[zfD,ho]]at c0
  refine PC.fn hH cd76 fun w0 M Q hM hE hQ hR=>?_;dsimp only[cd76,qm,ql,qf,qi,qb,qc,qp,qv,qN,qT,qF,qt]at hQ ⊢
  (repeat' first|refine zaa [0,1,2,4,5,6,7,8,17] fun K hK=>?_|(refine hK.go ?_;clear hK K)|with_reducible exact wT|refine wA ?_|(refine wB (fun h=>?_) (fun h=>?_)<;>first|exact wN h|subst (h:(_:Bool)=_)|skip)|(refine wQ ?_;clear hQ hR hE hM)|refine wC c0 ?_|fail)
  all_goals first|rfl|(exfalso;contradiction)
 |true =>
  rw[if_pos rfl]
  unfold zfD at c0
  rw[if_pos ho]at c0
  cases hf:(p.routes.find? fun x=>decide (x.id=n)) with
  |none =>
   rw[hf]at c0
   dsimp only at c0 ⊢
   refine PC.fn hH cd76 fun w0 M Q hM hE hQ hR=>?_;dsimp only[cd76,qm,ql,qf,qi,qb,qc,qp,qv,qN,qT,qF,qt]at hQ ⊢
   (repeat' first|refine zaa [0,1,2,4,5,6,7,8,17] fun K hK=>?_|(refine hK.go ?_;clear hK K)|with_reducible exact wT|refine wA ?_|(refine wB (fun h=>?_) (fun h=>?_)<;>first|exact wN h|subst (h:(_:Bool)=_)|skip)|(refine wQ ?_;clear hQ hR hE hM)|refine wC c0 ?_|fail)
   all_goals first|rfl|(exfalso;contradiction)
  |some r =>
   rw[hf]at c0
   dsimp only at c0 ⊢
   have c1:=znv hH p hp (ziq ho) (zev hf).1
   generalize zak p r=W at c1 ⊢
   refine PC.fn hH cd76 fun w0 M Q hM hE hQ hR=>?_;dsimp only[cd76,qm,ql,qf,qi,qb,qc,qp,qv,qN,qT,qF,qt]at hQ ⊢
   (repeat' first|refine zaa [0,1,2,4,5,6,7,8,17] fun K hK=>?_|(refine hK.go ?_;clear hK K)|with_reducible exact wT|refine wA ?_|(refine wB (fun h=>?_) (fun h=>?_)<;>first|exact wN h|subst (h:(_:Bool)=_)|skip)|(refine wQ ?_;clear hQ hR hE hM)|refine wC c0 ?_|refine wC c1 ?_|fail)
end Go.Lev
namespace Go.Lev
open Go.Eng
theorem ofW_at {p:Pln} {s:State} (h:zac p s=0) {i:Nat} (hi:i<s.locks.length):ofW p (nth s.locks i).id=((zak p (nth p.routes i)).1,0):=by
 obtain ⟨h1,h2,_⟩:=zab h
 obtain ⟨hok,hw,_⟩:=zaU h1
 have hl:=zag h2
 have hr:nth p.routes i∈p.routes:=zad (by omega)
 have hl2:=zbR h2 hi
 simp only[zbs,Bool.and_eq_true,decide_eq_true_eq]at hl2
 have hp:zcL p=true:=by simp only[zbH,Bool.and_eq_true]at h1;exact h1.1
 unfold ofW
 rw[if_pos hp,hl2.1,zm9 Rte.id (zh0 hok) hr]
 dsimp only
 rw[hw _ hr]
end Go.Lev
namespace Go.Lev
open Go.Eng
theorem cnS_at {p:Pln} {s:State} (h:zac p s=0) {i:Nat} (hi:i<s.locks.length):nth (cnS p s (nth s.locks i).id).locks i=cnL s (zak p (nth p.routes i)).1 (nth p.routes i) (nth s.locks i) (nth s.locks i).id:=by
 unfold cnS
 rw[zkt h hi rfl,Int.toNat_natCast]
 exact za7 _ _ _ _ hi |>.trans (if_pos rfl)
theorem near_sec {p:Pln} {s:State} (h:zac p s=0) {i:Nat} (hi:i<p.routes.length):frT s (zak p (nth p.routes i)).1.near=decide (zbB s (zak p (nth p.routes i)).1.near=0):=ziF (zae h) (zab h).2.1 _
theorem zre {p:Pln} {s:State} (h:zac p s=0) (w:WayR) (l:Lock):ze2 s w l=(w.path.drop l.gone.toNat).all fun m=>decide (zbB s m=0):=by
 unfold ze2
 rw[Bool.eq_iff_iff]
 simp only[Bool.not_eq_true',List.any_eq_false,List.all_eq_true,ziF (zae h) (zab h).2.1,Bool.not_eq_true',Bool.not_eq_false,decide_eq_true_eq,decide_eq_false_iff_not]
 exact ⟨fun g x hx=>Classical.byContradiction fun e=>g x hx e,fun g x hx e=>e (g x hx)⟩
end Go.Lev
namespace Go.Lev
open Go.Eng
set_option maxRecDepth 10000
set_option maxHeartbeats 4000000
variable {P:Program} {inv:Nat→Option Nat} {w0:World} {M:Nat→Prop}
theorem zlu (hH:HasAll P inv):PC P inv 161 [] (·=.agg zdf.c):=by
 have h:PC P inv 161 [] (·=.agg [.n 1,.n 0,.sl 3 (zdf.sections.map Section.c),.sl 2 (zdf.points.map Pnt.c),.sl 3 (zdf.signals.map Sgn.c),.sl 7 [[.n 1,.n 1,.n 0,.sl 1 [[.n 2],[.n 3]],.s0 1,.s0 2,.n 3],[.n 2,.n 1,.n 0,.sl 1 [[.n 2],[.n 4]],.s0 1,.s0 2,.n 4]]]):=by
  refine PC.fn hH cd161 fun w0 M Q hM hE hQ hR=>?_;dsimp only[cd161,qm,ql,qf,qi,qb,qc,qp,qv,qN,qT,qF,qt]at hQ ⊢
  (repeat' first|refine zaa [0] fun K hK=>?_|(refine hK.go ?_;clear hK K)|with_reducible exact wT|refine wA ?_|(refine wB (fun h=>?_) (fun h=>?_)<;>first|exact wN h|subst (h:(_:Bool)=_)|skip)|(refine wQ ?_;clear hQ hR hE hM)|fail)
  rfl
 exact h.nzr
theorem zoH (hH:HasAll P inv) (hI:HasIds P inv):PC P inv 160 [] (·=.tup [.agg stQ.c,.b true]):=by
 suffices h:PO P inv 160 [] (.tup [zf8 3 stQ,.b true]) (zf9 3 stQ) by
  have:=h.pc
  rw[zgm]at this
  exact this
 have c0:=zlu hH
 have c1:=zp2 hH hI zdf smC okC
 rw[atC]at c1
 unfold stV stR at c1
 have e1:stN.tracks.length=4:=rfl
 have e2:stN.switches.length=1:=rfl
 have e3:stN.locks.length=2:=rfl
 have q1:stN.tracks.mapIdx zfg=stQ.tracks:=rfl
 have q2:stN.switches=stQ.switches:=rfl
 have q3:stN.locks=stQ.locks:=rfl
 have r1:stQ.tracks.length=4:=rfl
 have r2:stQ.switches.length=1:=rfl
 have r3:stQ.locks.length=2:=rfl
 generalize stN=S at *
 generalize stQ=T at *
 rw[e1,e2,e3]at c1
 refine PO.fn hH cd160 fun w0 M Q hM hE hQ hR=>?_;dsimp only[cd160,qm,ql,qf,qi,qb,qc,qp,qv,qN,qT,qF,qt]at hQ ⊢
 (have hX:=zA @e1 (zA @e2 @e3);(repeat' first|refine zaa [0,1,2,3,4,14] fun K hK=>?_|(refine hK.go ?_;clear hK K)|with_reducible exact wT|refine wA ?_|(refine wB (fun h=>?_) (fun h=>?_)<;>first|exact wN h|subst (h:(_:Bool)=_)|skip)|(refine wR ?_;clear hQ hR hE hM)|refine wC c0 ?_|refine wO c1 ?_|fail);all_goals clear hX)
 refine zap (ι:=Nat) [0,1,2,3,4] (fun z=>[(4,.n z)]) (fun z=>[(3,.cells ((zdz zfg z S.tracks).map Track.c).flatten true)]) (fun z=>z) (4) (fun _=>True) (0) ?_;rintro k ⟨hk,-⟩;(try dsimp only at hk ⊢);rcases Nat.lt_or_ge k 4 with hlt|hge
 ·have hk:k<S.tracks.length:=by omega
  have d1:=zcv zfg hk
  have d2:=zbo (c:=Track.c) (l:=zdz zfg k S.tracks) (k:=k) (i:=1) (by rw[zbm];exact hk) (by omega) (.i .u8 0) (zfg k (nth S.tracks k)) (by rw[zby _ hk];rfl)
  rw[d1]at d2
  (have hX:=@d2;(repeat' first|refine zaa [0,1,2,3,4,14] fun K hK=>?_|(refine hK.go ?_;clear hK K)|with_reducible exact wT|refine wA ?_|(refine wB (fun h=>?_) (fun h=>?_)<;>first|exact wN h|subst (h:(_:Bool)=_)|skip)|(refine wR ?_;clear hQ hR hE hM)|fail);all_goals clear hX)
  exact ⟨k+1,by omega,by omega,by omega,rfl⟩
 ·rw[zcZ _ (by omega),q1]
  (repeat' first|refine zaa [0,1,2,3,4,14] fun K hK=>?_|(refine hK.go ?_;clear hK K)|with_reducible exact wT|refine wA ?_|(refine wB (fun h=>?_) (fun h=>?_)<;>first|exact wN h|subst (h:(_:Bool)=_)|skip)|(refine wR ?_;clear hQ hR hE hM)|fail)
  all_goals first|(exfalso;omega)|skip
  left
  unfold zf8 zf9
  rw[r1,r2,r3,←q2,←q3]
  constructor
  ·(try (refine no_implicit_lambda% (st ?_);try with_reducible exact wT))
   first|rfl|(simp;done)|trace_state
  ·(try (refine no_implicit_lambda% (st ?_);try with_reducible exact wT))
   first|rfl|(simp;done)|trace_state
theorem can22:cnC zdf znC 1=0∧cnR zdf znC 1=⟨[⟨1,0⟩,⟨2,0⟩,⟨3,0⟩,⟨4,0⟩],[⟨5,0,1⟩],[⟨1,0,0,0⟩,⟨2,0,0,0⟩]⟩:=by
 constructor<;>decide +kernel
theorem zpc (hH:HasAll P inv) (hI:HasIds P inv):PC P inv 159 [] (·=.b true):=by
 have c0:=zlu hH
 have c1:=zoH hH hI
 have c2:=zgC hH hI zdf smC stQ smQ 1
 have c3:=ziV hH hI zdf smC znC smQ1 1
 rw[setQ1,setQ2]at c2
 rw[can22.1,can22.2]at c3
 unfold stQ at c1 c2
 unfold znC at c2 c3
 refine PC.fn hH cd159 fun w0 M Q hM hE hQ hR=>?_;dsimp only[cd159,qm,ql,qf,qi,qb,qc,qp,qv,qN,qT,qF,qt]at hQ ⊢
 (repeat' first|refine zaa [0,1,2,3,4,5,13] fun K hK=>?_|(refine hK.go ?_;clear hK K)|with_reducible exact wT|refine wA ?_|(refine wB (fun h=>?_) (fun h=>?_)<;>first|exact wN h|subst (h:(_:Bool)=_)|skip)|(refine wQ ?_;clear hQ hR hE hM)|refine wC c1 ?_|refine wU c0 ?_|refine wU c2 ?_|refine wU c3 ?_|refine wC c0 ?_|refine wC c2 ?_|refine wC c3 ?_|fail)
 all_goals first|rfl|(exfalso;contradiction)|trace_state
end Go.Lev
namespace Go.Lev
open Go.Eng
set_option maxRecDepth 10000
set_option maxHeartbeats 4000000
variable {P:Program} {inv:Nat→Option Nat} {w0:World} {M:Nat→Prop}
theorem is22_pc (hH:HasAll P inv) (s:State) (hs:s.tracks.length≤1000000000) (n:Int):PC P inv 367 [.agg s.c,.n n] (·=.i .u8 (zbB s n)):=by
 unfold zbB
 refine PC.fn hH cd367 fun w0 M Q hM hE hQ hR=>?_;dsimp only[cd367,qm,ql,qf,qi,qb,qc,qp,qv,qN,qT,qF,qt]at hQ ⊢
 (repeat' first|refine zaa [0,1,2,4,5,10,20] fun K hK=>?_|(refine hK.go ?_;clear hK K)|with_reducible exact wT|refine wA ?_|(refine wB (fun h=>?_) (fun h=>?_)<;>first|exact wN h|subst (h:(_:Bool)=_)|skip)|(refine wQ ?_;clear hQ hR hE hM)|fail)
 refine zap (ι:=Nat) [1,2,4,5] (fun z=>[(5,.n z)]) (fun _=>[]) (fun z=>z) (s.tracks.length) (fun z=>((s.tracks.drop z).find? (fun t=>decide (t.id=n))=s.tracks.find? (fun t=>decide (t.id=n)))) (0) ?_;rintro k ⟨hk,hg⟩;(try dsimp only at hk hg ⊢);rcases Nat.lt_or_ge k s.tracks.length with hlt|hge
 ·rw[zaj hlt,List.find?_cons]at hg
  by_cases h1:(nth s.tracks k).id=n
  ·rw[decide_eq_true h1]at hg
   have h2:decide ((nth s.tracks k).id=n)=true:=decide_eq_true h1
   (have hX:=@h2;(repeat' first|refine zaa [0,1,2,4,5,10,20] fun K hK=>?_|(refine hK.go ?_;clear hK K)|with_reducible exact wT|refine wA ?_|(refine wB (fun h=>?_) (fun h=>?_)<;>first|exact wN h|subst (h:(_:Bool)=_)|skip)|(refine wQ ?_;clear hQ hR hE hM)|fail);all_goals clear hX)
   all_goals first|(exfalso;contradiction)|(rw[←hg];done)|(rw[←hg];rfl)|trace_state
  ·rw[decide_eq_false h1]at hg
   have h2:decide ((nth s.tracks k).id=n)=false:=decide_eq_false h1
   (have hX:=@h2;(repeat' first|refine zaa [0,1,2,4,5,10,20] fun K hK=>?_|(refine hK.go ?_;clear hK K)|with_reducible exact wT|refine wA ?_|(refine wB (fun h=>?_) (fun h=>?_)<;>first|exact wN h|subst (h:(_:Bool)=_)|skip)|(refine wQ ?_;clear hQ hR hE hM)|fail);all_goals clear hX)
   all_goals first|(exfalso;contradiction)|exact ⟨k+1,by omega,⟨by omega,hg⟩,by omega⟩|trace_state
 ·rw[List.drop_eq_nil_of_le hge,List.find?_nil]at hg
  (repeat' first|refine zaa [0,1,2,4,5,10,20] fun K hK=>?_|(refine hK.go ?_;clear hK K)|with_reducible exact wT|refine wA ?_|(refine wB (fun h=>?_) (fun h=>?_)<;>first|exact wN h|subst (h:(_:Bool)=_)|skip)|(refine wQ ?_;clear hQ hR hE hM)|fail)
  all_goals first|(rw[←hg];done)|(rw[←hg];rfl)|trace_state
theorem zrx (hH:HasAll P inv) (hI:HasIds P inv) (p:Pln) (hp:Pln.ok p) (s:State) (at':Int):PC P inv 359 [.agg p.c,.agg s.c,.n at'] (·=.b true):=by
 have c0:=zpc hH hI
 have c1:=zbK hH p
 have c2:=zdb hH s
 cases g1:zet p with
 |true =>
  rw[g1]at c1
  refine PC.fn hH cd359 fun w0 M Q hM hE hQ hR=>?_;dsimp only[cd359,qm,ql,qf,qi,qb,qc,qp,qv,qN,qT,qF,qt]at hQ ⊢
  (repeat' first|refine zaa [0,1,2,3,4,6,7,8,9,10,11,12,13,14,15,43,79,86,97,101,102,109,118,142,144] fun K hK=>?_|(refine hK.go ?_;clear hK K)|with_reducible exact wT|refine wA ?_|(refine wB (fun h=>?_) (fun h=>?_)<;>first|exact wN h|subst (h:(_:Bool)=_)|skip)|(refine wQ ?_;clear hQ hR hE hM)|refine wC c0 ?_|refine wC c1 ?_|fail)
 |false =>
  rw[g1]at c1
  cases g2:zfS s with
  |true =>
   rw[g2]at c2
   refine PC.fn hH cd359 fun w0 M Q hM hE hQ hR=>?_;dsimp only[cd359,qm,ql,qf,qi,qb,qc,qp,qv,qN,qT,qF,qt]at hQ ⊢
   (repeat' first|refine zaa [0,1,2,3,4,6,7,8,9,10,11,12,13,14,15,43,79,86,97,101,102,109,118,142,144] fun K hK=>?_|(refine hK.go ?_;clear hK K)|with_reducible exact wT|refine wA ?_|(refine wB (fun h=>?_) (fun h=>?_)<;>first|exact wN h|subst (h:(_:Bool)=_)|skip)|(refine wQ ?_;clear hQ hR hE hM)|refine wC c0 ?_|refine wC c1 ?_|refine wC c2 ?_|fail)
  |false =>
   rw[g2]at c2
   have sp:=zmr hp g1
   have ss:=zhO g2
   have c3:=zaT hH hI p sp s ss
   have hrl:=sp.rte
   have hl3:=ss.2.2
   by_cases hst:zac p s=0∧0≤at'∧at'<s.locks.length
   ·obtain ⟨hst,ha1,ha2⟩:=hst
    obtain ⟨i,rfl⟩:∃ i:Nat,at'=i:=⟨at'.toNat,by omega⟩
    have hi:i<s.locks.length:=by omega
    rw[hst]at c3
    have ho:=zae hst
    have hpa:=(zab hst).2.1
    have hpl:=zag hpa
    have hir:i<p.routes.length:=by omega
    have hr:nth p.routes i∈p.routes:=zad hir
    have hwl:=zcB ho hr
    have hwp:=(zbg ((zaU (zab hst).1).2.1 _ hr)).1
    have hln:=zbI ho hr
    have c4:=ziV hH hI p sp s ss (nth s.locks i).id
    rw[zrp hst hi]at c4
    have c5:=zpq hH hI p sp (nth s.locks i).id
    rw[ofW_at hst hi]at c5
    dsimp only at c5
    have cI:=fun n=>is22_pc hH s (by have:=ss.1;omega) n
    have hlk:=zbR hpa hi
    simp only[zbs,Bool.and_eq_true,decide_eq_true_eq]at hlk
    have hg:=zg5 (by omega) hlk.2
    have hph:=zkw (zbR hpa hi)
    have hE:=zre hst (zak p (nth p.routes i)).1 (nth s.locks i)
    have hN:=near_sec hst hir
    have hS:cnC0 s (zak p (nth p.routes i)).1 (nth s.locks i)=0→(cnR p s (nth s.locks i).id).locks.length=s.locks.length∧nth (cnR p s (nth s.locks i).id).locks i=cnL s (zak p (nth p.routes i)).1 (nth p.routes i) (nth s.locks i) (nth s.locks i).id:=fun e=>by
     have e2:cnR p s (nth s.locks i).id=cnS p s (nth s.locks i).id:=by unfold cnR;rw[zrp hst hi,if_pos e]
     rw[e2]
     exact ⟨zrn _ _ _,cnS_at hst hi⟩
    generalize cnR p s (nth s.locks i).id=T at *
    obtain ⟨e,hee⟩:∃ e,cnC0 s (zak p (nth p.routes i)).1 (nth s.locks i)=e:=⟨_,rfl⟩
    rw[hee]at c4 hS
    unfold cnC0 at hee
    unfold cnL at hS
    rw[hE]at hee
    rw[hN]at hS
    generalize zbB s=q at *
    clear hst ho hpa hpl hr hE hN hlk
    generalize (zak p (nth p.routes i)).1=w at *
    obtain ⟨wp,wo,wa,wn⟩:=w
    dsimp only at hwp hwl c5 hee hS
    have hpl6:wp.length≤6:=by rw[hwp];exact hln.2.1
    rw[←hwp]at hg
    obtain ⟨g,hgg⟩:∃ g:Nat,(nth s.locks i).gone=g:=⟨(nth s.locks i).gone.toNat,by omega⟩
    rw[hgg,Int.toNat_natCast]at hee
    rw[hgg]at hg
    have hglt:g<wp.length:=by omega
    obtain ⟨E,hEE⟩:∃ E,((wp.drop g).all fun m=>decide (q m=0))=E:=⟨_,rfl⟩
    rw[hEE]at hee
    have hT:e=0→T.locks.length=s.locks.length:=fun h=>(hS h).1
    replace hS:e=0→_:=fun h=>(hS h).2
    clear hwp
    refine PC.fn hH cd359 fun w0 M Q hM hE hQ hR=>?_;dsimp only[cd359,qm,ql,qf,qi,qb,qc,qp,qv,qN,qT,qF,qt]at hQ ⊢
    (have hX:=@hgg;(repeat' first|refine zaa [0,1,2,3,4,6,7,8,9,10,11,12,13,14,15,43,79,86,97,101,102,109,118,142,144] fun K hK=>?_|(refine hK.go ?_;clear hK K)|with_reducible exact wT|refine wA ?_|(refine wB (fun h=>?_) (fun h=>?_)<;>first|exact wN h|subst (h:(_:Bool)=_)|skip)|(refine wQ ?_;clear hQ hR hE hM)|refine wC c0 ?_|refine wC c1 ?_|refine wC c2 ?_|refine wC c3 ?_|refine wC c4 ?_|refine wC c5 ?_|fail);all_goals clear hX)
    all_goals first|(exfalso;contradiction)|skip
    all_goals
     refine zap (ι:=Nat×Bool) [2,3,4,6,7,8,9,10,11,13,14] (fun z=>[(13,.b z.2),(14,.n ((g:Int)+(z.1:Int)))]) (fun _=>[]) (fun z=>z.1) ((wp.length-g)) (fun z=>((z.2&&((wp.drop (g+z.1)).all fun m=>decide (q m=0)))=E)) (0,true) ?_;rintro ⟨k,t⟩ ⟨hk,hgl⟩;(try dsimp only at hk hgl ⊢);rcases Nat.lt_or_ge k (wp.length-g) with hlt|hge
     ·have hkk:g+k<wp.length:=by omega
      rw[zaj hkk,List.all_cons]at hgl
      have d0:=zca hkk
      have d1:=cI (nth wp (g+k))
      have t0:((g:Int)+(k:Int)).toNat=g+k:=by omega
      cases t with
      |false =>
       (have hX:=zA @d0 @t0;(repeat' first|refine zaa [0,1,2,3,4,6,7,8,9,10,11,12,13,14,15,43,79,86,97,101,102,109,118,142,144] fun K hK=>?_|(refine hK.go ?_;clear hK K)|with_reducible exact wT|refine wA ?_|(refine wB (fun h=>?_) (fun h=>?_)<;>first|exact wN h|subst (h:(_:Bool)=_)|skip)|(refine wQ ?_;clear hQ hR hE hM)|fail);all_goals clear hX)
       all_goals first|(exfalso;contradiction)|exact ⟨(k+1,false),by dsimp only;omega,⟨by dsimp only;omega,by simpa using hgl⟩,rfl,by dsimp only;omega⟩|trace_state
      |true =>
       (have hX:=zA @d0 @t0;(repeat' first|refine zaa [0,1,2,3,4,6,7,8,9,10,11,12,13,14,15,43,79,86,97,101,102,109,118,142,144] fun K hK=>?_|(refine hK.go ?_;clear hK K)|with_reducible exact wT|refine wA ?_|(refine wB (fun h=>?_) (fun h=>?_)<;>first|exact wN h|subst (h:(_:Bool)=_)|skip)|(refine wQ ?_;clear hQ hR hE hM)|refine wC d1 ?_|fail);all_goals clear hX)
       all_goals first|(exfalso;contradiction)|exact ⟨(k+1,decide (q (nth wp (g+k))=0)),by dsimp only;omega,⟨by dsimp only;omega,(Bool.true_and _).symm.trans hgl⟩,rfl,by dsimp only;omega⟩|trace_state
     ·rw[List.drop_eq_nil_of_le (by omega),List.all_nil,Bool.and_true]at hgl
      subst hgl
      have d1:=cI wn
      by_cases p0:(nth s.locks i).phase=0
      ·rw[if_pos p0]at hee
       subst hee
       (repeat' first|refine zaa [0,1,2,3,4,6,7,8,9,10,11,12,13,14,15,43,79,86,97,101,102,109,118,142,144] fun K hK=>?_|(refine hK.go ?_;clear hK K)|with_reducible exact wT|refine wA ?_|(refine wB (fun h=>?_) (fun h=>?_)<;>first|exact wN h|subst (h:(_:Bool)=_)|skip)|(refine wQ ?_;clear hQ hR hE hM)|fail)
       all_goals first|rfl|(exfalso;contradiction)|(exfalso;omega)|trace_state
      ·rw[if_neg p0]at hee
       by_cases p1:(nth s.locks i).phase=1
       ·rw[if_pos p1]at hee
        subst hee
        have hl:=hS rfl
        by_cases hq:q wn=0
        ·rw[if_neg (by rw[decide_eq_true hq];simp)]at hl
         have k1:=congrArg Lock.id hl
         have k2:=congrArg Lock.phase hl
         have k3:=congrArg Lock.gone hl
         have k4:=congrArg Lock.left hl
         dsimp only at k1 k2 k3 k4
         (have hX:=zA @k1 (zA @k2 (zA @k3 @k4));(repeat' first|refine zaa [0,1,2,3,4,6,7,8,9,10,11,12,13,14,15,43,79,86,97,101,102,109,118,142,144] fun K hK=>?_|(refine hK.go ?_;clear hK K)|with_reducible exact wT|refine wA ?_|(refine wB (fun h=>?_) (fun h=>?_)<;>first|exact wN h|subst (h:(_:Bool)=_)|skip)|(refine wQ ?_;clear hQ hR hE hM)|refine wC d1 ?_|fail);all_goals clear hX)
         all_goals first|rfl|(exfalso;contradiction)|(exfalso;omega)|trace_state
        ·rw[if_pos ⟨p1,decide_eq_false hq⟩]at hl
         have k1:=congrArg Lock.id hl
         have k2:=congrArg Lock.phase hl
         have k3:=congrArg Lock.gone hl
         have k4:=congrArg Lock.left hl
         dsimp only at k1 k2 k3 k4
         (have hX:=zA @k1 (zA @k2 (zA @k3 @k4));(repeat' first|refine zaa [0,1,2,3,4,6,7,8,9,10,11,12,13,14,15,43,79,86,97,101,102,109,118,142,144] fun K hK=>?_|(refine hK.go ?_;clear hK K)|with_reducible exact wT|refine wA ?_|(refine wB (fun h=>?_) (fun h=>?_)<;>first|exact wN h|subst (h:(_:Bool)=_)|skip)|(refine wQ ?_;clear hQ hR hE hM)|refine wC d1 ?_|fail);all_goals clear hX)
         all_goals first|rfl|(exfalso;contradiction)|(exfalso;omega)|trace_state
       ·rw[if_neg p1]at hee
        cases t with
        |false =>
         rw[if_neg (by simp)]at hee
         subst hee
         (repeat' first|refine zaa [0,1,2,3,4,6,7,8,9,10,11,12,13,14,15,43,79,86,97,101,102,109,118,142,144] fun K hK=>?_|(refine hK.go ?_;clear hK K)|with_reducible exact wT|refine wA ?_|(refine wB (fun h=>?_) (fun h=>?_)<;>first|exact wN h|subst (h:(_:Bool)=_)|skip)|(refine wQ ?_;clear hQ hR hE hM)|fail)
         all_goals first|rfl|(exfalso;contradiction)|(exfalso;omega)|trace_state
        |true =>
         by_cases p2:(nth s.locks i).phase=2
         ·rw[if_pos ⟨p2,rfl⟩]at hee
          subst hee
          have hl:=hS rfl
          rw[if_neg (fun h=>p1 h.1)]at hl
          have k1:=congrArg Lock.id hl
          have k2:=congrArg Lock.phase hl
          have k3:=congrArg Lock.gone hl
          have k4:=congrArg Lock.left hl
          dsimp only at k1 k2 k3 k4
          (have hX:=zA @k1 (zA @k2 (zA @k3 @k4));(repeat' first|refine zaa [0,1,2,3,4,6,7,8,9,10,11,12,13,14,15,43,79,86,97,101,102,109,118,142,144] fun K hK=>?_|(refine hK.go ?_;clear hK K)|with_reducible exact wT|refine wA ?_|(refine wB (fun h=>?_) (fun h=>?_)<;>first|exact wN h|subst (h:(_:Bool)=_)|skip)|(refine wQ ?_;clear hQ hR hE hM)|fail);all_goals clear hX)
          all_goals first|rfl|(exfalso;contradiction)|(exfalso;omega)|trace_state
         ·rw[if_neg (fun h=>p2 h.1)]at hee
          subst hee
          (repeat' first|refine zaa [0,1,2,3,4,6,7,8,9,10,11,12,13,14,15,43,79,86,97,101,102,109,118,142,144] fun K hK=>?_|(refine hK.go ?_;clear hK K)|with_reducible exact wT|refine wA ?_|(refine wB (fun h=>?_) (fun h=>?_)<;>first|exact wN h|subst (h:(_:Bool)=_)|skip)|(refine wQ ?_;clear hQ hR hE hM)|fail)
          all_goals first|rfl|(exfalso;contradiction)|(exfalso;omega)|trace_state
   ·have key:¬zac p s=0∨at'<0∨(s.locks.length:Int)≤at':=by
     by_cases h1:zac p s=0
     ·right
      by_cases h2:at'<0
      ·exact .inl h2
      ·exact .inr (by omega)
     ·exact .inl h1
    clear hst
    generalize zac p s=e at *
    refine PC.fn hH cd359 fun w0 M Q hM hE hQ hR=>?_;dsimp only[cd359,qm,ql,qf,qi,qb,qc,qp,qv,qN,qT,qF,qt]at hQ ⊢
    (repeat' first|refine zaa [0,1,2,3,4,6,7,8,9,10,11,12,13,14,15,43,79,86,97,101,102,109,118,142,144] fun K hK=>?_|(refine hK.go ?_;clear hK K)|with_reducible exact wT|refine wA ?_|(refine wB (fun h=>?_) (fun h=>?_)<;>first|exact wN h|subst (h:(_:Bool)=_)|skip)|(refine wQ ?_;clear hQ hR hE hM)|refine wC c0 ?_|refine wC c1 ?_|refine wC c2 ?_|refine wC c3 ?_|fail)
    all_goals first|rfl|(exfalso;contradiction)|(exfalso;omega)|trace_state
end Go.Lev
namespace Go.Lev
open Go.Eng
end Go.Lev
namespace Go.Lev
open Go.Eng
section
variable {p:Pln} {s u:State} {a:ActD} (g:StepS p s a u)
include g
end
end Go.Lev
namespace Go.Lev
open Go.Eng
section
variable {r:Rte} {is:Int→Int} {id:Int} (h0:0<r.path.length) (ht:1≤r.timer)
include h0 ht
end
section
variable (p:Pln) (at' d:Nat)
end
section
variable {p:Pln} {at' d:Nat} {i:Nat} {t:State}
variable (hd:d=1∨d=2) (g:TrI p at' d i t) (hi:i<(nth p.routes at').path.length)
include g
include hd hi
end
section
variable {p:Pln} {at' d:Nat} {i:Nat} {t:State} (g:TrI p at' d i t)
include g
end
end Go.Lev
