/-
  A part of the engine that walks the functions' codes, and of the functions' contracts. Conditions: those that each theorem names.
-/
import Derived.Test.YtfccjknloajclaaGreatL5
import Derived.IntWalk
set_option linter.unusedSimpArgs false
set_option linter.unusedVariables false
set_option linter.unusedSectionVars false
namespace Go.Lev
open Go.Eng
set_option maxRecDepth 10000
set_option maxHeartbeats 4000000
variable {P:Program} {inv:Nat→Option Nat} {w0:World} {M:Nat→Prop}
def zmk (s:State) (n:Int):Bool:=s.locks.any fun x=>decide (n=x.id)&&(decide (1=x.phase)&&(decide (0=x.gone)&&decide (0=x.left)))
def zpd (s:State) (a:AskR):Bool:=s.switches.any fun x=>decide (x.id=a.pnt)&&decide (x.lie=a.lie)
def zhU (s:State) (n:Int) (w:WayR):Bool:=zmk s n&&(!(w.path.any fun m=>!frT s m)&&(!(w.over.any fun m=>!frT s m)&&!(w.asks.any fun a=>!zpd s a)))
section
variable (hH:HasAll P inv) (s:State) (hs:SmS s)
include hH hs
theorem pr236 (m:Int):PC P inv 236 ([.n m]++[.ip 3 [s.c] 0 0]) (·=.b (frT s m)):=by
 have c1:=zqO hH s.tracks ⟨m,0⟩ (by have:=hs.1;omega)
 rw[show (s.tracks.any fun x=>decide ((⟨m,0⟩:Track).id=x.id)&&decide ((⟨m,0⟩:Track).is=x.is))=frT s m from rfl]at c1
 refine PC.fn hH cd236 fun w0 M Q hM hE hQ hR=>?_;dsimp only[cd236,qm,ql,qf,qi,qb,qc,qp,qv,qN,qT,qF,qt]at hQ ⊢
 (repeat' first|refine zaa [0,1,3] fun K hK=>?_|(refine hK.go ?_;clear hK K)|with_reducible exact wT|refine wA ?_|(refine wB (fun h=>?_) (fun h=>?_)<;>first|exact wN h|subst (h:(_:Bool)=_)|skip)|(refine wQ ?_;clear hQ hR hE hM)|refine wC c1 ?_|fail)
theorem pr243 (m:Int):PC P inv 243 ([.n m]++[.ip 1 [[.fn 236 [.ip 3 [s.c] 0 0]]] 0 0]) (·=.b (!frT s m)):=by
 have c1:=pr236 hH s hs m
 refine PC.fn hH cd243 fun w0 M Q hM hE hQ hR=>?_;dsimp only[cd243,qm,ql,qf,qi,qb,qc,qp,qv,qN,qT,qF,qt]at hQ ⊢
 (repeat' first|refine zaa [0,1,3] fun K hK=>?_|(refine hK.go ?_;clear hK K)|with_reducible exact wT|refine wA ?_|(refine wB (fun h=>?_) (fun h=>?_)<;>first|exact wN h|subst (h:(_:Bool)=_)|skip)|(refine wQ ?_;clear hQ hR hE hM)|refine wC c1 ?_|fail)
theorem pr245 (m:Int):PC P inv 245 ([.n m]++[.ip 1 [[.fn 236 [.ip 3 [s.c] 0 0]]] 0 0]) (·=.b (!frT s m)):=by
 have c1:=pr236 hH s hs m
 refine PC.fn hH cd245 fun w0 M Q hM hE hQ hR=>?_;dsimp only[cd245,qm,ql,qf,qi,qb,qc,qp,qv,qN,qT,qF,qt]at hQ ⊢
 (repeat' first|refine zaa [0,1,3] fun K hK=>?_|(refine hK.go ?_;clear hK K)|with_reducible exact wT|refine wA ?_|(refine wB (fun h=>?_) (fun h=>?_)<;>first|exact wN h|subst (h:(_:Bool)=_)|skip)|(refine wQ ?_;clear hQ hR hE hM)|refine wC c1 ?_|fail)
omit hs in
theorem pr239 (a:AskR) (x:Switch):PC P inv 239 ([.agg x.c]++[.ip 3 [a.c] 0 0]) (·=.b (decide (x.id=a.pnt)&&decide (x.lie=a.lie))):=by
 refine PC.fn hH cd239 fun w0 M Q hM hE hQ hR=>?_;dsimp only[cd239,qm,ql,qf,qi,qb,qc,qp,qv,qN,qT,qF,qt]at hQ ⊢
 (repeat' first|refine zaa [0,1,2,3] fun K hK=>?_|(refine hK.go ?_;clear hK K)|with_reducible exact wT|refine wA ?_|(refine wB (fun h=>?_) (fun h=>?_)<;>first|exact wN h|subst (h:(_:Bool)=_)|skip)|(refine wQ ?_;clear hQ hR hE hM)|fail)
 all_goals (simp[*];done)
theorem pr237 (a:AskR):PC P inv 237 ([.agg a.c]++[.ip 3 [s.c] 0 0]) (·=.b (zpd s a)):=by
 have c1:=hasSwt hH s.switches (fun x _=>pr239 hH a x) (by have:=hs.2.1;omega)
 rw[show (s.switches.any fun x=>decide (x.id=a.pnt)&&decide (x.lie=a.lie))=zpd s a from rfl]at c1
 refine PC.fn hH cd237 fun w0 M Q hM hE hQ hR=>?_;dsimp only[cd237,qm,ql,qf,qi,qb,qc,qp,qv,qN,qT,qF,qt]at hQ ⊢
 (repeat' first|refine zaa [0,1,2,3] fun K hK=>?_|(refine hK.go ?_;clear hK K)|with_reducible exact wT|refine wA ?_|(refine wB (fun h=>?_) (fun h=>?_)<;>first|exact wN h|subst (h:(_:Bool)=_)|skip)|(refine wQ ?_;clear hQ hR hE hM)|refine wS c1 ?_|fail)
theorem pr248 (a:AskR):PC P inv 248 ([.agg a.c]++[.ip 1 [[.fn 237 [.ip 3 [s.c] 0 0]]] 0 0]) (·=.b (!zpd s a)):=by
 have c1:=pr237 hH s hs a
 refine PC.fn hH cd248 fun w0 M Q hM hE hQ hR=>?_;dsimp only[cd248,qm,ql,qf,qi,qb,qc,qp,qv,qN,qT,qF,qt]at hQ ⊢
 (repeat' first|refine zaa [0,1,2,3] fun K hK=>?_|(refine hK.go ?_;clear hK K)|with_reducible exact wT|refine wA ?_|(refine wB (fun h=>?_) (fun h=>?_)<;>first|exact wN h|subst (h:(_:Bool)=_)|skip)|(refine wQ ?_;clear hQ hR hE hM)|refine wC c1 ?_|fail)
theorem pr242 (w:WayR) (hw:w.path.length≤1000):PC P inv 242 [.ip 4 [w.c] 0 0,.ip 1 [[.fn 236 [.ip 3 [s.c] 0 0]]] 0 0] (·=.b (!(w.path.any fun m=>!frT s m))):=by
 have c1:=hasInt hH w.path (fun x _=>pr243 hH s hs x) (by omega)
 refine PC.fn hH cd242 fun w0 M Q hM hE hQ hR=>?_;dsimp only[cd242,qm,ql,qf,qi,qb,qc,qp,qv,qN,qT,qF,qt]at hQ ⊢
 (repeat' first|refine zaa [0,1,2] fun K hK=>?_|(refine hK.go ?_;clear hK K)|with_reducible exact wT|refine wA ?_|(refine wB (fun h=>?_) (fun h=>?_)<;>first|exact wN h|subst (h:(_:Bool)=_)|skip)|(refine wQ ?_;clear hQ hR hE hM)|refine wC c1 ?_|fail)
theorem pr244 (w:WayR) (hw:w.over.length≤1000):PC P inv 244 [.ip 4 [w.c] 0 0,.ip 1 [[.fn 236 [.ip 3 [s.c] 0 0]]] 0 0] (·=.b (!(w.over.any fun m=>!frT s m))):=by
 have c1:=hasInt hH w.over (fun x _=>pr245 hH s hs x) (by omega)
 refine PC.fn hH cd244 fun w0 M Q hM hE hQ hR=>?_;dsimp only[cd244,qm,ql,qf,qi,qb,qc,qp,qv,qN,qT,qF,qt]at hQ ⊢
 (repeat' first|refine zaa [0,1,2] fun K hK=>?_|(refine hK.go ?_;clear hK K)|with_reducible exact wT|refine wA ?_|(refine wB (fun h=>?_) (fun h=>?_)<;>first|exact wN h|subst (h:(_:Bool)=_)|skip)|(refine wQ ?_;clear hQ hR hE hM)|refine wC c1 ?_|fail)
theorem pr246 (w:WayR) (hw:w.asks.length≤1000):PC P inv 246 [.ip 4 [w.c] 0 0,.ip 1 [[.fn 237 [.ip 3 [s.c] 0 0]]] 0 0] (·=.b (!(w.asks.any fun a=>!zpd s a))):=by
 have c1:=hasAsk hH w.asks (fun x _=>pr248 hH s hs x) (by omega)
 refine PC.fn hH cd246 fun w0 M Q hM hE hQ hR=>?_;dsimp only[cd246,qm,ql,qf,qi,qb,qc,qp,qv,qN,qT,qF,qt]at hQ ⊢
 (repeat' first|refine zaa [0,1,2] fun K hK=>?_|(refine hK.go ?_;clear hK K)|with_reducible exact wT|refine wA ?_|(refine wB (fun h=>?_) (fun h=>?_)<;>first|exact wN h|subst (h:(_:Bool)=_)|skip)|(refine wQ ?_;clear hQ hR hE hM)|refine wC c1 ?_|fail)
theorem pr240 (n:Int):PC P inv 240 [.ip 3 [s.c] 0 0,.ip 1 [[.n n]] 0 0] (·=.b (zmk s n)):=by
 have c1:=has_lck hH s.locks ⟨n,1,0,0⟩ (by have:=hs.2.2;omega)
 rw[show (s.locks.any fun x=>decide ((⟨n,1,0,0⟩:Lock).id=x.id)&&(decide ((⟨n,1,0,0⟩:Lock).phase=x.phase)&&(decide ((⟨n,1,0,0⟩:Lock).gone=x.gone)&&decide ((⟨n,1,0,0⟩:Lock).left=x.left))))=zmk s n from rfl]at c1
 refine PC.fn hH cd240 fun w0 M Q hM hE hQ hR=>?_;dsimp only[cd240,qm,ql,qf,qi,qb,qc,qp,qv,qN,qT,qF,qt]at hQ ⊢
 (repeat' first|refine zaa [0,1,2] fun K hK=>?_|(refine hK.go ?_;clear hK K)|with_reducible exact wT|refine wA ?_|(refine wB (fun h=>?_) (fun h=>?_)<;>first|exact wN h|subst (h:(_:Bool)=_)|skip)|(refine wQ ?_;clear hQ hR hE hM)|refine wC c1 ?_|fail)
theorem zpY (n:Int) (w:WayR) (h1:w.path.length≤1000) (h2:w.over.length≤1000) (h3:w.asks.length≤1000):PC P inv 228 [.agg s.c,.n n,.agg w.c] (·=.b (zhU s n w)):=by
 have c1:=pr240 hH s hs n
 have c2:=pr242 hH s hs w h1
 have c3:=pr244 hH s hs w h2
 have c4:=pr246 hH s hs w h3
 unfold zhU
 generalize zmk s n=b1 at *
 generalize (w.path.any fun m=>!frT s m)=b2 at *
 generalize (w.over.any fun m=>!frT s m)=b3 at *
 generalize (w.asks.any fun a=>!zpd s a)=b4 at *
 refine PC.fn hH cd228 fun w0 M Q hM hE hQ hR=>?_;dsimp only[cd228,qm,ql,qf,qi,qb,qc,qp,qv,qN,qT,qF,qt]at hQ ⊢
 (repeat' first|refine zaa [0,1,2,3,4,5,6,7,8,10,17,18,19,20,25] fun K hK=>?_|(refine hK.go ?_;clear hK K)|with_reducible exact wT|refine wA ?_|(refine wB (fun h=>?_) (fun h=>?_)<;>first|exact wN h|subst (h:(_:Bool)=_)|skip)|(refine wQ ?_;clear hQ hR hE hM)|fail)
 refine zai (ι:=Nat) [6,17,18,19] (fun z=>[(19,.n z)]) (fun _=>[]) (fun z=>z) (4) (fun z=>((([b1,!b2,!b3,!b4]:List Bool).drop z).all id=(b1&&(!b2&&(!b3&&!b4))))) (0) ?_;rintro k ⟨hk,hg⟩;(try dsimp only at hk hg ⊢);rcases Nat.lt_or_ge k 4 with hlt|hge
 ·obtain rfl|rfl|rfl|rfl:k=0∨k=1∨k=2∨k=3:=by omega
  ·cases b1
   ·(repeat' first|refine zaa [0,1,2,3,4,5,6,7,8,10,17,18,19,20,25] fun K hK=>?_|(refine hK.go ?_;clear hK K)|with_reducible exact wT|refine wA ?_|(refine wB (fun h=>?_) (fun h=>?_)<;>first|exact wN h|subst (h:(_:Bool)=_)|skip)|(refine wQ ?_;clear hQ hR hE hM)|refine wS c1 ?_|fail)
    all_goals first|rfl|(exfalso;contradiction)
   ·(repeat' first|refine zaa [0,1,2,3,4,5,6,7,8,10,17,18,19,20,25] fun K hK=>?_|(refine hK.go ?_;clear hK K)|with_reducible exact wT|refine wA ?_|(refine wB (fun h=>?_) (fun h=>?_)<;>first|exact wN h|subst (h:(_:Bool)=_)|skip)|(refine wQ ?_;clear hQ hR hE hM)|refine wS c1 ?_|fail)
    all_goals first|exact ⟨1,by omega,⟨by omega,by simp⟩,rfl⟩|(exfalso;contradiction)
  ·cases b2
   ·(repeat' first|refine zaa [0,1,2,3,4,5,6,7,8,10,17,18,19,20,25] fun K hK=>?_|(refine hK.go ?_;clear hK K)|with_reducible exact wT|refine wA ?_|(refine wB (fun h=>?_) (fun h=>?_)<;>first|exact wN h|subst (h:(_:Bool)=_)|skip)|(refine wQ ?_;clear hQ hR hE hM)|refine wS c2 ?_|fail)
    all_goals first|exact ⟨2,by omega,⟨by omega,by simpa using hg⟩,rfl⟩|(exfalso;contradiction)
   ·(repeat' first|refine zaa [0,1,2,3,4,5,6,7,8,10,17,18,19,20,25] fun K hK=>?_|(refine hK.go ?_;clear hK K)|with_reducible exact wT|refine wA ?_|(refine wB (fun h=>?_) (fun h=>?_)<;>first|exact wN h|subst (h:(_:Bool)=_)|skip)|(refine wQ ?_;clear hQ hR hE hM)|refine wS c2 ?_|fail)
    all_goals first|(simpa using hg)|(exfalso;contradiction)
  ·cases b3
   ·(repeat' first|refine zaa [0,1,2,3,4,5,6,7,8,10,17,18,19,20,25] fun K hK=>?_|(refine hK.go ?_;clear hK K)|with_reducible exact wT|refine wA ?_|(refine wB (fun h=>?_) (fun h=>?_)<;>first|exact wN h|subst (h:(_:Bool)=_)|skip)|(refine wQ ?_;clear hQ hR hE hM)|refine wS c3 ?_|fail)
    all_goals first|exact ⟨3,by omega,⟨by omega,by simpa using hg⟩,rfl⟩|(exfalso;contradiction)
   ·(repeat' first|refine zaa [0,1,2,3,4,5,6,7,8,10,17,18,19,20,25] fun K hK=>?_|(refine hK.go ?_;clear hK K)|with_reducible exact wT|refine wA ?_|(refine wB (fun h=>?_) (fun h=>?_)<;>first|exact wN h|subst (h:(_:Bool)=_)|skip)|(refine wQ ?_;clear hQ hR hE hM)|refine wS c3 ?_|fail)
    all_goals first|(simpa using hg)|(exfalso;contradiction)
  ·cases b4
   ·(repeat' first|refine zaa [0,1,2,3,4,5,6,7,8,10,17,18,19,20,25] fun K hK=>?_|(refine hK.go ?_;clear hK K)|with_reducible exact wT|refine wA ?_|(refine wB (fun h=>?_) (fun h=>?_)<;>first|exact wN h|subst (h:(_:Bool)=_)|skip)|(refine wQ ?_;clear hQ hR hE hM)|refine wS c4 ?_|fail)
    all_goals first|exact ⟨4,by omega,⟨by omega,by simpa using hg⟩,rfl⟩|(exfalso;contradiction)
   ·(repeat' first|refine zaa [0,1,2,3,4,5,6,7,8,10,17,18,19,20,25] fun K hK=>?_|(refine hK.go ?_;clear hK K)|with_reducible exact wT|refine wA ?_|(refine wB (fun h=>?_) (fun h=>?_)<;>first|exact wN h|subst (h:(_:Bool)=_)|skip)|(refine wQ ?_;clear hQ hR hE hM)|refine wS c4 ?_|fail)
    all_goals first|(simpa using hg)|(exfalso;contradiction)
 ·obtain rfl:k=4:=by omega
  (repeat' first|refine zaa [0,1,2,3,4,5,6,7,8,10,17,18,19,20,25] fun K hK=>?_|(refine hK.go ?_;clear hK K)|with_reducible exact wT|refine wA ?_|(refine wB (fun h=>?_) (fun h=>?_)<;>first|exact wN h|subst (h:(_:Bool)=_)|skip)|(refine wQ ?_;clear hQ hR hE hM)|fail)
  all_goals first|exact hg|(simpa using hg)|trace_state
end
end Go.Lev
namespace Go.Lev
open Go.Eng
set_option maxRecDepth 10000
set_option maxHeartbeats 4000000
variable {P:Program} {inv:Nat→Option Nat} {w0:World} {M:Nat→Prop}
def zoY (b:Bool):List AV:=[.b b]
instance:Cells zoY 1:=⟨fun _=>rfl,fun _=>rfl⟩
theorem chunks_b (l:List Bool):zb6 1 l.length (l.map AV.b)=l.map zoY:=by
 induction l with
 |nil=>rfl
 |cons x l ih =>
  simp only[List.length_cons,List.map_cons,zb6,List.take_succ_cons,List.take_zero,List.drop_succ_cons,List.drop_zero,ih]
  rfl
attribute [go_sem] zoY chunks_b
def zaS (p:Pln) (s:State) (r:Rte):Bool:=zhU s r.id (zah p r).1
def zfi (p:Pln) (s:State):List Bool:=p.routes.map (zaS p s)
def zeg (p:Pln) (s:State):List Bool:=if zac p s=0 then zfi p s else []
theorem zfh (hH:HasAll P inv) (hI:HasIds P inv) (p:Pln) (hp:Sm p) (s:State) (hs:SmS s):PC P inv 213 [.agg p.c,.agg s.c] (·=.tup [.sl 1 ((zeg p s).map zoY),.n (zac p s)]):=by
 have c0:=of_pc hH hI p hp s hs
 have hRl:=zj3 p s
 have hRe:=zmu p s
 by_cases hst:zac p s=0
 ·have hok:=zap hst
  have hR:ofR p s=⟨(zaQ p s).1,(zaQ p s).2.1,zaV p,0⟩:=by unfold ofR;rw[if_pos hst]
  rw[hR]at c0 hRl
  dsimp only at c0 hRl
  rw[hst,show zeg p s=zfi p s by unfold zeg;rw[if_pos hst]]
  have hc:∀ k,k<p.routes.length→PC P inv 228 [.agg s.c,.n (nth p.routes k).id,.agg (nth (zaV p) k).c] (·=.b (zaS p s (nth p.routes k))):=fun k hk=>by
   have hl:=zbI hok (zab hk)
   rw[show nth (zaV p) k=(zah p (nth p.routes k)).1 from zlg _ hk]
   exact zpY hH s hs _ _ hl.2.2.1 hl.2.2.2 hl.1
  have hwlen:(zaV p).length=p.routes.length:=by simp[zaV]
  have hrl:=hp.rte
  obtain ⟨f,hf⟩:∃ f,f=zaS p s:=⟨_,rfl⟩
  rw[show zfi p s=p.routes.map f by rw[hf];rfl]
  rw[←hf]at hc
  clear hf hok hst hR hRe
  generalize zaV p=ws at *
  generalize zaQ p s=GR at *
  obtain ⟨H,A,B⟩:=GR
  dsimp only at *
  obtain ⟨G,Z,hg⟩:=GC.ex
  rw[←hg.eq]at c0
  have hfold:=hg.fold
  have hlen0:=hg.len (.s0 4) hg.zl hg.zl
  have hlen:=hg.len (.sl 4 (ws.map Way.c)) hRl.1 hRl.2
  have hov:=hg.ov (.s0 4) (.sl 4 (ws.map Way.c)) hg.zl hg.zl hRl.1 hRl.2
  have hbd0:=hg.bd0 Z Z
  have hbd:=hg.bd H A (ws.map Way.c)
  have hba:=hg.ba H A (ws.map Way.c)
  have hgw:=hg.get (.sl 4 (ws.map Way.c)) hRl.1 hRl.2
  clear hg
  refine PC.fn hH cd213 fun w0 M Q hM hE hQ hR=>?_;dsimp only[cd213,qm,ql,qf,qi,qb,qc,qp,qv,qN,qT,qF,qt]at hQ ⊢
  (have hX:=zA @hfold (zA @hlen0 (zA @hlen (zA @hov (zA @hbd0 (zA @hbd @hba)))));(repeat' first|refine zaa [0,1,2,3,4,5,6,7,8,16,19,20,21,22,37] fun K hK=>?_|(refine hK.go ?_;clear hK K)|with_reducible exact wT|refine wA ?_|(refine wB (fun h=>?_) (fun h=>?_)<;>first|exact wN h|subst (h:(_:Bool)=_)|skip)|(refine wQ ?_;clear hQ hR hE hM)|refine wC c0 ?_|fail);all_goals clear hX)
  all_goals first|(exfalso;contradiction)|skip
  refine AWp.empty 4 3 1 rfl (Nat.zero_le _) (by simp -dsimp -implicitDefEqProofs (disch:=omega) only[go_sem,reduceIte,↓reduceIte,Nat.reduceEqDiff,Nat.reduceLT,Nat.reduceLeDiff,Nat.reduceAdd,Nat.reduceSub,Nat.reduceMul,Int.reduceToNat,Int.reduceLT,Int.reduceLE,Int.reduceEq,Int.reduceNeg,Int.reduceNe,reduceCtorEq,hlen,hbd,hba]) (by simp -dsimp -implicitDefEqProofs (disch:=omega) only[go_sem,reduceIte,↓reduceIte,Nat.reduceEqDiff,Nat.reduceLT,Nat.reduceLeDiff,Nat.reduceAdd,Nat.reduceSub,Nat.reduceMul,Int.reduceToNat,Int.reduceLT,Int.reduceLE,Int.reduceEq,Int.reduceNeg,Int.reduceNe,reduceCtorEq,hlen,hbd,hba]) ?_
  simp -dsimp -implicitDefEqProofs (disch:=omega) only[go_sem,reduceIte,↓reduceIte,Nat.reduceEqDiff,Nat.reduceLT,Nat.reduceLeDiff,Nat.reduceAdd,Nat.reduceSub,Nat.reduceMul,Int.reduceToNat,Int.reduceLT,Int.reduceLE,Int.reduceEq,Int.reduceNeg,Int.reduceNe,reduceCtorEq,hlen,hbd,hba]
  refine zai (ι:=Nat×(List Bool)) [3,4,5,6,19,20,21] (fun z=>[(4,.sm 3 z.2.length 0 z.2.length 1),(21,.n z.1)]) (fun z=>[(3,.cells (z.2.map AV.b) (decide (0<z.2.length)))]) (fun z=>z.1) (p.routes.length) (fun z=>(z.2.length=z.1)∧(z.2++(p.routes.drop z.1).map f=p.routes.map f)) (0,([]:List Bool)) ?_;rintro ⟨k,bs⟩ ⟨hk,hl,hg⟩;(try dsimp only at hk hl hg ⊢);rcases Nat.lt_or_ge k p.routes.length with hlt|hge
  ·rw[zad hlt,List.map_cons]at hg
   have c1:=hc k hlt
   (have hX:=zA @hlen (zA @hbd (zA @hba @hgw));(repeat' first|refine zaa [0,1,2,3,4,5,6,7,8,16,19,20,21,22,37] fun K hK=>?_|(refine hK.go ?_;clear hK K)|with_reducible exact wT|refine wA ?_|(refine wB (fun h=>?_) (fun h=>?_)<;>first|exact wN h|subst (h:(_:Bool)=_)|skip)|(refine wQ ?_;clear hQ hR hE hM)|refine wC c1 ?_|fail);all_goals clear hX)
   refine ⟨(k+1,bs++[f (nth p.routes k)]),by dsimp only;omega,⟨by dsimp only;omega,by dsimp only;simp[hl],by dsimp only;rw[←hg];simp⟩,⟨by dsimp only;simp,by dsimp only;omega⟩,by dsimp only;simp⟩
  ·rw[List.drop_eq_nil_of_le hge,List.map_nil,List.append_nil]at hg
   (have hX:=zA @hlen (zA @hbd @hba);(repeat' first|refine zaa [0,1,2,3,4,5,6,7,8,16,19,20,21,22,37] fun K hK=>?_|(refine hK.go ?_;clear hK K)|with_reducible exact wT|refine wA ?_|(refine wB (fun h=>?_) (fun h=>?_)<;>first|exact wN h|subst (h:(_:Bool)=_)|skip)|(refine wQ ?_;clear hQ hR hE hM)|fail);all_goals clear hX)
   rw[hg]
 ·rw[show zeg p s=[] by unfold zeg;rw[if_neg hst]]
  rw[←hRe]at hst ⊢
  revert c0 hRl hst
  generalize ofR p s=R
  obtain ⟨G,Z,hg⟩:=GC.ex
  rw[←hg.eq]
  intro c0 hRl hst
  have hfold:=hg.fold
  have hlen0:=hg.len (.s0 4) hg.zl hg.zl
  have hlen:=hg.len (.sl 4 (R.ways.map Way.c)) hRl.1 hRl.2
  have hov:=hg.ov (.s0 4) (.sl 4 (R.ways.map Way.c)) hg.zl hg.zl hRl.1 hRl.2
  have hbd0:=hg.bd0 Z Z
  have hbd:=hg.bd R.hold R.ask (R.ways.map Way.c)
  have hba:=hg.ba R.hold R.ask (R.ways.map Way.c)
  refine PC.fn hH cd213 fun w0 M Q hM hE hQ hR=>?_;dsimp only[cd213,qm,ql,qf,qi,qb,qc,qp,qv,qN,qT,qF,qt]at hQ ⊢
  (have hX:=zA @hfold (zA @hlen0 (zA @hlen (zA @hov (zA @hbd0 (zA @hbd @hba)))));(repeat' first|refine zaa [0,1,2,3,4,5,6,7,8,16,19,20,21,22,37] fun K hK=>?_|(refine hK.go ?_;clear hK K)|with_reducible exact wT|refine wA ?_|(refine wB (fun h=>?_) (fun h=>?_)<;>first|exact wN h|subst (h:(_:Bool)=_)|skip)|(refine wQ ?_;clear hQ hR hE hM)|refine wC c0 ?_|fail);all_goals clear hX)
  all_goals first|rfl|(exfalso;contradiction)|skip
theorem is214_pc (hH:HasAll P inv) (n:Int) (x:Rte):PC P inv 214 ([.agg x.c]++[.ip 1 [[.n n]] 0 0]) (·=.b (decide (x.id=n))):=by
 refine PC.fn hH cd214 fun w0 M Q hM hE hQ hR=>?_;dsimp only[cd214,qm,ql,qf,qi,qb,qc,qp,qv,qN,qT,qF,qt]at hQ ⊢
 (repeat' first|refine zaa [0,1,2,3] fun K hK=>?_|(refine hK.go ?_;clear hK K)|with_reducible exact wT|refine wA ?_|(refine wB (fun h=>?_) (fun h=>?_)<;>first|exact wN h|subst (h:(_:Bool)=_)|skip)|(refine wQ ?_;clear hQ hR hE hM)|fail)
theorem is216_pc (hH:HasAll P inv) (n:Int) (x:Sgn):PC P inv 216 ([.agg x.c]++[.ip 1 [[.n n]] 0 0]) (·=.b (decide (x.id=n))):=by
 refine PC.fn hH cd216 fun w0 M Q hM hE hQ hR=>?_;dsimp only[cd216,qm,ql,qf,qi,qb,qc,qp,qv,qN,qT,qF,qt]at hQ ⊢
 (repeat' first|refine zaa [0,1,2,3] fun K hK=>?_|(refine hK.go ?_;clear hK K)|with_reducible exact wT|refine wA ?_|(refine wB (fun h=>?_) (fun h=>?_)<;>first|exact wN h|subst (h:(_:Bool)=_)|skip)|(refine wQ ?_;clear hQ hR hE hM)|fail)
def zoi (p:Pln) (n:Int):Int:=zaW (fun x=>decide (Rte.id x=n)) 0 p.routes
def ziS (p:Pln) (n:Int):Bool:=p.signals.any fun x=>decide (x.id=n)
def prR (p:Pln) (s:State) (n:Int):Bool:=if zoi p n<0 then false else zaS p s (nth p.routes (zoi p n).toNat)
def prC (p:Pln) (s:State) (n:Int):Int:=if zac p s=0 then (if zoi p n<0 then 6 else 0) else zac p s
def goB (p:Pln) (s:State) (n:Int):Bool:=p.routes.any fun r=>decide (r.entry=n)&&zaS p s r
def sgC (p:Pln) (s:State) (n:Int):Int:=if zac p s=0 then (if ziS p n=true then 0 else 6) else zac p s
theorem zbr (hH:HasAll P inv) (hI:HasIds P inv) (p:Pln) (hp:Sm p) (s:State) (hs:SmS s) (n:Int):PC P inv 198 [.agg p.c,.agg s.c,.n n] (·=.tup [.b (decide (prC p s n=0)&&prR p s n),.n (prC p s n)]):=by
 have c0:=zfh hH hI p hp s hs
 have c1:=zqM hH p.routes (fun x _=>is214_pc hH n x) (Nat.le_trans hp.rte (by omega))
 have hrl:=hp.rte
 unfold prC prR
 by_cases hst:zac p s=0
 ·rw[hst]at c0
  simp only[if_pos hst]
  rw[show zeg p s=zfi p s by unfold zeg;rw[if_pos hst]]at c0
  have hix:zoi p n=zaW (fun x=>decide (Rte.id x=n)) 0 p.routes:=rfl
  rcases zaP Rte.id n p.routes with ⟨h4,_⟩|⟨i,hi,h4,h5⟩
  ·rw[h4]at c1 hix
   rw[hix]
   generalize zfi p s=bs at *
   refine PC.fn hH cd198 fun w0 M Q hM hE hQ hR=>?_;dsimp only[cd198,qm,ql,qf,qi,qb,qc,qp,qv,qN,qT,qF,qt]at hQ ⊢
   (repeat' first|refine zaa [0,1,2,3,4,5,6,7,8,9,10,18,25] fun K hK=>?_|(refine hK.go ?_;clear hK K)|with_reducible exact wT|refine wA ?_|(refine wB (fun h=>?_) (fun h=>?_)<;>first|exact wN h|subst (h:(_:Bool)=_)|skip)|(refine wQ ?_;clear hQ hR hE hM)|refine wC c0 ?_|refine wS c1 ?_|fail)
   all_goals first|rfl|(exfalso;contradiction)|skip
  ·rw[h4]at c1 hix
   rw[hix,if_neg (show ¬((i:Nat):Int)<0 by omega),if_neg (show ¬((i:Nat):Int)<0 by omega),Int.toNat_natCast]
   have hl:(zfi p s).length=p.routes.length:=by simp[zfi]
   have hn:nth (zfi p s) i=zaS p s (nth p.routes i):=zlg _ hi
   rw[←hn]
   generalize zfi p s=bs at *
   refine PC.fn hH cd198 fun w0 M Q hM hE hQ hR=>?_;dsimp only[cd198,qm,ql,qf,qi,qb,qc,qp,qv,qN,qT,qF,qt]at hQ ⊢
   (repeat' first|refine zaa [0,1,2,3,4,5,6,7,8,9,10,18,25] fun K hK=>?_|(refine hK.go ?_;clear hK K)|with_reducible exact wT|refine wA ?_|(refine wB (fun h=>?_) (fun h=>?_)<;>first|exact wN h|subst (h:(_:Bool)=_)|skip)|(refine wQ ?_;clear hQ hR hE hM)|refine wC c0 ?_|refine wS c1 ?_|fail)
   all_goals first|rfl|(exfalso;contradiction)|(exfalso;omega)|simp
 ·simp only[if_neg hst]
  rw[show zeg p s=[] by unfold zeg;rw[if_neg hst]]at c0
  generalize zac p s=e at c0 hst ⊢
  refine PC.fn hH cd198 fun w0 M Q hM hE hQ hR=>?_;dsimp only[cd198,qm,ql,qf,qi,qb,qc,qp,qv,qN,qT,qF,qt]at hQ ⊢
  (repeat' first|refine zaa [0,1,2,3,4,5,6,7,8,9,10,18,25] fun K hK=>?_|(refine hK.go ?_;clear hK K)|with_reducible exact wT|refine wA ?_|(refine wB (fun h=>?_) (fun h=>?_)<;>first|exact wN h|subst (h:(_:Bool)=_)|skip)|(refine wQ ?_;clear hQ hR hE hM)|refine wC c0 ?_|fail)
  all_goals first|rfl|(exfalso;contradiction)|simp[hst]
theorem zcy (hH:HasAll P inv) (hI:HasIds P inv) (p:Pln) (hp:Sm p) (s:State) (hs:SmS s) (n:Int):PC P inv 199 [.agg p.c,.agg s.c,.n n] (·=.tup [.b (decide (sgC p s n=0)&&goB p s n),.n (sgC p s n)]):=by
 have c0:=zfh hH hI p hp s hs
 have c1:=hasSgn hH p.signals (fun x _=>is216_pc hH n x) (Nat.le_trans hp.sgn (by omega))
 rw[show (p.signals.any fun x=>decide (x.id=n))=ziS p n from rfl]at c1
 have hrl:=hp.rte
 unfold sgC
 by_cases hst:zac p s=0
 ·rw[hst]at c0
  simp only[if_pos hst]
  rw[show zeg p s=zfi p s by unfold zeg;rw[if_pos hst]]at c0
  cases ht:ziS p n with
  |false =>
   rw[ht]at c1
   generalize zfi p s=bs at *
   refine PC.fn hH cd199 fun w0 M Q hM hE hQ hR=>?_;dsimp only[cd199,qm,ql,qf,qi,qb,qc,qp,qv,qN,qT,qF,qt]at hQ ⊢
   (repeat' first|refine zaa [0,1,2,3,4,5,6,7,8,9,10,11,19,25,27,28,29,30,43] fun K hK=>?_|(refine hK.go ?_;clear hK K)|with_reducible exact wT|refine wA ?_|(refine wB (fun h=>?_) (fun h=>?_)<;>first|exact wN h|subst (h:(_:Bool)=_)|skip)|(refine wQ ?_;clear hQ hR hE hM)|refine wC c0 ?_|refine wS c1 ?_|fail)
   all_goals first|rfl|(exfalso;contradiction)|skip
  |true =>
   rw[ht]at c1
   have hl:(zfi p s).length=p.routes.length:=by simp[zfi]
   have hn:∀ i,i<p.routes.length→nth (zfi p s) i=zaS p s (nth p.routes i):=fun i hi=>zlg _ hi
   unfold goB
   generalize zfi p s=bs at *
   generalize zaS p s=f at *
   refine PC.fn hH cd199 fun w0 M Q hM hE hQ hR=>?_;dsimp only[cd199,qm,ql,qf,qi,qb,qc,qp,qv,qN,qT,qF,qt]at hQ ⊢
   (repeat' first|refine zaa [0,1,2,3,4,5,6,7,8,9,10,11,19,25,27,28,29,30,43] fun K hK=>?_|(refine hK.go ?_;clear hK K)|with_reducible exact wT|refine wA ?_|(refine wB (fun h=>?_) (fun h=>?_)<;>first|exact wN h|subst (h:(_:Bool)=_)|skip)|(refine wQ ?_;clear hQ hR hE hM)|refine wC c0 ?_|refine wS c1 ?_|fail)
   all_goals first|(exfalso;contradiction)|skip
   refine zai (ι:=Nat) [5,6,7,8,27,28,29] (fun z=>[(29,.n z)]) (fun _=>[]) (fun z=>z) (p.routes.length) (fun z=>(((p.routes.drop z).any fun r=>decide (r.entry=n)&&f r)=(p.routes.any fun r=>decide (r.entry=n)&&f r))) (0) ?_;rintro k ⟨hk,hg⟩;(try dsimp only at hk hg ⊢);rcases Nat.lt_or_ge k p.routes.length with hlt|hge
   ·rw[zad hlt,List.any_cons]at hg
    have hn:=hn k hlt
    by_cases h1:(nth p.routes k).entry=n
    ·have h2:decide ((nth p.routes k).entry=n)=true:=decide_eq_true h1
     rw[h2,Bool.true_and]at hg
     cases h3:f (nth p.routes k) with
     |true =>
      rw[h3]at hn hg
      (have hX:=zA @h2 @hn;(repeat' first|refine zaa [0,1,2,3,4,5,6,7,8,9,10,11,19,25,27,28,29,30,43] fun K hK=>?_|(refine hK.go ?_;clear hK K)|with_reducible exact wT|refine wA ?_|(refine wB (fun h=>?_) (fun h=>?_)<;>first|exact wN h|subst (h:(_:Bool)=_)|skip)|(refine wQ ?_;clear hQ hR hE hM)|fail);all_goals clear hX)
      all_goals first|(exfalso;contradiction)|(simpa using hg)
     |false =>
      rw[h3]at hn hg
      (have hX:=zA @h2 @hn;(repeat' first|refine zaa [0,1,2,3,4,5,6,7,8,9,10,11,19,25,27,28,29,30,43] fun K hK=>?_|(refine hK.go ?_;clear hK K)|with_reducible exact wT|refine wA ?_|(refine wB (fun h=>?_) (fun h=>?_)<;>first|exact wN h|subst (h:(_:Bool)=_)|skip)|(refine wQ ?_;clear hQ hR hE hM)|fail);all_goals clear hX)
      all_goals first|(exfalso;contradiction)|exact ⟨k+1,by omega,⟨by omega,by simpa using hg⟩,by omega⟩
    ·have h2:decide ((nth p.routes k).entry=n)=false:=decide_eq_false h1
     rw[h2,Bool.false_and,Bool.false_or]at hg
     (have hX:=@h2;(repeat' first|refine zaa [0,1,2,3,4,5,6,7,8,9,10,11,19,25,27,28,29,30,43] fun K hK=>?_|(refine hK.go ?_;clear hK K)|with_reducible exact wT|refine wA ?_|(refine wB (fun h=>?_) (fun h=>?_)<;>first|exact wN h|subst (h:(_:Bool)=_)|skip)|(refine wQ ?_;clear hQ hR hE hM)|fail);all_goals clear hX)
     all_goals first|(exfalso;contradiction)|exact ⟨k+1,by omega,⟨by omega,hg⟩,by omega⟩
   ·rw[List.drop_eq_nil_of_le hge,List.any_nil]at hg
    (repeat' first|refine zaa [0,1,2,3,4,5,6,7,8,9,10,11,19,25,27,28,29,30,43] fun K hK=>?_|(refine hK.go ?_;clear hK K)|with_reducible exact wT|refine wA ?_|(refine wB (fun h=>?_) (fun h=>?_)<;>first|exact wN h|subst (h:(_:Bool)=_)|skip)|(refine wQ ?_;clear hQ hR hE hM)|fail)
    all_goals first|(rw[←hg];rfl)|(simp[←hg])
 ·simp only[if_neg hst]
  rw[show zeg p s=[] by unfold zeg;rw[if_neg hst]]at c0
  generalize zac p s=e at c0 hst ⊢
  refine PC.fn hH cd199 fun w0 M Q hM hE hQ hR=>?_;dsimp only[cd199,qm,ql,qf,qi,qb,qc,qp,qv,qN,qT,qF,qt]at hQ ⊢
  (repeat' first|refine zaa [0,1,2,3,4,5,6,7,8,9,10,11,19,25,27,28,29,30,43] fun K hK=>?_|(refine hK.go ?_;clear hK K)|with_reducible exact wT|refine wA ?_|(refine wB (fun h=>?_) (fun h=>?_)<;>first|exact wN h|subst (h:(_:Bool)=_)|skip)|(refine wQ ?_;clear hQ hR hE hM)|refine wC c0 ?_|fail)
  all_goals first|rfl|(exfalso;contradiction)|simp[hst]
end Go.Lev
namespace Go.Lev
open Go.Eng
theorem znj {p:Pln} {s:State} (h:zac p s=0) {i:Nat} (hi:i<s.locks.length):zmk s (nth s.locks i).id=true↔(nth s.locks i).phase=1:=by
 unfold zmk
 rw[List.any_eq_true]
 constructor
 ·rintro ⟨x,hx,e⟩
  simp only[Bool.and_eq_true,decide_eq_true_eq]at e
  obtain ⟨j,hj,rfl⟩:=zbb hx
  obtain rfl:=zke h hi hj e.1
  exact e.2.1.symm
 ·intro e
  have h2:=zji (zae h).2.1 hi
  simp only[zcK,zb3,e,Bool.and_eq_true]at h2
  have h3:=h2.2
  simp at h3
  exact ⟨_,zab hi,by simp[e,h3.1,h3.2]⟩
structure Prvd (p:Pln) (s:State) (i:Nat):Prop where
 ph:(nth s.locks i).phase=1
 sec:∀ x∈zbj p i,zdx s x=0
 ask:∀ a∈za1 p i,∀ k,k<s.switches.length→(nth s.switches k).id=a.pnt→(nth s.switches k).lie=a.lie
theorem zmA {p:Pln} {s:State} (h:zac p s=0) {a:AskR} (ha:zh9 p a.pnt=true):zpd s a=true↔∀ k,k<s.switches.length→(nth s.switches k).id=a.pnt→(nth s.switches k).lie=a.lie:=by
 have ho:=zap h
 have hpa:=(zae h).2.1
 have hpl:=zan hpa
 obtain ⟨m,hm,em⟩:=znF ha
 have hms:m<s.switches.length:=by omega
 have hnd:(s.switches.map Switch.id).Nodup:=by rw[zcJ hpa];exact zcc ho
 have es:(nth s.switches m).id=a.pnt:=by rw[zjI hpa hms,em]
 unfold zpd
 rw[List.any_eq_true]
 constructor
 ·rintro ⟨x,hx,e⟩ k hk ek
  simp only[Bool.and_eq_true,decide_eq_true_eq]at e
  obtain ⟨j,hj,rfl⟩:=zbb hx
  obtain rfl:=zj4 Switch.id hnd hj hk (e.1.trans ek.symm)
  exact e.2
 ·intro e
  refine ⟨_,zab hms, ?_⟩
  simp only[Bool.and_eq_true,decide_eq_true_eq]
  exact ⟨es,e m hms es⟩
theorem rt_id {p:Pln} {s:State} (h:zaj p s=true) {i:Nat} (hi:i<s.locks.length):(nth p.routes i).id=(nth s.locks i).id:=by
 have hl2:=zji h hi
 simp only[zcK,Bool.and_eq_true,decide_eq_true_eq]at hl2
 exact hl2.1.symm
theorem zdQ {p:Pln} {s:State} (h:zac p s=0) {i:Nat} (hi:i<p.routes.length):zaS p s (nth p.routes i)=true↔Prvd p s i:=by
 have ho:=zap h
 have hpa:=(zae h).2.1
 have hpl:=zan hpa
 have hr:nth p.routes i∈p.routes:=zab hi
 unfold zaS zhU
 rw[rt_id hpa (by omega)]
 simp only[Bool.and_eq_true,Bool.not_eq_true',List.any_eq_false,Bool.not_eq_false]
 rw[znj h (by omega)]
 constructor
 ·rintro ⟨h1,h2,h3,h4⟩
  refine ⟨h1,fun x hx=>?_,fun a ha=>?_⟩
  ·have:frT s x=true:=by
    rcases List.mem_append.1 hx with h5|h5
    ·simpa using h2 x h5
    ·simpa using h3 x h5
   rw[zjp ho hpa,decide_eq_true_eq]at this
   exact this
  ·have:zpd s a=true:=by simpa using h4 a ha
   exact (zmA h (zh8 ho hr ha)).1 this
 ·rintro ⟨h1,h2,h3⟩
  have hf:∀ x∈zbj p i,frT s x=true:=fun x hx=>by rw[zjp ho hpa,decide_eq_true_eq];exact h2 x hx
  refine ⟨h1,fun x hx=>?_,fun x hx=>?_,fun a ha=>?_⟩
  ·simp[hf x (List.mem_append.2 (.inl hx))]
  ·simp[hf x (List.mem_append.2 (.inr hx))]
  ·simp[(zmA h (zh8 ho hr ha)).2 (h3 a ha)]
def pjF (s:State) (secs:List Int) (asks:List AskR) (b0:Bool):Bool :=
 zaB (fun i (t:Bool) za0=>zaB (fun k (t:Bool) next2=>next2 (t&&(!decide ((nth s.tracks k).id=nth secs i)||decide ((nth s.tracks k).is=0)))) (fun t=>za0 t) s.tracks.length 0 t)
  (fun t=>zaB (fun i (t:Bool) za0=>zaB (fun k (t:Bool) next2=>next2 (t&&(!decide ((nth s.switches k).id=(nth asks i).pnt)||decide ((nth s.switches k).lie=(nth asks i).lie)))) (fun t=>za0 t) s.switches.length 0 t)
   (fun t=>t) asks.length 0 t)
  secs.length 0 b0
end Go.Lev
namespace Go.Lev
open Go.Eng
section
variable {p:Pln} {s:State} {n m:Int} {i j:Nat} (h:MaySet p s n i)
include h
theorem MaySet.two (g:MaySet p (ziP s n (za1 p i)) m j):(∀ x∈zbj p i,x∉zbj p j)∧∀ a∈za1 p i,∀ b∈za1 p j,a.pnt=b.pnt→a.lie=b.lie:=by
 have hn:=zmB h.st h.lt
 rw[h.id]at hn
 refine ⟨fun x hx hx2=>?_,fun a ha b hb e=>?_⟩
 ·have h1:=h.holds hx
  rw[(g.sec x hx2).1]at h1
  omega
 ·rcases g.ask b hb with h1|h1
  ·rw[←e,h.callsIn ha]at h1
   exact h1
  ·have h2:=h.asks ha
   rw[e,h1.1]at h2
   have:=(zbi (zap h.st) h.rt ha).2.2
   omega
end
def othF (q r:List AskR):Bool :=
 zaB (fun i (t:Bool) za0=>zaB (fun k (t:Bool) next2=>next2 (t||decide ((nth q i).pnt=(nth r k).pnt)&&!decide ((nth q i).lie=(nth r k).lie))) (fun t=>za0 t) r.length 0 t) (fun t=>t) q.length 0 false
def shrs (a b:List Int):Bool:=a.any fun x=>b.any fun y=>decide (x=y)
end Go.Lev
namespace Go.Lev
open Go.Eng
set_option maxRecDepth 10000
set_option maxHeartbeats 4000000
variable {P:Program} {inv:Nat→Option Nat} {w0:World} {M:Nat→Prop}
structure Shw where
 sig:Int
 asp:Int
 deriving DecidableEq,Inhabited
def Shw.c (x:Shw):List AV:=[.n x.sig,.i .u8 x.asp]
instance:Cells Shw.c 2:=⟨fun _=>rfl,fun _=>rfl⟩
attribute [go_sem] Shw.c
def goX (p:Pln) (f:Rte→Bool) (n:Int):Int:=zaW (fun r=>decide (r.entry=n)&&f r) 0 p.routes
def ziD (p:Pln) (f:Rte→Bool) (n:Int):Int:=if goX p f n<0 then 0 else if (nth p.routes (goX p f n).toNat).exit≠0∧0≤goX p f (nth p.routes (goX p f n).toNat).exit then 2 else 1
theorem zqV (p:Pln) (f:Rte→Bool) (n:Int):(goX p f n=-1∧∀ r∈p.routes,(decide (r.entry=n)&&f r)=false)∨∃ i:Nat,i<p.routes.length∧goX p f n=(i:Int)∧(nth p.routes i).entry=n∧f (nth p.routes i)=true:=by
 rcases zbJ (fun r=>decide (r.entry=n)&&f r) p.routes 0 with ⟨h1,h2⟩|⟨i,h1,h2,h3⟩
 ·refine .inl ⟨h1,fun r hr=>?_⟩
  have:=List.find?_eq_none.1 h2 r hr
  simpa using this
 ·have:=List.find?_some h3
  simp only[Bool.and_eq_true,decide_eq_true_eq]at this
  exact .inr ⟨i,h1,by unfold goX;omega,this.1,this.2⟩
theorem zqU (hH:HasAll P inv) (p:Pln) (hp:p.routes.length≤1000000) (f:Rte→Bool) (n:Int):PC P inv 217 ([.n n]++[.ip 6 [p.c] 0 0,.ip 1 [[.sl 1 ((p.routes.map f).map zoY)]] 0 0]) (·=.n (goX p f n)):=by
 unfold goX
 have hl:(p.routes.map f).length=p.routes.length:=by simp
 have hn:∀ i,i<p.routes.length→nth (p.routes.map f) i=f (nth p.routes i):=fun i hi=>zlg _ hi
 generalize p.routes.map f=bs at *
 refine PC.fn hH cd217 fun w0 M Q hM hE hQ hR=>?_;dsimp only[cd217,qm,ql,qf,qi,qb,qc,qp,qv,qN,qT,qF,qt]at hQ ⊢
 (repeat' first|refine zaa [0,1,2,4,5,6,8,9,10,11,24] fun K hK=>?_|(refine hK.go ?_;clear hK K)|with_reducible exact wT|refine wA ?_|(refine wB (fun h=>?_) (fun h=>?_)<;>first|exact wN h|subst (h:(_:Bool)=_)|skip)|(refine wQ ?_;clear hQ hR hE hM)|fail)
 refine zai (ι:=Nat) [0,2,4,8,9,10] (fun z=>[(10,.n z)]) (fun _=>[]) (fun z=>z) (p.routes.length) (fun z=>(zaW (fun r=>decide (r.entry=n)&&f r) z (p.routes.drop z)=zaW (fun r=>decide (r.entry=n)&&f r) 0 p.routes)) (0) ?_;rintro k ⟨hk,hg⟩;(try dsimp only at hk hg ⊢);rcases Nat.lt_or_ge k p.routes.length with hlt|hge
 ·rw[zad hlt,zaW]at hg
  have hn:=hn k hlt
  by_cases h1:(nth p.routes k).entry=n
  ·have h2:decide ((nth p.routes k).entry=n)=true:=decide_eq_true h1
   rw[h2,Bool.true_and]at hg
   cases h3:f (nth p.routes k) with
   |true =>
    rw[h3]at hn hg
    rw[if_pos rfl]at hg
    (have hX:=zA @h2 @hn;(repeat' first|refine zaa [0,1,2,4,5,6,8,9,10,11,24] fun K hK=>?_|(refine hK.go ?_;clear hK K)|with_reducible exact wT|refine wA ?_|(refine wB (fun h=>?_) (fun h=>?_)<;>first|exact wN h|subst (h:(_:Bool)=_)|skip)|(refine wQ ?_;clear hQ hR hE hM)|fail);all_goals clear hX)
    all_goals first|(exfalso;contradiction)|exact hg
   |false =>
    rw[h3]at hn hg
    rw[if_neg (by simp)]at hg
    (have hX:=zA @h2 @hn;(repeat' first|refine zaa [0,1,2,4,5,6,8,9,10,11,24] fun K hK=>?_|(refine hK.go ?_;clear hK K)|with_reducible exact wT|refine wA ?_|(refine wB (fun h=>?_) (fun h=>?_)<;>first|exact wN h|subst (h:(_:Bool)=_)|skip)|(refine wQ ?_;clear hQ hR hE hM)|fail);all_goals clear hX)
    all_goals first|(exfalso;contradiction)|exact ⟨k+1,by omega,⟨by omega,hg⟩,by omega⟩
  ·have h2:decide ((nth p.routes k).entry=n)=false:=decide_eq_false h1
   rw[h2,Bool.false_and,if_neg (by simp)]at hg
   (have hX:=@h2;(repeat' first|refine zaa [0,1,2,4,5,6,8,9,10,11,24] fun K hK=>?_|(refine hK.go ?_;clear hK K)|with_reducible exact wT|refine wA ?_|(refine wB (fun h=>?_) (fun h=>?_)<;>first|exact wN h|subst (h:(_:Bool)=_)|skip)|(refine wQ ?_;clear hQ hR hE hM)|fail);all_goals clear hX)
   all_goals first|(exfalso;contradiction)|exact ⟨k+1,by omega,⟨by omega,hg⟩,by omega⟩
 ·rw[List.drop_eq_nil_of_le hge,zaW]at hg
  (repeat' first|refine zaa [0,1,2,4,5,6,8,9,10,11,24] fun K hK=>?_|(refine hK.go ?_;clear hK K)|with_reducible exact wT|refine wA ?_|(refine wB (fun h=>?_) (fun h=>?_)<;>first|exact wN h|subst (h:(_:Bool)=_)|skip)|(refine wQ ?_;clear hQ hR hE hM)|fail)
  all_goals first|exact hg|(rw[←hg];rfl)
theorem asp_pc (hH:HasAll P inv) (p:Pln) (hp:p.routes.length≤1000000) (f:Rte→Bool) (n:Int):PC P inv 218 ([.n n]++[.ip 1 [[.fn 217 [.ip 6 [p.c] 0 0,.ip 1 [[.sl 1 ((p.routes.map f).map zoY)]] 0 0]]] 0 0,.ip 6 [p.c] 0 0]) (·=.i .u8 (ziD p f n)):=by
 have c1:=zqU hH p hp f n
 unfold ziD
 rcases zqV p f n with ⟨h1,_⟩|⟨i,hi,h1,_⟩
 ·rw[h1]at c1 ⊢
  generalize p.routes.map f=bs at *
  refine PC.fn hH cd218 fun w0 M Q hM hE hQ hR=>?_;dsimp only[cd218,qm,ql,qf,qi,qb,qc,qp,qv,qN,qT,qF,qt]at hQ ⊢
  (repeat' first|refine zaa [0,1,2,4,5,6,11,25] fun K hK=>?_|(refine hK.go ?_;clear hK K)|with_reducible exact wT|refine wA ?_|(refine wB (fun h=>?_) (fun h=>?_)<;>first|exact wN h|subst (h:(_:Bool)=_)|skip)|(refine wQ ?_;clear hQ hR hE hM)|refine wC c1 ?_|fail)
  all_goals first|rfl|(exfalso;contradiction)
 ·have c2:=zqU hH p hp f (nth p.routes i).exit
  rw[h1]at c1 ⊢
  rw[if_neg (by omega),Int.toNat_natCast]
  by_cases h0:(nth p.routes i).exit=0
  ·rw[if_neg (fun h=>h.1 h0)]
   generalize p.routes.map f=bs at *
   refine PC.fn hH cd218 fun w0 M Q hM hE hQ hR=>?_;dsimp only[cd218,qm,ql,qf,qi,qb,qc,qp,qv,qN,qT,qF,qt]at hQ ⊢
   (repeat' first|refine zaa [0,1,2,4,5,6,11,25] fun K hK=>?_|(refine hK.go ?_;clear hK K)|with_reducible exact wT|refine wA ?_|(refine wB (fun h=>?_) (fun h=>?_)<;>first|exact wN h|subst (h:(_:Bool)=_)|skip)|(refine wQ ?_;clear hQ hR hE hM)|refine wC c1 ?_|fail)
   all_goals first|rfl|(exfalso;contradiction)|(exfalso;omega)
  ·by_cases h2:0≤goX p f (nth p.routes i).exit
   ·rw[if_pos ⟨h0,h2⟩]
    generalize goX p f (nth p.routes i).exit=g at *
    generalize p.routes.map f=bs at *
    refine PC.fn hH cd218 fun w0 M Q hM hE hQ hR=>?_;dsimp only[cd218,qm,ql,qf,qi,qb,qc,qp,qv,qN,qT,qF,qt]at hQ ⊢
    (repeat' first|refine zaa [0,1,2,4,5,6,11,25] fun K hK=>?_|(refine hK.go ?_;clear hK K)|with_reducible exact wT|refine wA ?_|(refine wB (fun h=>?_) (fun h=>?_)<;>first|exact wN h|subst (h:(_:Bool)=_)|skip)|(refine wQ ?_;clear hQ hR hE hM)|refine wC c1 ?_|refine wC c2 ?_|fail)
    all_goals first|rfl|(exfalso;contradiction)|(exfalso;omega)
   ·rw[if_neg (fun h=>h2 h.2)]
    generalize goX p f (nth p.routes i).exit=g at *
    generalize p.routes.map f=bs at *
    refine PC.fn hH cd218 fun w0 M Q hM hE hQ hR=>?_;dsimp only[cd218,qm,ql,qf,qi,qb,qc,qp,qv,qN,qT,qF,qt]at hQ ⊢
    (repeat' first|refine zaa [0,1,2,4,5,6,11,25] fun K hK=>?_|(refine hK.go ?_;clear hK K)|with_reducible exact wT|refine wA ?_|(refine wB (fun h=>?_) (fun h=>?_)<;>first|exact wN h|subst (h:(_:Bool)=_)|skip)|(refine wQ ?_;clear hQ hR hE hM)|refine wC c1 ?_|refine wC c2 ?_|fail)
    all_goals first|rfl|(exfalso;contradiction)|(exfalso;omega)
def shwL (p:Pln) (s:State):List Shw:=p.signals.map fun x=>⟨x.id,ziD p (zaS p s) x.id⟩
def zdj (p:Pln) (s:State):List Shw:=if zac p s=0 then shwL p s else []
theorem zdK (hH:HasAll P inv) (hI:HasIds P inv) (p:Pln) (hp:Sm p) (s:State) (hs:SmS s):PC P inv 202 [.agg p.c,.agg s.c] (·=.tup [.sl 2 ((zdj p s).map Shw.c),.n (zac p s)]):=by
 have c0:=zfh hH hI p hp s hs
 unfold zdj
 by_cases hst:zac p s=0
 ·rw[hst]at c0 ⊢
  rw[if_pos rfl,show shwL p s=p.signals.map fun x=>(⟨x.id,ziD p (zaS p s) x.id⟩:Shw) from rfl]
  rw[show zeg p s=p.routes.map (zaS p s) by unfold zeg;rw[if_pos hst];rfl]at c0
  generalize zaS p s=f at *
  have hsl:=hp.sgn
  have c1:=fun n=>asp_pc hH p hp.rte f n
  generalize ziD p f=q at *
  generalize p.routes.map f=bs at *
  refine PC.fn hH cd202 fun w0 M Q hM hE hQ hR=>?_;dsimp only[cd202,qm,ql,qf,qi,qb,qc,qp,qv,qN,qT,qF,qt]at hQ ⊢
  (repeat' first|refine zaa [0,1,2,3,4,5,6,7,8,10,18,23,24,25,26,38] fun K hK=>?_|(refine hK.go ?_;clear hK K)|with_reducible exact wT|refine wA ?_|(refine wB (fun h=>?_) (fun h=>?_)<;>first|exact wN h|subst (h:(_:Bool)=_)|skip)|(refine wQ ?_;clear hQ hR hE hM)|refine wC c0 ?_|fail)
  all_goals first|(exfalso;contradiction)|skip
  refine AWp.empty 4 5 2 rfl (Nat.zero_le _) (by (refine no_implicit_lambda% (st ?_);try with_reducible exact wT)) (by (refine no_implicit_lambda% (st ?_);try with_reducible exact wT)) ?_
  (refine no_implicit_lambda% (st ?_);try with_reducible exact wT)
  refine zai (ι:=Nat×(List Shw)) [4,5,8,23,24,25] (fun z=>[(4,.sm 5 (z.2.length*2) 0 z.2.length 2),(25,.n z.1)]) (fun z=>[(5,.cells (z.2.map Shw.c).flatten (decide (0<z.2.length)))]) (fun z=>z.1) (p.signals.length) (fun z=>(z.2.length=z.1)∧(z.2++(p.signals.drop z.1).map (fun x=>(⟨x.id,q x.id⟩:Shw))=p.signals.map (fun x=>(⟨x.id,q x.id⟩:Shw)))) (0,([]:List Shw)) ?_;rintro ⟨k,xs⟩ ⟨hk,hl,hg⟩;(try dsimp only at hk hl hg ⊢);rcases Nat.lt_or_ge k p.signals.length with hlt|hge
  ·rw[zad hlt,List.map_cons]at hg
   have c2:=c1 (nth p.signals k).id
   (repeat' first|refine zaa [0,1,2,3,4,5,6,7,8,10,18,23,24,25,26,38] fun K hK=>?_|(refine hK.go ?_;clear hK K)|with_reducible exact wT|refine wA ?_|(refine wB (fun h=>?_) (fun h=>?_)<;>first|exact wN h|subst (h:(_:Bool)=_)|skip)|(refine wQ ?_;clear hQ hR hE hM)|refine wS c2 ?_|fail)
   refine ⟨(k+1,xs++[⟨(nth p.signals k).id,q (nth p.signals k).id⟩]),by dsimp only;omega,⟨by dsimp only;omega,by dsimp only;simp[hl],by dsimp only;rw[←hg];simp⟩,⟨by dsimp only;simp,by dsimp only;omega⟩,by dsimp only;simp[Shw.c]⟩
  ·rw[List.drop_eq_nil_of_le hge,List.map_nil,List.append_nil]at hg
   (repeat' first|refine zaa [0,1,2,3,4,5,6,7,8,10,18,23,24,25,26,38] fun K hK=>?_|(refine hK.go ?_;clear hK K)|with_reducible exact wT|refine wA ?_|(refine wB (fun h=>?_) (fun h=>?_)<;>first|exact wN h|subst (h:(_:Bool)=_)|skip)|(refine wQ ?_;clear hQ hR hE hM)|fail)
   rw[hg]
 ·rw[if_neg hst]
  rw[show zeg p s=[] by unfold zeg;rw[if_neg hst]]at c0
  generalize zac p s=e at c0 hst ⊢
  refine PC.fn hH cd202 fun w0 M Q hM hE hQ hR=>?_;dsimp only[cd202,qm,ql,qf,qi,qb,qc,qp,qv,qN,qT,qF,qt]at hQ ⊢
  (repeat' first|refine zaa [0,1,2,3,4,5,6,7,8,10,18,23,24,25,26,38] fun K hK=>?_|(refine hK.go ?_;clear hK K)|with_reducible exact wT|refine wA ?_|(refine wB (fun h=>?_) (fun h=>?_)<;>first|exact wN h|subst (h:(_:Bool)=_)|skip)|(refine wQ ?_;clear hQ hR hE hM)|refine wC c0 ?_|fail)
  all_goals first|rfl|(exfalso;contradiction)|simp[hst]
def zlN (s:State):List Flk:=(s.switches.filter fun x=>!decide (x.call=0)).map fun x=>⟨x.id,x.call⟩
def zd0 (p:Pln) (s:State):List Flk:=if zac p s=0 then zlN s else []
theorem zkx (hH:HasAll P inv) (hI:HasIds P inv) (p:Pln) (hp:Sm p) (s:State) (hs:SmS s):PC P inv 204 [.agg p.c,.agg s.c] (·=.tup [.sl 2 ((zd0 p s).map Flk.c),.n (zac p s)]):=by
 have c0:=zbR hH hI p hp s hs
 unfold zd0
 by_cases hst:zac p s=0
 ·rw[hst]at c0 ⊢
  rw[if_pos rfl,show zlN s=(s.switches.filter fun x=>!decide (x.call=0)).map fun x=>(⟨x.id,x.call⟩:Flk) from rfl]
  have hl2:=hs.2.1
  refine PC.fn hH cd204 fun w0 M Q hM hE hQ hR=>?_;dsimp only[cd204,qm,ql,qf,qi,qb,qc,qp,qv,qN,qT,qF,qt]at hQ ⊢
  (repeat' first|refine zaa [0,1,2,3,4,5,6,8,13,16,17,18,19,24] fun K hK=>?_|(refine hK.go ?_;clear hK K)|with_reducible exact wT|refine wA ?_|(refine wB (fun h=>?_) (fun h=>?_)<;>first|exact wN h|subst (h:(_:Bool)=_)|skip)|(refine wQ ?_;clear hQ hR hE hM)|refine wC c0 ?_|fail)
  all_goals first|(exfalso;contradiction)|skip
  refine AWp.empty 4 2 2 rfl (Nat.zero_le _) (by (refine no_implicit_lambda% (st ?_);try with_reducible exact wT)) (by (refine no_implicit_lambda% (st ?_);try with_reducible exact wT)) ?_
  (refine no_implicit_lambda% (st ?_);try with_reducible exact wT)
  refine zai (ι:=Nat×(List Flk)) [4,5,16,17,18] (fun z=>[(4,.sm 2 (z.2.length*2) 0 z.2.length 2),(18,.n z.1)]) (fun z=>[(2,.cells (z.2.map Flk.c).flatten (decide (0<z.2.length)))]) (fun z=>z.1) (s.switches.length) (fun z=>(z.2.length≤z.1)∧(z.2++((s.switches.drop z.1).filter fun x=>!decide (x.call=0)).map (fun x=>(⟨x.id,x.call⟩:Flk))=(s.switches.filter fun x=>!decide (x.call=0)).map (fun x=>(⟨x.id,x.call⟩:Flk)))) (0,([]:List Flk)) ?_;rintro ⟨k,xs⟩ ⟨hk,hl,hg⟩;(try dsimp only at hk hl hg ⊢);rcases Nat.lt_or_ge k s.switches.length with hlt|hge
  ·rw[zad hlt]at hg
   by_cases h1:(nth s.switches k).call=0
   ·rw[List.filter_cons_of_neg (by simp[h1])]at hg
    have h2:decide ((nth s.switches k).call=0)=true:=decide_eq_true h1
    (have hX:=@h2;(repeat' first|refine zaa [0,1,2,3,4,5,6,8,13,16,17,18,19,24] fun K hK=>?_|(refine hK.go ?_;clear hK K)|with_reducible exact wT|refine wA ?_|(refine wB (fun h=>?_) (fun h=>?_)<;>first|exact wN h|subst (h:(_:Bool)=_)|skip)|(refine wQ ?_;clear hQ hR hE hM)|fail);all_goals clear hX)
    all_goals first|(exfalso;contradiction)|(refine ⟨(k+1,xs),by dsimp only;omega,⟨by dsimp only;omega,by dsimp only;omega,hg⟩,⟨by dsimp only,by dsimp only;omega⟩,by dsimp only⟩)
   ·rw[List.filter_cons_of_pos (by simp[h1]),List.map_cons]at hg
    have h2:decide ((nth s.switches k).call=0)=false:=decide_eq_false h1
    (have hX:=@h2;(repeat' first|refine zaa [0,1,2,3,4,5,6,8,13,16,17,18,19,24] fun K hK=>?_|(refine hK.go ?_;clear hK K)|with_reducible exact wT|refine wA ?_|(refine wB (fun h=>?_) (fun h=>?_)<;>first|exact wN h|subst (h:(_:Bool)=_)|skip)|(refine wQ ?_;clear hQ hR hE hM)|fail);all_goals clear hX)
    all_goals first|(exfalso;contradiction)|(refine ⟨(k+1,xs++[⟨(nth s.switches k).id,(nth s.switches k).call⟩]),by dsimp only;omega,⟨by dsimp only;omega,by dsimp only;simp;omega,by dsimp only;rw[←hg];simp⟩,⟨by dsimp only;simp,by dsimp only;omega⟩,by dsimp only;simp[Flk.c]⟩)
  ·rw[List.drop_eq_nil_of_le hge,List.filter_nil,List.map_nil,List.append_nil]at hg
   (repeat' first|refine zaa [0,1,2,3,4,5,6,8,13,16,17,18,19,24] fun K hK=>?_|(refine hK.go ?_;clear hK K)|with_reducible exact wT|refine wA ?_|(refine wB (fun h=>?_) (fun h=>?_)<;>first|exact wN h|subst (h:(_:Bool)=_)|skip)|(refine wQ ?_;clear hQ hR hE hM)|fail)
   rw[hg]
 ·rw[if_neg hst]
  generalize zac p s=e at c0 hst ⊢
  refine PC.fn hH cd204 fun w0 M Q hM hE hQ hR=>?_;dsimp only[cd204,qm,ql,qf,qi,qb,qc,qp,qv,qN,qT,qF,qt]at hQ ⊢
  (repeat' first|refine zaa [0,1,2,3,4,5,6,8,13,16,17,18,19,24] fun K hK=>?_|(refine hK.go ?_;clear hK K)|with_reducible exact wT|refine wA ?_|(refine wB (fun h=>?_) (fun h=>?_)<;>first|exact wN h|subst (h:(_:Bool)=_)|skip)|(refine wQ ?_;clear hQ hR hE hM)|refine wC c0 ?_|fail)
  all_goals first|rfl|(exfalso;contradiction)|simp[hst]
end Go.Lev
namespace Go.Lev
open Go.Eng
def inOf (p:Pln) (n:Int):Join:=zjl (sig p n) ⟨0,0⟩ p.sections
theorem Prvd.hd {p:Pln} {s:State} {i:Nat} (h:zac p s=0) (hi:i<p.routes.length) (g:Prvd p s i):zdy p s i=zbj p i:=by
 have hpa:=(zae h).2.1
 have hl:=zji hpa (show i<s.locks.length by have:=zan hpa;omega)
 simp only[zcK,zb3,g.ph,Bool.and_eq_true]at hl
 have h3:=hl.2
 simp at h3
 unfold zdy zbk zbj
 rw[g.ph,h3.1,if_neg (by decide)]
 rfl
theorem goX_iff (p:Pln) (f:Rte→Bool) (n:Int):0≤goX p f n↔∃ i,i<p.routes.length∧(nth p.routes i).entry=n∧f (nth p.routes i)=true:=by
 have h:=znL (fun r=>decide (Rte.entry r=n)&&f r) p.routes
 unfold goX
 rw[Bool.eq_iff_iff,decide_eq_true_eq,List.any_eq_true]at h
 rw[h]
 constructor
 ·rintro ⟨r,hr,e⟩
  obtain ⟨i,hi,rfl⟩:=zbb hr
  simp only[Bool.and_eq_true,decide_eq_true_eq]at e
  exact ⟨i,hi,e⟩
 ·rintro ⟨i,hi,e⟩
  exact ⟨_,zab hi,by simpa using e⟩
theorem zif (p:Pln) (s:State) (n:Int):goB p s n=true↔∃ i,i<p.routes.length∧(nth p.routes i).entry=n∧zaS p s (nth p.routes i)=true:=by
 unfold goB
 rw[List.any_eq_true]
 constructor
 ·rintro ⟨r,hr,e⟩
  obtain ⟨i,hi,rfl⟩:=zbb hr
  simp only[Bool.and_eq_true,decide_eq_true_eq]at e
  exact ⟨i,hi,e⟩
 ·rintro ⟨i,hi,e⟩
  exact ⟨_,zab hi,by simpa using e⟩
theorem zmK (p:Pln) (s:State) (n:Int):0≤goX p (zaS p s) n↔goB p s n=true:=by rw[goX_iff,zif]
theorem goX_sp (p:Pln) (f:Rte→Bool) (n:Int):goX p f n=-1∨∃ i:Nat,i<p.routes.length∧goX p f n=(i:Int)∧(nth p.routes i).entry=n∧f (nth p.routes i)=true:=by
 unfold goX
 rcases zbJ (fun r=>decide (Rte.entry r=n)&&f r) p.routes 0 with ⟨h1,_⟩|⟨i,hi,h1,h2⟩
 ·exact .inl h1
 ·have:=List.find?_some h2
  simp only[Bool.and_eq_true,decide_eq_true_eq]at this
  exact .inr ⟨i,hi,by omega,this⟩
end Go.Lev
namespace Go.Lev
open Go.Eng
set_option maxRecDepth 10000
set_option maxHeartbeats 4000000
variable {P:Program} {inv:Nat→Option Nat} {w0:World} {M:Nat→Prop}
def planA:Pln:=⟨1,0,[⟨1,0,[⟨0,0⟩,⟨2,0⟩]⟩,⟨2,0,[⟨1,1⟩,⟨0,0⟩]⟩],[],[⟨1,1,1⟩],[⟨1,1,0,[2],[],[],3⟩]⟩
def stA:State:=⟨[⟨1,2⟩,⟨2,2⟩],[],[⟨1,0,0,0⟩]⟩
end Go.Lev
namespace Go.Lev
open Go.Eng
theorem of_ar {n:Nat} {e:Sh} {d:D} (h:Sh.ok (.ar n e) d):∃ l,d=.l l∧l.length=n∧∀ x∈l,Sh.ok e x:=by
 cases d with
 |l l=>exact ⟨l,rfl,by simpa only[Sh.ok] using h⟩
 |t _=>exact h.elim
 |n _=>exact h.elim
theorem arg_arr2 {d:D} (h:Sh.ok (.ar 2 (.i .i64)) d):∃ a b:Int,Sh.arg (.ar 2 (.i .i64)) d=.agg [.n a,.n b]:=by
 obtain ⟨l,rfl,hl,h⟩:=of_ar h
 match l,hl,h with
 |[x,y],_,h =>
  obtain ⟨a,rfl,_⟩:=zbv (h x (by simp))
  obtain ⟨b,rfl,_⟩:=zbv (h y (by simp))
  exact ⟨a,b,rfl⟩
theorem arg_bool {d:D} (h:Sh.ok .b d):∃ t,Sh.arg .b d=.b t:=by
 cases d with
 |t t=>exact ⟨t,rfl⟩
 |l _=>exact h.elim
 |n _=>exact h.elim
end Go.Lev
namespace Go.Lev
open Go.Eng
set_option maxRecDepth 10000
set_option maxHeartbeats 4000000
variable {P:Program} {inv:Nat→Option Nat} {w0:World} {M:Nat→Prop}
def planB:Pln:=⟨1,0,[⟨1,0,[⟨0,0⟩,⟨2,0⟩]⟩,⟨2,5,[⟨1,1⟩,⟨3,0⟩,⟨4,0⟩]⟩,⟨3,0,[⟨2,1⟩,⟨0,0⟩]⟩,⟨4,0,[⟨2,2⟩,⟨0,0⟩]⟩],[⟨5,2⟩],[⟨1,1,1⟩],[⟨1,1,0,[2,3],[],[],3⟩]⟩
def stB:State:=⟨[⟨1,2⟩,⟨2,2⟩,⟨3,2⟩,⟨4,2⟩],[⟨5,0,0⟩],[⟨1,0,0,0⟩]⟩
def stB2:State:=⟨[⟨1,2⟩,⟨2,0⟩,⟨3,2⟩,⟨4,2⟩],[⟨5,0,0⟩],[⟨1,0,0,0⟩]⟩
def stB3:State:=⟨[⟨1,2⟩,⟨2,0⟩,⟨3,2⟩,⟨4,2⟩],[⟨5,0,2⟩],[⟨1,0,0,0⟩]⟩
end Go.Lev
namespace Go.Lev
open Go.Eng
set_option maxRecDepth 10000
set_option maxHeartbeats 4000000
variable {P:Program} {inv:Nat→Option Nat} {w0:World} {M:Nat→Prop}
def zcZ:Pln:=⟨1,0,[⟨1,0,[⟨0,0⟩,⟨2,0⟩]⟩,⟨2,5,[⟨1,1⟩,⟨3,0⟩,⟨4,0⟩]⟩,⟨3,0,[⟨2,1⟩,⟨0,0⟩]⟩,⟨4,0,[⟨2,2⟩,⟨0,0⟩]⟩],[⟨5,2⟩],[⟨1,1,1⟩],[⟨1,1,0,[2,3],[],[],3⟩,⟨2,1,0,[2,4],[],[],4⟩]⟩
def stN:State:=⟨[⟨1,2⟩,⟨2,2⟩,⟨3,2⟩,⟨4,2⟩],[⟨5,0,0⟩],[⟨1,0,0,0⟩,⟨2,0,0,0⟩]⟩
def stQ:State:=⟨[⟨1,0⟩,⟨2,0⟩,⟨3,0⟩,⟨4,0⟩],[⟨5,0,0⟩],[⟨1,0,0,0⟩,⟨2,0,0,0⟩]⟩
def zpa:State:=⟨[⟨1,0⟩,⟨2,0⟩,⟨3,0⟩,⟨4,0⟩],[⟨5,0,1⟩],[⟨1,1,0,0⟩,⟨2,0,0,0⟩]⟩
def ziV (_:Nat) (t:Track):Track:=⟨t.id,0⟩
end Go.Lev
namespace Go.Lev
open Go.Eng
set_option maxRecDepth 10000
set_option maxHeartbeats 4000000
variable {P:Program} {inv:Nat→Option Nat} {w0:World} {M:Nat→Prop}
def hasT (s:State) (n:Int):Bool:=s.tracks.any fun t=>decide (t.id=n)
def hasW (s:State) (n:Int):Bool:=s.switches.any fun t=>decide (t.id=n)
def ibF (s A B:State) (n v e1 e2:Int):Bool :=
 zaB (fun k t za0 =>
   cond (decide (e1=0)&&(decide ((nth s.tracks k).id=n)&&!decide ((nth A.tracks k).is=v)||!decide ((nth s.tracks k).id=n)&&!(decide ((nth A.tracks k).id=(nth s.tracks k).id)&&decide ((nth A.tracks k).is=(nth s.tracks k).is))))
    false (za0 (t||decide ((nth s.tracks k).id=n))))
  (fun t=>zaB (fun k u za0 =>
    cond (decide (e2=0)&&(decide ((nth s.switches k).id=n)&&(!decide ((nth B.switches k).lie=v)||!decide ((nth B.switches k).call=(nth s.switches k).call))||!decide ((nth s.switches k).id=n)&&!(decide ((nth B.switches k).id=(nth s.switches k).id)&&(decide ((nth B.switches k).lie=(nth s.switches k).lie)&&decide ((nth B.switches k).call=(nth s.switches k).call)))))
     false (za0 (u||decide ((nth s.switches k).id=n))))
   (fun u=>decide (decide (e1=0)=(t&&(decide (v=0)||decide (v=1))))&&decide (decide (e2=0)=(u&&(decide (0≤v)&&decide (v≤2)))))
   s.switches.length 0 false)
  s.tracks.length 0 false
end Go.Lev
namespace Go.Lev
open Go.Eng
set_option maxRecDepth 10000
set_option maxHeartbeats 4000000
variable {P:Program} {inv:Nat→Option Nat} {w0:World} {M:Nat→Prop}
def stQ2:State:=⟨[⟨1,0⟩,⟨2,0⟩,⟨3,0⟩,⟨4,0⟩],[⟨5,1,1⟩],[⟨1,1,0,0⟩,⟨2,0,0,0⟩]⟩
end Go.Lev
namespace Go.Eng
structure ActD where
 kind:Int
 id:Int
 value:Int
 data:List Int
 deriving DecidableEq,Inhabited
def byte1 (x:Int):List AV:=[.i .u8 x]
instance:Cells byte1 1:=⟨fun _=>rfl,fun _=>rfl⟩
def ActD.c (x:ActD):List AV:=[.i .u8 x.kind,.n x.id,.n x.value,.sl 1 (x.data.map byte1)]
instance:Cells ActD.c 4:=⟨fun _=>rfl,fun _=>rfl⟩
theorem rep7 {α:Type} (a:α):List.replicate 7 a=[a,a,a,a,a,a,a]:=rfl
attribute [go_sem] byte1 ActD.c rep7
end Go.Eng
namespace Go.Lev
open Go.Eng
set_option maxRecDepth 10000
set_option maxHeartbeats 2000000
variable {P:Program} {inv:Nat→Option Nat} {w0:World} {M:Nat→Prop}
def actC (p:Pln) (s:State) (a:ActD):Int :=
 if a.kind=1 then zb2 p s a.id a.value else if a.kind=2 then zbz p s a.id a.value else if a.kind=3 then zac p s
 else if a.kind=4 then callC p s a.id a.value else if a.kind=5 then lkC p s a.id else if a.kind=6 then cnC p s a.id else 2
def actS (p:Pln) (s:State) (a:ActD):State :=
 if a.kind=1 then secR p s a.id a.value else if a.kind=2 then ziQ p s a.id a.value else if a.kind=3 then tickR p s
 else if a.kind=4 then callR p s a.id a.value else if a.kind=5 then lkS p s a.id else if a.kind=6 then cnR p s a.id else State.z
def doC (p:Pln) (s:State) (a:ActD):Int:=if zac p s=0 then (if actC p s a=0 then zac p (actS p s a) else actC p s a) else zac p s
def doR (p:Pln) (s:State) (a:ActD):State:=if zac p s=0 then (if actC p s a=0 then setlR p (actS p s a) else State.z) else State.z
end Go.Lev
namespace Go.Lev
open Go.Eng
set_option maxRecDepth 10000
set_option maxHeartbeats 4000000
variable {P:Program} {inv:Nat→Option Nat} {w0:World} {M:Nat→Prop}
def zg5 (l:List Switch):List Flk:=(l.filter fun x=>!decide (x.call=0)).map fun x=>⟨x.id,x.call⟩
end Go.Lev
namespace Go.Lev
open Go.Eng
set_option maxRecDepth 10000
set_option maxHeartbeats 4000000
variable {P:Program} {inv:Nat→Option Nat} {w0:World} {M:Nat→Prop}
def zeW:List Shw→List Shw→Bool
 |[],[]=>false
 |[],_::_=>true
 |_::_,[]=>true
 |x::a,y::b=>if x.sig=y.sig∧x.asp≤y.asp then zeW a b else true
end Go.Lev
namespace Go.Lev
open Go.Eng
set_option maxRecDepth 10000
set_option maxHeartbeats 4000000
variable {P:Program} {inv:Nat→Option Nat} {w0:World} {M:Nat→Prop}
def bothF (p:Pln) (f:Rte→Bool) (g:Int→Bool) (n:Int):Bool :=
 zaB (fun k (bt:Bool) za0=>cond (!f (nth p.routes k)) (za0 bt) (cond (!decide ((nth p.routes k).entry=n)) (za0 bt) (cond (decide ((nth p.routes k).exit=0)) (za0 bt) (za0 (bt||g (nth p.routes k).exit))))) (fun bt=>bt) p.routes.length 0 false
end Go.Lev
namespace Go.Lev
open Go.Eng
set_option maxRecDepth 10000
set_option maxHeartbeats 4000000
variable {P:Program} {inv:Nat→Option Nat} {w0:World} {M:Nat→Prop}
def zob (p:Pln) (a b:Int):Int:=match p.signals.find? (fun x=>decide (x.sec=a)&&decide (x.ed=b)) with|some x=>x.id|none=>0
end Go.Lev
namespace Go.Lev
open Go.Eng
structure PtsP (p:Pln):Prop where
 id:∀ x∈p.points,1≤x.id∧x.id≤99
 up:∀ i,0<i→i<p.points.length→(nth p.points (i-1)).id<(nth p.points i).id
 sec:∀ x∈p.points,∃ s∈p.sections,s.id=x.sec∧s.pt=x.id
 len:(p.points.length:Int)≤6
 many:((p.sections.filter fun s=>decide (0<s.pt)).length:Int)=p.points.length
def rpF (p:Pln):Bool :=
 zaB (fun i (m:Int) za0=>cond (!decide ((nth p.sections i).pt=0)) (za0 (m+1)) (za0 m))
  (fun m=>zaB (fun i _ za0=>cond (decide ((nth p.points i).id<1)||(decide (99<(nth p.points i).id)||(decide ((0:Int)<i)&&decide ((nth p.points i).id≤(nth p.points (i-1)).id)||(decide (zdE (nth p.points i).sec 0 p.sections<0)||!decide ((nth p.sections (zdE (nth p.points i).sec 0 p.sections).toNat).pt=(nth p.points i).id))))) false (za0 ()))
   (fun _=>decide ((p.points.length:Int)≤6)&&decide (m=(p.points.length:Int))) p.points.length 0 ()) p.sections.length 0 0
end Go.Lev
namespace Go.Lev
open Go.Eng
structure SgsP (p:Pln):Prop where
 id:∀ x∈p.signals,1≤x.id∧x.id≤99
 up:∀ i,i<p.signals.length→∀ m,m<i→(nth p.signals m).id<(nth p.signals i).id
 apart:∀ i,i<p.signals.length→∀ m,m<i→¬((nth p.signals m).sec=(nth p.signals i).sec∧(nth p.signals m).ed=(nth p.signals i).ed)
 sec:∀ x∈p.signals,∃ s∈p.sections,s.id=x.sec∧0≤x.ed∧x.ed<s.ends.length
 len:(p.signals.length:Int)≤10
def zok (p:Pln) (x:Sgn):Bool:=decide (x.id<1)||(decide (99<x.id)||(decide (zdE x.sec 0 p.sections<0)||(decide (x.ed<0)||decide (((nth p.sections (zdE x.sec 0 p.sections).toNat).ends.length:Int)≤x.ed))))
def rsF (p:Pln):Bool :=
 zaB (fun i _ za0=>cond (zok p (nth p.signals i)) false
   (zaB (fun m _ next2=>cond (decide ((nth p.signals i).id≤(nth p.signals m).id)||(decide ((nth p.signals m).sec=(nth p.signals i).sec)&&decide ((nth p.signals m).ed=(nth p.signals i).ed))) false (next2 ())) (fun _=>za0 ()) i 0 ()))
  (fun _=>decide ((p.signals.length:Int)≤10)) p.signals.length 0 ()
end Go.Lev
namespace Go.Lev
open Go.Eng
structure RteP (p:Pln) (r:Rte):Prop where
 ent:∃ x∈p.signals,x.id=r.entry
 ex:¬r.exit=0→(∃ x∈p.signals,x.id=r.exit)∧¬r.exit=r.entry
 ov:r.exit=0→r.over.length=0
 lens:1≤r.path.length∧r.path.length≤6∧r.over.length≤2∧r.flanks.length≤3∧1≤r.timer∧r.timer≤9
 secs:∀ x∈r.path++r.over,(∃ s∈p.sections,s.id=x)∧¬x=((p.signals.find? fun x=>decide (x.id=r.entry)).getD Sgn.z).sec
 nd:(r.path++r.over).Nodup
 flk:∀ i,i<r.flanks.length→(∃ x∈p.points,x.id=(nth r.flanks i).pnt)∧(0<i→(nth r.flanks (i-1)).pnt<(nth r.flanks i).pnt)∧((nth r.flanks i).lie=1∨(nth r.flanks i).lie=2)
def FlkOk (p:Pln) (pr:Option Int) (f:Flk):Prop:=(∃ x∈p.points,x.id=f.pnt)∧(∀ y,pr=some y→y<f.pnt)∧(f.lie=1∨f.lie=2)
def rrT1 (p:Pln) (r:Rte) (k kx:Int):Bool:=decide (k<0)||(!decide (r.exit=0)&&(decide (kx<0)||decide (r.exit=r.entry))||decide (r.exit=0)&&!decide ((r.over.length:Int)=0))
def rrT2 (r:Rte):Bool:=decide ((r.path.length:Int)<1)||(decide (6<(r.path.length:Int))||(decide (2<(r.over.length:Int))||(decide (3<(r.flanks.length:Int))||(decide (r.timer<1)||decide (9<r.timer)))))
def rrS (p:Pln) (k n:Int):Bool:=decide (zdE n 0 p.sections<0)||decide (n=(nth p.signals k.toNat).sec)
def rrK (p:Pln) (r:Rte) (i:Nat):Bool:=decide (zaW (fun x=>decide (Pnt.id x=(nth r.flanks i).pnt)) 0 p.points<0)||(decide ((0:Int)<i)&&decide ((nth r.flanks i).pnt≤(nth r.flanks (i-1)).pnt)||(decide ((nth r.flanks i).lie<1)||decide (2<(nth r.flanks i).lie)))
def rrF (p:Pln) (r:Rte) (k kx:Int) (all:List Int):Bool :=
 cond (rrT1 p r k kx) false (cond (rrT2 r) false
  (zaB (fun i _ za0=>cond (rrS p k (nth all i)) false (zaB (fun m _ next2=>cond (decide (nth all m=nth all i)) false (next2 ())) (fun _=>za0 ()) i 0 ()))
   (fun _=>zaB (fun i _ za0=>cond (rrK p r i) false (za0 ())) (fun _=>true) r.flanks.length 0 ()) all.length 0 ()))
end Go.Lev
namespace Go.Lev
open Go.Eng
def rmT (p:Pln):Bool:=decide (p.version<1)||(decide (2147483647<p.version)||(decide (p.parent<0)||(decide (p.version≤p.parent)||decide (16<(p.routes.length:Int)))))
def rmR (p:Pln) (rt:Rte→Bool) (i:Nat):Bool:=decide ((nth p.routes i).id<1)||(decide (99<(nth p.routes i).id)||(decide ((0:Int)<i)&&decide ((nth p.routes i).id≤(nth p.routes (i-1)).id)||!rt (nth p.routes i)))
def rmF (p:Pln) (m pts sgs:Bool) (rt:Rte→Bool):Bool :=
 cond (rmT p) false (cond (!m||(!pts||!sgs)) false (zaB (fun i _ za0=>cond (rmR p rt i) false (za0 ())) (fun _=>true) p.routes.length 0 ()))
end Go.Lev
namespace Go.Lev
open Go.Eng
def zde (p:Pln) (n:Int):Section:=nth p.sections (zdE n 0 p.sections).toNat
def zl1 (p:Pln) (r:Rte) (all:List Int) (i:Nat) (s:Section) (e:Int) (j:Join):Bool :=
 if (i:Int)=(r.path.length:Int)-1 then (decide (r.exit=0)&&decide (j.to=0)||!decide (r.exit=0)&&decide (zob p s.id e=r.exit)) else decide (j.to=nth all (i+1))
def outW (p:Pln) (r:Rte) (all:List Int) (i:Nat) (s:Section) (f:Int):Option (Nat×Join×Int):=zaO s f (zl1 p r all i s) 0 s.ends
def zg3 (p:Pln) (r:Rte) (all:List Int):Nat→Join→List Int→List Int→List Int→Option (List Int×List Int)
 |_,_,ins,outs,[]=>some (ins,outs)
 |i,j,ins,outs,n::l =>
  if j.to=n then (if i+1=all.length∧0<r.over.length then some (ins++[j.ed],outs++[-1]) else
   match outW p r all i (zde p n) j.ed with
   |none=>none
   |some v=>zg3 p r all (i+1) v.2.1 (ins++[j.ed]) (outs++[(v.1:Int)]) l)
  else none
def zrq (p:Pln) (i:Nat) (n a b:Int):List AskR :=
 if (zde p n).pt=0 then [] else if 0<(if 0≤b then zhS (zde p n) a b else a) then [⟨(zde p n).pt,(if 0≤b then zhS (zde p n) a b else a),i⟩] else []
def zh7 (p:Pln):Nat→List Int→List Int→List Int→List AskR
 |i,n::l,a::I,b::O=>zrq p i n a b++zh7 p (i+1) l I O
 |_,_,_,_=>[]
def outG:List Int→List Int→List Join
 |n::l,b::O=>(if 0≤b then [⟨n,b⟩] else [])++outG l O
 |_,_=>[]
section
variable {p:Pln} (hs:zbU p.sections=true)
include hs
end
end Go.Lev
namespace Go.Lev
open Go.Eng
def EndOk (p:Pln) (r:Rte) (all:List Int) (k:Nat) (b:Int):Prop :=
 (0≤b∧zl1 p r all k (zde p (nth all k)) b (nth (zde p (nth all k)).ends b.toNat)=true)∨(b=-1∧k+1=all.length∧0<r.over.length)
def zjs (p:Pln) (r:Rte):Join:=nth (zde p (nth p.signals (zaW (fun x=>decide (Sgn.id x=r.entry)) 0 p.signals).toNat).sec).ends (nth p.signals (zaW (fun x=>decide (Sgn.id x=r.entry)) 0 p.signals).toNat).ed.toNat
def ziX (p:Pln) (r:Rte):Option (List Int×List Int):=zg3 p r (r.path++r.over) 0 (zjs p r) [] [] (r.path++r.over)
def asksV (p:Pln) (r:Rte) (I O:List Int):List AskR:=zh7 p 0 (r.path++r.over) I O++r.flanks.map fun x=>⟨x.pnt,x.lie,-1⟩
section
variable {p:Pln} (hs:zbU p.sections=true) (hg:SgsP p) (hp:PtsP p) {r:Rte} (hr:RteP p r)
include hs hg hr
include hp
end
end Go.Lev
namespace Go.Lev
open Go.Eng
def sndT (p:Pln) (r:Rte) (O:List Int) (i:Nat):Bool:=!decide (zob p (nth r.path i) (nth O i)=0)&&decide ((i:Int)<(r.path.length:Int)-1)||decide ((i:Int)=(r.path.length:Int)-1)&&!decide (zob p (nth r.path i) (nth O i)=r.exit)
def sndF (p:Pln) (r:Rte) (asks:List AskR) (O:List Int):Bool :=
 zaB (fun i _ za0=>zaB (fun k _ next2=>cond (decide ((nth asks k).pnt=(nth asks i).pnt)) false (next2 ())) (fun _=>za0 ()) i 0 ())
  (fun _=>zaB (fun i _ za0=>cond (sndT p r O i) false (za0 ())) (fun _=>true) r.path.length 0 ()) asks.length 0 ()
section
variable {p:Pln} (h:OkP p) (hs:zbU p.sections=true) (hg:SgsP p) (hp:PtsP p) {r:Rte} (hrr:r∈p.routes) (hr:RteP p r)
include h hs hg hp hrr hr
end
end Go.Lev
namespace Go.Lev
open Go.Eng
set_option maxRecDepth 10000
set_option maxHeartbeats 4000000
variable {P:Program} {inv:Nat→Option Nat} {w0:World} {M:Nat→Prop}
def outF (p:Pln) (r:Rte) (all:List Int) (i:Nat) (s:Section) (f:Int):Int :=
 zaB (fun k _ za0=>cond (decide (zhS s f (k:Int)<0)) (za0 ())
   (cond (decide ((i:Int)=(r.path.length:Int)-1))
    (cond (decide (r.exit=0)&&decide ((nth s.ends k).to=0)||!decide (r.exit=0)&&decide (zob p s.id (k:Int)=r.exit)) (k:Int) (za0 ()))
    (cond (decide ((nth s.ends k).to=nth all (i+1))) (k:Int) (za0 ()))))
  (fun _=>-1) s.ends.length 0 ()
def outI (o:Option (Nat×Join×Int)):Int:=match o with|some v=>(v.1:Int)|none=>-1
end Go.Lev
namespace Go.Lev
open Go.Eng
set_option maxRecDepth 10000
set_option maxHeartbeats 4000000
variable {P:Program} {inv:Nat→Option Nat} {w0:World} {M:Nat→Prop}
def zq5 (V:Option (List Int×List Int)):AV:=match V with|some v=>.tup [.sl 1 (v.1.map zck),.sl 1 (v.2.map zck),.b true]|none=>.tup [.sl 1 [],.sl 1 [],.b false]
end Go.Lev
namespace Go.Lev
open Go.Eng
set_option maxRecDepth 10000
set_option maxHeartbeats 4000000
variable {P:Program} {inv:Nat→Option Nat} {w0:World} {M:Nat→Prop}
structure AllP (p:Pln):Prop where
 ok:OkP p
 sec:zbU p.sections=true
 sgn:SgsP p
 pts:PtsP p
 rte:∀ r∈p.routes,RteP p r
def sndB (p:Pln) (r:Rte):Bool:=decide ((zah p r).2.2=0)&&zbw p r
end Go.Lev
namespace Go.Lev
open Go.Eng
def trkB (x:Track) (y:Section):Bool:=!decide (x.id=y.id)||decide (2<x.is)
def swtB (x:Switch) (y:Pnt):Bool:=!decide (x.id=y.id)||(decide (x.lie<0)||(decide (2<x.lie)||(decide (x.call<0)||decide (2<x.call))))
def lckB (x:Lock) (y:Rte):Bool:=!decide (x.id=y.id)||!zb3 x y
def prtF (p:Pln) (s:State):Bool :=
 cond (!decide ((s.tracks.length:Int)=p.sections.length)||(!decide ((s.switches.length:Int)=p.points.length)||!decide ((s.locks.length:Int)=p.routes.length))) false
  (zaB (fun i _ za0=>cond (trkB (nth s.tracks i) (nth p.sections i)) false (za0 ()))
   (fun _=>zaB (fun i _ za0=>cond (swtB (nth s.switches i) (nth p.points i)) false (za0 ()))
    (fun _=>zaB (fun i _ za0=>cond (lckB (nth s.locks i) (nth p.routes i)) false (za0 ())) (fun _=>true) s.locks.length 0 ())
    s.switches.length 0 ()) s.tracks.length 0 ())
end Go.Lev
namespace Go.Lev
open Go.Eng
def mayF (s:State) (hd:Nat→List Int) (as:Nat→List AskR):Bool :=
 zaB (fun i (st:List Bool×List Int) za0 =>
   zaB (fun k (H:List Bool) next2=>cond (nth H (nth (hd i) k).toNat) false (next2 (H.set (nth (hd i) k).toNat true)))
    (fun H=>zaB (fun k (A:List Int) next3 =>
      cond (!decide (nth A (nth (as i) k).pnt.toNat=0)&&!decide (nth A (nth (as i) k).pnt.toNat=(nth (as i) k).lie)||!decide (zbs s (nth (as i) k).pnt=(nth (as i) k).lie)) false (next3 (A.set (nth (as i) k).pnt.toNat (nth (as i) k).lie)))
     (fun A=>za0 (H,A)) (as i).length 0 st.2) (hd i).length 0 st.1)
  (fun _=>true) s.locks.length 0 (List.replicate 100 false,List.replicate 100 0)
end Go.Lev
namespace Go.Lev
open Go.Eng
set_option maxRecDepth 10000
set_option maxHeartbeats 4000000
variable {P:Program} {inv:Nat→Option Nat} {w0:World} {M:Nat→Prop}
def zmb (p:Pln) (s:State):Bool:=decide (zac p s=0)
end Go.Lev
namespace Go.Lev
open Go.Eng
set_option maxRecDepth 10000
set_option maxHeartbeats 4000000
variable {P:Program} {inv:Nat→Option Nat} {w0:World} {M:Nat→Prop}
def ofF (s:State) (hd:Nat→List Int) (n:Int):Int :=
 zaB (fun i _ za0=>zaB (fun k _ next2=>cond (decide (nth (hd i) k=n)) (nth s.locks i).id (next2 ())) (fun _=>za0 ()) (hd i).length 0 ()) (fun _=>0) s.locks.length 0 ()
def lieF (s:State) (as:Nat→List AskR) (n:Int):Int :=
 zaB (fun i _ za0=>zaB (fun k _ next2=>cond (decide ((nth (as i) k).pnt=n)) (nth (as i) k).lie (next2 ())) (fun _=>za0 ()) (as i).length 0 ()) (fun _=>0) s.locks.length 0 ()
end Go.Lev
namespace Go.Lev
open Go.Eng
set_option maxRecDepth 10000
set_option maxHeartbeats 4000000
variable {P:Program} {inv:Nat→Option Nat} {w0:World} {M:Nat→Prop}
def mayAt (p:Pln) (s:State) (k:Nat):Int:=if nth (zaQ p s).2.1 (nth p.points k).id.toNat=0 then (if zdx s (nth p.points k).sec=0 then 0 else 171) else 170
end Go.Lev
namespace Go.Lev
open Go.Eng
def msF (p:Pln) (s:State) (all:List Int) (asks:List AskR) (H:Int→Int):Int :=
 zaB (fun i _ za0=>cond (!decide (H (nth all i)=0)) 181 (cond (!decide (zdx s (nth all i)=0)) 182 (za0 ())))
  (fun _=>zaB (fun i _ za0=>cond (!decide (zbs s (nth asks i).pnt=(nth asks i).lie)&&!decide (mayC p s (nth asks i).pnt=0)) 183 (za0 ())) (fun _=>0) asks.length 0 ()) all.length 0 ()
end Go.Lev
namespace Go.Lev
open Go.Eng
def On (l l':Lock):Prop:=l'=l∨(l'.id=l.id∧(l'.phase=0∨(¬l.phase=0∧¬l'.phase=0∧l.gone≤l'.gone)))
theorem On.held {l l':Lock} (h:On l l') (w:WayR):∀ m∈zbk w l',m∈zbk w l:=by
 intro m hm
 rcases h with rfl|⟨_,h|⟨h1,h2,h3⟩⟩
 ·exact hm
 ·unfold zbk at hm;rw[if_pos h]at hm;cases hm
 ·unfold zbk at hm ⊢
  rw[if_neg h2]at hm
  rw[if_neg h1]
  rcases List.mem_append.1 hm with h4|h4
  ·refine List.mem_append.2 (.inl ?_)
   obtain ⟨k,hk,e⟩:=List.mem_iff_getElem.1 h4
   rw[List.getElem_drop]at e
   rw[List.length_drop]at hk
   have:l.gone.toNat≤l'.gone.toNat:=by omega
   refine List.mem_iff_getElem.2 ⟨l'.gone.toNat-l.gone.toNat+k,by rw[List.length_drop];omega, ?_⟩
   rw[List.getElem_drop,←e]
   congr 1
   omega
  ·exact List.mem_append.2 (.inr h4)
theorem On.asks {l l':Lock} (h:On l l') (w:WayR):∀ a∈(zbG w l').filter (zbV l'),a∈(zbG w l).filter (zbV l):=by
 intro a ha
 rcases h with rfl|⟨_,h|⟨h1,h2,h3⟩⟩
 ·exact ha
 ·unfold zbG at ha;rw[if_pos h]at ha;cases ha
 ·unfold zbG at ha ⊢
  rw[if_neg h2]at ha
  rw[if_neg h1]
  obtain ⟨h4,h5⟩:=List.mem_filter.1 ha
  refine List.mem_filter.2 ⟨h4, ?_⟩
  simp only[zbV,Bool.or_eq_true,decide_eq_true_eq]at h5 ⊢
  omega
theorem On.id {l l':Lock} (h:On l l'):l'.id=l.id:=by
 rcases h with rfl|h
 ·rfl
 ·exact h.1
theorem On.trans {a b c:Lock} (h:On a b) (g:On b c):On a c:=by
 rcases h with rfl|⟨h1,h2⟩
 ·exact g
 ·rcases g with rfl|⟨g1,g2⟩
  ·exact .inr ⟨h1,h2⟩
  ·refine .inr ⟨g1.trans h1, ?_⟩
   rcases g2 with g2|⟨g2,g3,g4⟩
   ·exact .inl g2
   ·rcases h2 with h2|⟨h2,h3,h4⟩
    ·exact absurd h2 g2
    ·exact .inr ⟨h2,g3,by omega⟩
structure OnS (p:Pln) (s t:State):Prop where
 trk:t.tracks=s.tracks
 swt:t.switches=s.switches
 len:t.locks.length=s.locks.length
 on:∀ i,i<s.locks.length→On (nth s.locks i) (nth t.locks i)
 ok:∀ i,i<s.locks.length→zcK (nth t.locks i) (nth p.routes i)=true
section
variable {p:Pln} {s t:State} (h:zac p s=0) (g:OnS p s t)
include h g
theorem OnS.parts:zaj p t=true:=by
 have h2:=(zae h).2.1
 have hl:=zan h2
 unfold zaj at h2 ⊢
 simp only[Bool.and_eq_true,zbf]at h2 ⊢
 rw[g.trk,g.swt,g.len]
 exact ⟨h2.1,h2.2.1,h2.2.2.1,g.ok⟩
theorem OnS.code:zac p t=0:=by
 obtain ⟨h1,_,h3,h4⟩:=zcW.1 h
 refine zcW.2 ⟨h1,g.parts h,fun i j hi hj hne m hm hm'=>?_,fun i hi a ha=>?_⟩
 ·rw[g.len]at hi hj
  exact h3 i j hi hj hne m ((g.on i hi).held _ m hm) ((g.on j hj).held _ m hm')
 ·rw[g.len]at hi
  have:zbs t a.pnt=zbs s a.pnt:=by rw[zf2,zf2,g.swt]
  rw[this]
  exact h4 i hi a ((g.on i hi).asks _ a ha)
theorem OnS.sm (hs:SmS s):SmS t:=⟨by rw[g.trk];exact hs.1,by rw[g.swt];exact hs.2.1,by rw[g.len];exact hs.2.2⟩
end
theorem OnS.trans {p:Pln} {a b c:State} (h:OnS p a b) (g:OnS p b c):OnS p a c :=
 ⟨g.trk.trans h.trk,g.swt.trans h.swt,g.len.trans h.len,fun i hi=>(h.on i hi).trans (g.on i (by rw[h.len];exact hi)),fun i hi=>g.ok i (by rw[h.len];exact hi)⟩
end Go.Lev
namespace Go.Lev
open Go.Eng
def rpvF (s:State) (pa ov:List Int) (as:List AskR) (L:AskR→Int):Bool :=
 zaB (fun i _ za0=>cond (!decide (zdx s (nth pa i)=0)) false (za0 ()))
  (fun _=>zaB (fun i _ za0=>cond (!decide (zdx s (nth ov i)=0)) false (za0 ()))
   (fun _=>zaB (fun i _ za0=>cond (!decide (L (nth as i)=(nth as i).lie)) false (za0 ())) (fun _=>true) as.length 0 ()) ov.length 0 ()) pa.length 0 ()
def iterL (r:Rte) (is:Int→Int):Nat→Lock→Lock
 |0,l=>l
 |m+1,l=>iterL r is m (stepL r is l)
end Go.Lev
namespace Go.Lev
open Go.Eng
set_option maxRecDepth 10000
set_option maxHeartbeats 4000000
variable {P:Program} {inv:Nat→Option Nat} {w0:World} {M:Nat→Prop}
def zoD (s:State) (n:Int):Int:=match s.switches.find? fun t=>decide (t.id=n) with|some t=>t.lie|none=>0
end Go.Lev
