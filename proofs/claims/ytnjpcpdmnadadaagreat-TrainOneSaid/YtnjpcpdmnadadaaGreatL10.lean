/-
  A part of the engine that walks the functions' codes, and of the functions' contracts. Conditions: those that each theorem names.
-/
import Derived.Test.YtnjpcpdmnadadaaGreatL9
import Derived.IntWalk
import Derived.Laws.IdiomCopy
set_option linter.unusedSimpArgs false
set_option linter.unusedVariables false
set_option linter.unusedSectionVars false
namespace Go.Lev
open Go.Eng
set_option maxRecDepth 10000
set_option maxHeartbeats 4000000
variable {P:Program} {inv:Nat→Option Nat} {w0:World} {M:Nat→Prop}
def setLk (s:State) (n:Int):Bool:=s.locks.any fun x=>decide (n=x.id)&&(decide (1=x.phase)&&(decide (0=x.gone)&&decide (0=x.left)))
def lieT (s:State) (a:AskR):Bool:=s.switches.any fun x=>decide (x.id=a.pnt)&&decide (x.lie=a.lie)
def zlu (s:State) (n:Int) (w:WayR):Bool:=setLk s n&&(!(w.path.any fun m=>!frT s m)&&(!(w.over.any fun m=>!frT s m)&&!(w.asks.any fun a=>!lieT s a)))
section
variable (hH:HasAll P inv) (s:State) (hs:SmS s)
include hH hs
theorem pr236 (m:Int):PC P inv 236 ([.n m]++[.ip 3 [s.c] 0 0]) (·=.b (frT s m)):=by
 have c1:=has_trk hH s.tracks ⟨m,0⟩ (by have:=hs.1;omega)
 rw[show (s.tracks.any fun x=>decide ((⟨m,0⟩:Track).id=x.id)&&decide ((⟨m,0⟩:Track).is=x.is))=frT s m from rfl]at c1
 refine PC.fn hH cd236 fun w0 M Q hM hE hQ hR=>?_;dsimp only[cd236,qm,ql,qf,qi,qb,qc,qp,qv,qN,qT,qF,qt]at hQ ⊢
 (repeat' first|refine zaa [0,1,3] fun K hK=>?_|(refine hK.go ?_;clear hK K)|with_reducible exact wT|refine wA ?_|(refine wB (fun h=>?_) (fun h=>?_)<;>first|exact wN h|subst (h:(_:Bool)=_)|skip)|(refine wQ ?_;clear hQ hR hE hM)|refine wC c1 ?_|fail)
theorem pr243 (m:Int):PC P inv 243 ([.n m]++[.ip 1 [[.fn 236 [.ip 3 [s.c] 0 0]]] 0 0]) (·=.b (!frT s m)):=by
 have c1:=pr236 hH s hs m
 refine PC.fn hH cd243 fun w0 M Q hM hE hQ hR=>?_;dsimp only[cd243,qm,ql,qf,qi,qb,qc,qp,qv,qN,qT,qF,qt]at hQ ⊢
 (repeat' first|refine zaa [0,1,3] fun K hK=>?_|(refine hK.go ?_;clear hK K)|with_reducible exact wT|refine wA ?_|(refine wB (fun h=>?_) (fun h=>?_)<;>first|exact wN h|subst (h:(_:Bool)=_)|skip)|(refine wQ ?_;clear hQ hR hE hM)|refine wC c1 ?_|fail)
theorem pr245 (m:Int):PC P inv 245 ([.n m]++[.ip 1 [[.fn 236 [.ip 3 [s.c] 0 0]]] 0 0]) (·=.b (!frT s m)):=by
 have c1:=pr236 hH s hs m
 refine PC.fn hH cd245 fun w0 M Q hM hE hQ hR=>?_;dsimp only[cd245,qm,ql,qf,qi,qb,qc,qp,qv,qN,qT,qF,qt]at hQ ⊢
 (repeat' first|refine zaa [0,1,3] fun K hK=>?_|(refine hK.go ?_;clear hK K)|with_reducible exact wT|refine wA ?_|(refine wB (fun h=>?_) (fun h=>?_)<;>first|exact wN h|subst (h:(_:Bool)=_)|skip)|(refine wQ ?_;clear hQ hR hE hM)|refine wC c1 ?_|fail)
omit hs in
theorem pr239 (a:AskR) (x:Switch):PC P inv 239 ([.agg x.c]++[.ip 3 [a.c] 0 0]) (·=.b (decide (x.id=a.pnt)&&decide (x.lie=a.lie))):=by
 refine PC.fn hH cd239 fun w0 M Q hM hE hQ hR=>?_;dsimp only[cd239,qm,ql,qf,qi,qb,qc,qp,qv,qN,qT,qF,qt]at hQ ⊢
 (repeat' first|refine zaa [0,1,2,3] fun K hK=>?_|(refine hK.go ?_;clear hK K)|with_reducible exact wT|refine wA ?_|(refine wB (fun h=>?_) (fun h=>?_)<;>first|exact wN h|subst (h:(_:Bool)=_)|skip)|(refine wQ ?_;clear hQ hR hE hM)|fail)
 all_goals (simp[*];done)
theorem pr237 (a:AskR):PC P inv 237 ([.agg a.c]++[.ip 3 [s.c] 0 0]) (·=.b (lieT s a)):=by
 have c1:=hasSwt hH s.switches (fun x _=>pr239 hH a x) (by have:=hs.2.1;omega)
 rw[show (s.switches.any fun x=>decide (x.id=a.pnt)&&decide (x.lie=a.lie))=lieT s a from rfl]at c1
 refine PC.fn hH cd237 fun w0 M Q hM hE hQ hR=>?_;dsimp only[cd237,qm,ql,qf,qi,qb,qc,qp,qv,qN,qT,qF,qt]at hQ ⊢
 (repeat' first|refine zaa [0,1,2,3] fun K hK=>?_|(refine hK.go ?_;clear hK K)|with_reducible exact wT|refine wA ?_|(refine wB (fun h=>?_) (fun h=>?_)<;>first|exact wN h|subst (h:(_:Bool)=_)|skip)|(refine wQ ?_;clear hQ hR hE hM)|refine wS c1 ?_|fail)
theorem pr248 (a:AskR):PC P inv 248 ([.agg a.c]++[.ip 1 [[.fn 237 [.ip 3 [s.c] 0 0]]] 0 0]) (·=.b (!lieT s a)):=by
 have c1:=pr237 hH s hs a
 refine PC.fn hH cd248 fun w0 M Q hM hE hQ hR=>?_;dsimp only[cd248,qm,ql,qf,qi,qb,qc,qp,qv,qN,qT,qF,qt]at hQ ⊢
 (repeat' first|refine zaa [0,1,2,3] fun K hK=>?_|(refine hK.go ?_;clear hK K)|with_reducible exact wT|refine wA ?_|(refine wB (fun h=>?_) (fun h=>?_)<;>first|exact wN h|subst (h:(_:Bool)=_)|skip)|(refine wQ ?_;clear hQ hR hE hM)|refine wC c1 ?_|fail)
theorem pr242 (w:WayR) (hw:w.path.length≤1000):PC P inv 242 [.ip 4 [w.c] 0 0,.ip 1 [[.fn 236 [.ip 3 [s.c] 0 0]]] 0 0] (·=.b (!(w.path.any fun m=>!frT s m))):=by
 have c1:=hasInt hH w.path (fun x _=>pr243 hH s hs x) (by omega)
 refine PC.fn hH cd242 fun w0 M Q hM hE hQ hR=>?_;dsimp only[cd242,qm,ql,qf,qi,qb,qc,qp,qv,qN,qT,qF,qt]at hQ ⊢
 (repeat' first|refine zaa [0,1,2] fun K hK=>?_|(refine hK.go ?_;clear hK K)|with_reducible exact wT|refine wA ?_|(refine wB (fun h=>?_) (fun h=>?_)<;>first|exact wN h|subst (h:(_:Bool)=_)|skip)|(refine wQ ?_;clear hQ hR hE hM)|refine wC c1 ?_|fail)
theorem pr244 (w:WayR) (hw:w.over.length≤1000):PC P inv 244 [.ip 4 [w.c] 0 0,.ip 1 [[.fn 236 [.ip 3 [s.c] 0 0]]] 0 0] (·=.b (!(w.over.any fun m=>!frT s m))):=by
 have c1:=hasInt hH w.over (fun x _=>pr245 hH s hs x) (by omega)
 refine PC.fn hH cd244 fun w0 M Q hM hE hQ hR=>?_;dsimp only[cd244,qm,ql,qf,qi,qb,qc,qp,qv,qN,qT,qF,qt]at hQ ⊢
 (repeat' first|refine zaa [0,1,2] fun K hK=>?_|(refine hK.go ?_;clear hK K)|with_reducible exact wT|refine wA ?_|(refine wB (fun h=>?_) (fun h=>?_)<;>first|exact wN h|subst (h:(_:Bool)=_)|skip)|(refine wQ ?_;clear hQ hR hE hM)|refine wC c1 ?_|fail)
theorem pr246 (w:WayR) (hw:w.asks.length≤1000):PC P inv 246 [.ip 4 [w.c] 0 0,.ip 1 [[.fn 237 [.ip 3 [s.c] 0 0]]] 0 0] (·=.b (!(w.asks.any fun a=>!lieT s a))):=by
 have c1:=hasAsk hH w.asks (fun x _=>pr248 hH s hs x) (by omega)
 refine PC.fn hH cd246 fun w0 M Q hM hE hQ hR=>?_;dsimp only[cd246,qm,ql,qf,qi,qb,qc,qp,qv,qN,qT,qF,qt]at hQ ⊢
 (repeat' first|refine zaa [0,1,2] fun K hK=>?_|(refine hK.go ?_;clear hK K)|with_reducible exact wT|refine wA ?_|(refine wB (fun h=>?_) (fun h=>?_)<;>first|exact wN h|subst (h:(_:Bool)=_)|skip)|(refine wQ ?_;clear hQ hR hE hM)|refine wC c1 ?_|fail)
theorem pr240 (n:Int):PC P inv 240 [.ip 3 [s.c] 0 0,.ip 1 [[.n n]] 0 0] (·=.b (setLk s n)):=by
 have c1:=has_lck hH s.locks ⟨n,1,0,0⟩ (by have:=hs.2.2;omega)
 rw[show (s.locks.any fun x=>decide ((⟨n,1,0,0⟩:Lock).id=x.id)&&(decide ((⟨n,1,0,0⟩:Lock).phase=x.phase)&&(decide ((⟨n,1,0,0⟩:Lock).gone=x.gone)&&decide ((⟨n,1,0,0⟩:Lock).left=x.left))))=setLk s n from rfl]at c1
 refine PC.fn hH cd240 fun w0 M Q hM hE hQ hR=>?_;dsimp only[cd240,qm,ql,qf,qi,qb,qc,qp,qv,qN,qT,qF,qt]at hQ ⊢
 (repeat' first|refine zaa [0,1,2] fun K hK=>?_|(refine hK.go ?_;clear hK K)|with_reducible exact wT|refine wA ?_|(refine wB (fun h=>?_) (fun h=>?_)<;>first|exact wN h|subst (h:(_:Bool)=_)|skip)|(refine wQ ?_;clear hQ hR hE hM)|refine wC c1 ?_|fail)
theorem zpk (n:Int) (w:WayR) (h1:w.path.length≤1000) (h2:w.over.length≤1000) (h3:w.asks.length≤1000):PC P inv 228 [.agg s.c,.n n,.agg w.c] (·=.b (zlu s n w)):=by
 have c1:=pr240 hH s hs n
 have c2:=pr242 hH s hs w h1
 have c3:=pr244 hH s hs w h2
 have c4:=pr246 hH s hs w h3
 unfold zlu
 generalize setLk s n=b1 at *
 generalize (w.path.any fun m=>!frT s m)=b2 at *
 generalize (w.over.any fun m=>!frT s m)=b3 at *
 generalize (w.asks.any fun a=>!lieT s a)=b4 at *
 refine PC.fn hH cd228 fun w0 M Q hM hE hQ hR=>?_;dsimp only[cd228,qm,ql,qf,qi,qb,qc,qp,qv,qN,qT,qF,qt]at hQ ⊢
 (repeat' first|refine zaa [0,1,2,3,4,5,6,7,8,10,17,18,19,20,25] fun K hK=>?_|(refine hK.go ?_;clear hK K)|with_reducible exact wT|refine wA ?_|(refine wB (fun h=>?_) (fun h=>?_)<;>first|exact wN h|subst (h:(_:Bool)=_)|skip)|(refine wQ ?_;clear hQ hR hE hM)|fail)
 refine zaz (ι:=Nat) [6,17,18,19] (fun z=>[(19,.n z)]) (fun _=>[]) (fun z=>z) (4) (fun z=>((([b1,!b2,!b3,!b4]:List Bool).drop z).all id=(b1&&(!b2&&(!b3&&!b4))))) (0) ?_;rintro k ⟨hk,hg⟩;(try dsimp only at hk hg ⊢);rcases Nat.lt_or_ge k 4 with hlt|hge
 ·obtain rfl|rfl|rfl|rfl:k=0∨k=1∨k=2∨k=3:=by omega
  ·cases b1
   ·(repeat' first|refine zaa [0,1,2,3,4,5,6,7,8,10,17,18,19,20,25] fun K hK=>?_|(refine hK.go ?_;clear hK K)|with_reducible exact wT|refine wA ?_|(refine wB (fun h=>?_) (fun h=>?_)<;>first|exact wN h|subst (h:(_:Bool)=_)|skip)|(refine wQ ?_;clear hQ hR hE hM)|refine wS c1 ?_|fail)
    all_goals first|rfl|(exfalso;contradiction)
   ·(repeat' first|refine zaa [0,1,2,3,4,5,6,7,8,10,17,18,19,20,25] fun K hK=>?_|(refine hK.go ?_;clear hK K)|with_reducible exact wT|refine wA ?_|(refine wB (fun h=>?_) (fun h=>?_)<;>first|exact wN h|subst (h:(_:Bool)=_)|skip)|(refine wQ ?_;clear hQ hR hE hM)|refine wS c1 ?_|fail)
    all_goals first|exact ⟨1,by omega,⟨by omega,by simp⟩,rfl⟩|(exfalso;contradiction)
  ·cases b2
   ·(repeat' first|refine zaa [0,1,2,3,4,5,6,7,8,10,17,18,19,20,25] fun K hK=>?_|(refine hK.go ?_;clear hK K)|with_reducible exact wT|refine wA ?_|(refine wB (fun h=>?_) (fun h=>?_)<;>first|exact wN h|subst (h:(_:Bool)=_)|skip)|(refine wQ ?_;clear hQ hR hE hM)|refine wS c2 ?_|fail)
    all_goals first|exact ⟨2,by omega,⟨by omega,by simpa using hg⟩,rfl⟩|(exfalso;contradiction)
   ·(repeat' first|refine zaa [0,1,2,3,4,5,6,7,8,10,17,18,19,20,25] fun K hK=>?_|(refine hK.go ?_;clear hK K)|with_reducible exact wT|refine wA ?_|(refine wB (fun h=>?_) (fun h=>?_)<;>first|exact wN h|subst (h:(_:Bool)=_)|skip)|(refine wQ ?_;clear hQ hR hE hM)|refine wS c2 ?_|fail)
    all_goals first|(simpa using hg)|(exfalso;contradiction)
  ·cases b3
   ·(repeat' first|refine zaa [0,1,2,3,4,5,6,7,8,10,17,18,19,20,25] fun K hK=>?_|(refine hK.go ?_;clear hK K)|with_reducible exact wT|refine wA ?_|(refine wB (fun h=>?_) (fun h=>?_)<;>first|exact wN h|subst (h:(_:Bool)=_)|skip)|(refine wQ ?_;clear hQ hR hE hM)|refine wS c3 ?_|fail)
    all_goals first|exact ⟨3,by omega,⟨by omega,by simpa using hg⟩,rfl⟩|(exfalso;contradiction)
   ·(repeat' first|refine zaa [0,1,2,3,4,5,6,7,8,10,17,18,19,20,25] fun K hK=>?_|(refine hK.go ?_;clear hK K)|with_reducible exact wT|refine wA ?_|(refine wB (fun h=>?_) (fun h=>?_)<;>first|exact wN h|subst (h:(_:Bool)=_)|skip)|(refine wQ ?_;clear hQ hR hE hM)|refine wS c3 ?_|fail)
    all_goals first|(simpa using hg)|(exfalso;contradiction)
  ·cases b4
   ·(repeat' first|refine zaa [0,1,2,3,4,5,6,7,8,10,17,18,19,20,25] fun K hK=>?_|(refine hK.go ?_;clear hK K)|with_reducible exact wT|refine wA ?_|(refine wB (fun h=>?_) (fun h=>?_)<;>first|exact wN h|subst (h:(_:Bool)=_)|skip)|(refine wQ ?_;clear hQ hR hE hM)|refine wS c4 ?_|fail)
    all_goals first|exact ⟨4,by omega,⟨by omega,by simpa using hg⟩,rfl⟩|(exfalso;contradiction)
   ·(repeat' first|refine zaa [0,1,2,3,4,5,6,7,8,10,17,18,19,20,25] fun K hK=>?_|(refine hK.go ?_;clear hK K)|with_reducible exact wT|refine wA ?_|(refine wB (fun h=>?_) (fun h=>?_)<;>first|exact wN h|subst (h:(_:Bool)=_)|skip)|(refine wQ ?_;clear hQ hR hE hM)|refine wS c4 ?_|fail)
    all_goals first|(simpa using hg)|(exfalso;contradiction)
 ·obtain rfl:k=4:=by omega
  (repeat' first|refine zaa [0,1,2,3,4,5,6,7,8,10,17,18,19,20,25] fun K hK=>?_|(refine hK.go ?_;clear hK K)|with_reducible exact wT|refine wA ?_|(refine wB (fun h=>?_) (fun h=>?_)<;>first|exact wN h|subst (h:(_:Bool)=_)|skip)|(refine wQ ?_;clear hQ hR hE hM)|fail)
  all_goals first|exact hg|(simpa using hg)|trace_state
end
end Go.Lev
namespace Go.Lev
open Go.Eng
set_option maxRecDepth 10000
set_option maxHeartbeats 4000000
variable {P:Program} {inv:Nat→Option Nat} {w0:World} {M:Nat→Prop}
def bool1 (b:Bool):List AV:=[.b b]
instance:Cells bool1 1:=⟨fun _=>rfl,fun _=>rfl⟩
theorem chunks_b (l:List Bool):zbv 1 l.length (l.map AV.b)=l.map bool1:=by
 induction l with
 |nil=>rfl
 |cons x l ih =>
  simp only[List.length_cons,List.map_cons,zbv,List.take_succ_cons,List.take_zero,List.drop_succ_cons,List.drop_zero,ih]
  rfl
attribute [go_sem] bool1 chunks_b
def zd3 (p:Pln) (s:State) (r:Rte):Bool:=zlu s r.id (zaq p r).1
def zeU (p:Pln) (s:State):List Bool:=p.routes.map (zd3 p s)
def zga (p:Pln) (s:State):List Bool:=if zai p s=0 then zeU p s else []
theorem zht (hH:HasAll P inv) (hI:HasIds P inv) (p:Pln) (hp:Sm p) (s:State) (hs:SmS s):PC P inv 213 [.agg p.c,.agg s.c] (·=.tup [.sl 1 ((zga p s).map bool1),.n (zai p s)]):=by
 have c0:=of_pc hH hI p hp s hs
 have hRl:=zjl p s
 have hRe:=zlA p s
 by_cases hst:zai p s=0
 ·have hok:=zaH hst
  have hR:ofR p s=⟨(zaW p s).1,(zaW p s).2.1,za8 p,0⟩:=by unfold ofR;rw[if_pos hst]
  rw[hR]at c0 hRl
  dsimp only at c0 hRl
  rw[hst,show zga p s=zeU p s by unfold zga;rw[if_pos hst]]
  have hc:∀ k,k<p.routes.length→PC P inv 228 [.agg s.c,.n (nth p.routes k).id,.agg (nth (za8 p) k).c] (·=.b (zd3 p s (nth p.routes k))):=fun k hk=>by
   have hl:=zgY hok (zae hk)
   rw[show nth (za8 p) k=(zaq p (nth p.routes k)).1 from nthm _ hk]
   exact zpk hH s hs _ _ hl.2.2.1 hl.2.2.2 hl.1
  have hwlen:(za8 p).length=p.routes.length:=by simp[za8]
  have hrl:=hp.rte
  obtain ⟨f,hf⟩:∃ f,f=zd3 p s:=⟨_,rfl⟩
  rw[show zeU p s=p.routes.map f by rw[hf];rfl]
  rw[←hf]at hc
  clear hf hok hst hR hRe
  generalize za8 p=ws at *
  generalize zaW p s=GR at *
  obtain ⟨H,A,B⟩:=GR
  dsimp only at *
  obtain ⟨G,Z,hg⟩:=zmn
  rw[←hg.eq]at c0
  have hfold:=hg.fold
  have hlen0:=hg.len (.s0 4) hg.zl hg.zl
  have hlen:=hg.len (.sl 4 (ws.map Way.c)) hRl.1 hRl.2
  have hov:=hg.ov (.s0 4) (.sl 4 (ws.map Way.c)) hg.zl hg.zl hRl.1 hRl.2
  have hbd0:=hg.bd0 Z Z
  have hbd:=hg.bd H A (ws.map Way.c)
  have hba:=hg.ba H A (ws.map Way.c)
  have hgw:=hg.get (.sl 4 (ws.map Way.c)) hRl.1 hRl.2
  clear hg
  refine PC.fn hH cd213 fun w0 M Q hM hE hQ hR=>?_;dsimp only[cd213,qm,ql,qf,qi,qb,qc,qp,qv,qN,qT,qF,qt]at hQ ⊢
  (have hX:=zA @hfold (zA @hlen0 (zA @hlen (zA @hov (zA @hbd0 (zA @hbd @hba)))));(repeat' first|refine zaa [0,1,2,3,4,5,6,7,8,16,19,20,21,22,37] fun K hK=>?_|(refine hK.go ?_;clear hK K)|with_reducible exact wT|refine wA ?_|(refine wB (fun h=>?_) (fun h=>?_)<;>first|exact wN h|subst (h:(_:Bool)=_)|skip)|(refine wQ ?_;clear hQ hR hE hM)|refine wC c0 ?_|fail);all_goals clear hX)
  all_goals first|(exfalso;contradiction)|skip
  refine AWp.empty 4 3 1 rfl (Nat.zero_le _) (by simp -dsimp -implicitDefEqProofs (disch:=omega) only[go_sem,reduceIte,↓reduceIte,Nat.reduceEqDiff,Nat.reduceLT,Nat.reduceLeDiff,Nat.reduceAdd,Nat.reduceSub,Nat.reduceMul,Int.reduceToNat,Int.reduceLT,Int.reduceLE,Int.reduceEq,Int.reduceNeg,Int.reduceNe,reduceCtorEq,hlen,hbd,hba]) (by simp -dsimp -implicitDefEqProofs (disch:=omega) only[go_sem,reduceIte,↓reduceIte,Nat.reduceEqDiff,Nat.reduceLT,Nat.reduceLeDiff,Nat.reduceAdd,Nat.reduceSub,Nat.reduceMul,Int.reduceToNat,Int.reduceLT,Int.reduceLE,Int.reduceEq,Int.reduceNeg,Int.reduceNe,reduceCtorEq,hlen,hbd,hba]) ?_
  simp -dsimp -implicitDefEqProofs (disch:=omega) only[go_sem,reduceIte,↓reduceIte,Nat.reduceEqDiff,Nat.reduceLT,Nat.reduceLeDiff,Nat.reduceAdd,Nat.reduceSub,Nat.reduceMul,Int.reduceToNat,Int.reduceLT,Int.reduceLE,Int.reduceEq,Int.reduceNeg,Int.reduceNe,reduceCtorEq,hlen,hbd,hba]
  refine zaz (ι:=Nat×(List Bool)) [3,4,5,6,19,20,21] (fun z=>[(4,.sm 3 z.2.length 0 z.2.length 1),(21,.n z.1)]) (fun z=>[(3,.cells (z.2.map AV.b) (decide (0<z.2.length)))]) (fun z=>z.1) (p.routes.length) (fun z=>(z.2.length=z.1)∧(z.2++(p.routes.drop z.1).map f=p.routes.map f)) (0,([]:List Bool)) ?_;rintro ⟨k,bs⟩ ⟨hk,hl,hg⟩;(try dsimp only at hk hl hg ⊢);rcases Nat.lt_or_ge k p.routes.length with hlt|hge
  ·rw[zag hlt,List.map_cons]at hg
   have c1:=hc k hlt
   (have hX:=zA @hlen (zA @hbd (zA @hba @hgw));(repeat' first|refine zaa [0,1,2,3,4,5,6,7,8,16,19,20,21,22,37] fun K hK=>?_|(refine hK.go ?_;clear hK K)|with_reducible exact wT|refine wA ?_|(refine wB (fun h=>?_) (fun h=>?_)<;>first|exact wN h|subst (h:(_:Bool)=_)|skip)|(refine wQ ?_;clear hQ hR hE hM)|refine wC c1 ?_|fail);all_goals clear hX)
   refine ⟨(k+1,bs++[f (nth p.routes k)]),by dsimp only;omega,⟨by dsimp only;omega,by dsimp only;simp[hl],by dsimp only;rw[←hg];simp⟩,⟨by dsimp only;simp,by dsimp only;omega⟩,by dsimp only;simp⟩
  ·rw[List.drop_eq_nil_of_le hge,List.map_nil,List.append_nil]at hg
   (have hX:=zA @hlen (zA @hbd @hba);(repeat' first|refine zaa [0,1,2,3,4,5,6,7,8,16,19,20,21,22,37] fun K hK=>?_|(refine hK.go ?_;clear hK K)|with_reducible exact wT|refine wA ?_|(refine wB (fun h=>?_) (fun h=>?_)<;>first|exact wN h|subst (h:(_:Bool)=_)|skip)|(refine wQ ?_;clear hQ hR hE hM)|fail);all_goals clear hX)
   rw[hg]
 ·rw[show zga p s=[] by unfold zga;rw[if_neg hst]]
  rw[←hRe]at hst ⊢
  revert c0 hRl hst
  generalize ofR p s=R
  obtain ⟨G,Z,hg⟩:=zmn
  rw[←hg.eq]
  intro c0 hRl hst
  have hfold:=hg.fold
  have hlen0:=hg.len (.s0 4) hg.zl hg.zl
  have hlen:=hg.len (.sl 4 (R.ways.map Way.c)) hRl.1 hRl.2
  have hov:=hg.ov (.s0 4) (.sl 4 (R.ways.map Way.c)) hg.zl hg.zl hRl.1 hRl.2
  have hbd0:=hg.bd0 Z Z
  have hbd:=hg.bd R.hold R.ask (R.ways.map Way.c)
  have hba:=hg.ba R.hold R.ask (R.ways.map Way.c)
  refine PC.fn hH cd213 fun w0 M Q hM hE hQ hR=>?_;dsimp only[cd213,qm,ql,qf,qi,qb,qc,qp,qv,qN,qT,qF,qt]at hQ ⊢
  (have hX:=zA @hfold (zA @hlen0 (zA @hlen (zA @hov (zA @hbd0 (zA @hbd @hba)))));(repeat' first|refine zaa [0,1,2,3,4,5,6,7,8,16,19,20,21,22,37] fun K hK=>?_|(refine hK.go ?_;clear hK K)|with_reducible exact wT|refine wA ?_|(refine wB (fun h=>?_) (fun h=>?_)<;>first|exact wN h|subst (h:(_:Bool)=_)|skip)|(refine wQ ?_;clear hQ hR hE hM)|refine wC c0 ?_|fail);all_goals clear hX)
  all_goals first|rfl|(exfalso;contradiction)|skip
theorem is214_pc (hH:HasAll P inv) (n:Int) (x:Rte):PC P inv 214 ([.agg x.c]++[.ip 1 [[.n n]] 0 0]) (·=.b (decide (x.id=n))):=by
 refine PC.fn hH cd214 fun w0 M Q hM hE hQ hR=>?_;dsimp only[cd214,qm,ql,qf,qi,qb,qc,qp,qv,qN,qT,qF,qt]at hQ ⊢
 (repeat' first|refine zaa [0,1,2,3] fun K hK=>?_|(refine hK.go ?_;clear hK K)|with_reducible exact wT|refine wA ?_|(refine wB (fun h=>?_) (fun h=>?_)<;>first|exact wN h|subst (h:(_:Bool)=_)|skip)|(refine wQ ?_;clear hQ hR hE hM)|fail)
def rtIx (p:Pln) (n:Int):Int:=zbu (fun x=>decide (Rte.id x=n)) 0 p.routes
def isSgn (p:Pln) (n:Int):Bool:=p.signals.any fun x=>decide (x.id=n)
def prR (p:Pln) (s:State) (n:Int):Bool:=if rtIx p n<0 then false else zd3 p s (nth p.routes (rtIx p n).toNat)
def prC (p:Pln) (s:State) (n:Int):Int:=if zai p s=0 then (if rtIx p n<0 then 6 else 0) else zai p s
def goB (p:Pln) (s:State) (n:Int):Bool:=p.routes.any fun r=>decide (r.entry=n)&&zd3 p s r
def sgC (p:Pln) (s:State) (n:Int):Int:=if zai p s=0 then (if isSgn p n=true then 0 else 6) else zai p s
theorem zjh (hH:HasAll P inv) (hI:HasIds P inv) (p:Pln) (hp:Sm p) (s:State) (hs:SmS s) (n:Int):PC P inv 198 [.agg p.c,.agg s.c,.n n] (·=.tup [.b (decide (prC p s n=0)&&prR p s n),.n (prC p s n)]):=by
 have c0:=zht hH hI p hp s hs
 have c1:=zp3 hH p.routes (fun x _=>is214_pc hH n x) (Nat.le_trans hp.rte (by omega))
 have hrl:=hp.rte
 unfold prC prR
 by_cases hst:zai p s=0
 ·rw[hst]at c0
  simp only[if_pos hst]
  rw[show zga p s=zeU p s by unfold zga;rw[if_pos hst]]at c0
  have hix:rtIx p n=zbu (fun x=>decide (Rte.id x=n)) 0 p.routes:=rfl
  rcases zcY Rte.id n p.routes with ⟨h4,_⟩|⟨i,hi,h4,h5⟩
  ·rw[h4]at c1 hix
   rw[hix]
   generalize zeU p s=bs at *
   refine PC.fn hH cd198 fun w0 M Q hM hE hQ hR=>?_;dsimp only[cd198,qm,ql,qf,qi,qb,qc,qp,qv,qN,qT,qF,qt]at hQ ⊢
   (repeat' first|refine zaa [0,1,2,3,4,5,6,7,8,9,10,18,25] fun K hK=>?_|(refine hK.go ?_;clear hK K)|with_reducible exact wT|refine wA ?_|(refine wB (fun h=>?_) (fun h=>?_)<;>first|exact wN h|subst (h:(_:Bool)=_)|skip)|(refine wQ ?_;clear hQ hR hE hM)|refine wC c0 ?_|refine wS c1 ?_|fail)
   all_goals first|rfl|(exfalso;contradiction)|skip
  ·rw[h4]at c1 hix
   rw[hix,if_neg (show ¬((i:Nat):Int)<0 by omega),if_neg (show ¬((i:Nat):Int)<0 by omega),Int.toNat_natCast]
   have hl:(zeU p s).length=p.routes.length:=by simp[zeU]
   have hn:nth (zeU p s) i=zd3 p s (nth p.routes i):=nthm _ hi
   rw[←hn]
   generalize zeU p s=bs at *
   refine PC.fn hH cd198 fun w0 M Q hM hE hQ hR=>?_;dsimp only[cd198,qm,ql,qf,qi,qb,qc,qp,qv,qN,qT,qF,qt]at hQ ⊢
   (repeat' first|refine zaa [0,1,2,3,4,5,6,7,8,9,10,18,25] fun K hK=>?_|(refine hK.go ?_;clear hK K)|with_reducible exact wT|refine wA ?_|(refine wB (fun h=>?_) (fun h=>?_)<;>first|exact wN h|subst (h:(_:Bool)=_)|skip)|(refine wQ ?_;clear hQ hR hE hM)|refine wC c0 ?_|refine wS c1 ?_|fail)
   all_goals first|rfl|(exfalso;contradiction)|(exfalso;omega)|simp
 ·simp only[if_neg hst]
  rw[show zga p s=[] by unfold zga;rw[if_neg hst]]at c0
  generalize zai p s=e at c0 hst ⊢
  refine PC.fn hH cd198 fun w0 M Q hM hE hQ hR=>?_;dsimp only[cd198,qm,ql,qf,qi,qb,qc,qp,qv,qN,qT,qF,qt]at hQ ⊢
  (repeat' first|refine zaa [0,1,2,3,4,5,6,7,8,9,10,18,25] fun K hK=>?_|(refine hK.go ?_;clear hK K)|with_reducible exact wT|refine wA ?_|(refine wB (fun h=>?_) (fun h=>?_)<;>first|exact wN h|subst (h:(_:Bool)=_)|skip)|(refine wQ ?_;clear hQ hR hE hM)|refine wC c0 ?_|fail)
  all_goals first|rfl|(exfalso;contradiction)|simp[hst]
end Go.Lev
namespace Go.Lev
open Go.Eng
set_option maxRecDepth 10000
set_option maxHeartbeats 4000000
variable {P:Program} {inv:Nat→Option Nat} {w0:World} {M:Nat→Prop}
structure Shw where
 sig:Int
 asp:Int
 deriving DecidableEq,Inhabited
def Shw.c (x:Shw):List AV:=[.n x.sig,.i .u8 x.asp]
instance:Cells Shw.c 2:=⟨fun _=>rfl,fun _=>rfl⟩
attribute [go_sem] Shw.c
def goX (p:Pln) (f:Rte→Bool) (n:Int):Int:=zbu (fun r=>decide (r.entry=n)&&f r) 0 p.routes
def aspS (p:Pln) (f:Rte→Bool) (n:Int):Int:=if goX p f n<0 then 0 else if (nth p.routes (goX p f n).toNat).exit≠0∧0≤goX p f (nth p.routes (goX p f n).toNat).exit then 2 else 1
def shwL (p:Pln) (s:State):List Shw:=p.signals.map fun x=>⟨x.id,aspS p (zd3 p s) x.id⟩
def shwR (p:Pln) (s:State):List Shw:=if zai p s=0 then shwL p s else []
def callL (s:State):List Flk:=(s.switches.filter fun x=>!decide (x.call=0)).map fun x=>⟨x.id,x.call⟩
def callLR (p:Pln) (s:State):List Flk:=if zai p s=0 then callL s else []
end Go.Lev
namespace Go.Eng
structure TrainD where
 id:Int
 secs:List Int
 fr:Int
 ed:Int
 rt:Int
 pl:Int
 may:Int
 nx:Int
 deriving DecidableEq,Inhabited
def TrainD.c (t:TrainD):List AV:=[.n t.id,.sl 1 (t.secs.map zck),.n t.fr,.n t.ed,.n t.rt,.n t.pl,.n t.may,.n t.nx]
instance:Cells TrainD.c 8:=⟨fun _=>rfl,fun _=>rfl⟩
structure MoveD where
 kind:Int
 tr:Int
 sec:Int
 ed:Int
 deriving DecidableEq,Inhabited
def MoveD.c (m:MoveD):List AV:=[.i .u8 m.kind,.n m.tr,.n m.sec,.n m.ed]
instance:Cells MoveD.c 4:=⟨fun _=>rfl,fun _=>rfl⟩
attribute [go_sem] TrainD.c MoveD.c
end Go.Eng
namespace Go.Lev
open Go.Eng
def stn (p:Pln) (s:State):List AV:=p.c++s.c
def wld (l:List TrainD):List AV:=[.sl 8 (l.map TrainD.c)]
def zdz (p:Pln) (a b:Int):Bool:=decide ((zaw p.sections a).2=0)&&(zaw p.sections a).1.ends.any (fun j=>decide (j.to=b))
def sgL (a b:Int):List Sgn→Int→Int
 |[],v=>v
 |x::r,v=>sgL a b r (if x.sec=a∧x.ed=b then x.id else v)
def stC (p:Pln) (a b:Int):Int:=if zbA p=true then (zbf p.sections a b).2 else 8
def ze6 (p:Pln) (a b:Int):Int:=if stC p a b=0 then sgL a b p.signals 0 else 0
def prId (p:Pln) (s:State) (n:Int):Int:=if goX p (zd3 p s) n<0 then 0 else (nth p.routes (goX p (zd3 p s) n).toNat).id
def trE (p:Pln) (t:TrainD):Bool :=
 cond (decide (t.may=0)) (decide (t.nx=0)) (cond (decide ((zcK p t.nx).2=0)) (decide (ze6 p (nth t.secs 0) t.ed=(zcK p t.nx).1.entry)) false)
def trG (p:Pln) (t:TrainD):Bool:=cond (!decide (t.rt=0)) false (cond (!decide (t.pl=0)) false (trE p t))
def trF (p:Pln) (s:State) (t:TrainD):Bool :=
 cond (decide ((t.secs.length:Int)<1)) false (cond (decide (4<(t.secs.length:Int))) false (cond (decide (t.may<0)) false (cond (decide (9<t.may)) false
 (zbs (fun i (_:Unit) zbf=>cond (!decide ((zaw p.sections (nth t.secs i)).2=0)) false (cond (decide (zdj s (nth t.secs i)=0)) false (cond (decide (0<(i:Int))) (cond (!zdz p (nth t.secs (i-1)) (nth t.secs i)) false (zbf ())) (zbf ()))))
  (fun _=>cond (!decide ((zbH (zaw p.sections (nth t.secs 0)).1 t.fr t.ed).2=0)) false
   (cond (decide ((ofW p t.rt).2=0)) (cond (decide (0≤t.pl)) (cond (decide (t.pl<((ofW p t.rt).1.path.length:Int))) (cond (!decide (nth (ofW p t.rt).1.path t.pl.toNat=nth t.secs 0)) (trG p t) (trE p t)) (trG p t)) (trG p t)) (trG p t)))
  t.secs.length 0 ()))))
def zpF (s:State) (n:Int):Int:=match s.switches.find? fun t=>decide (t.id=n) with|some t=>t.lie|none=>0
end Go.Lev
namespace Go.Lev
open Go.Eng
def ckM (t:TrainD) (m:List (Int×Int)) (zbf:List (Int×Int)→Int):Int :=
 zbs (fun k (m:List (Int×Int)) next2=>cond (decide (0<zeM m (nth t.secs k))) 8 (next2 (zks m (nth t.secs k) 1))) (fun m=>zbf m) t.secs.length 0 m
def ckT (p:Pln) (s:State) (t:TrainD) (m:List (Int×Int)) (zbf:List (Int×Int)→Int):Int:=cond (!trF p s t) 8 (ckM t m zbf)
def ckF (p:Pln) (s:State) (l:List TrainD):Int :=
 zbs (fun i (m:List (Int×Int)) zbf=>cond (decide ((nth l i).id<1)) 8 (cond (decide (99<(nth l i).id)) 8
   (cond (decide (0<(i:Int))) (cond (decide ((nth l i).id≤(nth l (i-1)).id)) 8 (ckT p s (nth l i) m zbf)) (ckT p s (nth l i) m zbf))))
  (fun _=>cond (decide (8<(l.length:Int))) 8 0) l.length 0 []
def ckC (p:Pln) (s:State) (l:List TrainD):Int:=if zai p s=0 then ckF p s l else zai p s
def zcN (l:List TrainD) (n:Int):Int:=zbu (fun t=>decide (t.id=n)) 0 l
def zoE (a:Int×Int):List AV:=[.i .u8 1,.n a.1,.n a.2,.s0 1]
def zge (l:List TrainD) (t:TrainD):List TrainD:=l.takeWhile (fun x=>decide (x.id<t.id))++t::l.dropWhile (fun x=>decide (x.id<t.id))
def zop (m:MoveD) (S:Section):TrainD:=⟨m.tr,[S.id],1-m.ed,m.ed,0,0,0,0⟩
def tailC (t:TrainD):Int:=if t.secs.length=1 then 2 else 0
def znu (t:TrainD):TrainD:={ t with secs:=t.secs.take (t.secs.length-1) }
def turnC (t:TrainD):Int:=if 1<t.secs.length then 2 else 0
def zbk (t:TrainD):TrainD:=⟨t.id,t.secs,t.ed,t.fr,0,0,0,0⟩
end Go.Lev
namespace Go.Lev
open Go.Eng
def goT (p:Pln) (s:State) (t:TrainD):Int×Int×Bool :=
 if (ofW p t.rt).2=0∧t.pl<((ofW p t.rt).1.path.length:Int)-1 then (t.rt,t.pl+1,true) else
 if ze6 p (nth t.secs 0) t.ed=0 then (0,0,false) else
 if 0<prId p s (ze6 p (nth t.secs 0) t.ed) then (prId p s (ze6 p (nth t.secs 0) t.ed),0,true) else (t.nx,0,decide (0<t.may))
def nxJ (p:Pln) (t:TrainD):Join×Int:=zbf p.sections (nth t.secs 0) t.ed
def nxS (p:Pln) (t:TrainD):Section×Int:=zaw p.sections (nxJ p t).1.to
def nxE (p:Pln) (s:State) (t:TrainD):Int×Int:=outR (nxS p t).1 (nxJ p t).1.ed (zpF s (nxS p t).1.pt)
def zgF (p:Pln) (s:State) (t:TrainD):TrainD:=⟨t.id,(nxS p t).1.id::t.secs,(nxJ p t).1.ed,(nxE p s t).1,(goT p s t).1,(goT p s t).2.1,0,0⟩
def goneC (p:Pln) (t:TrainD):Int:=if 1<t.secs.length∨¬(nxJ p t).2=0∨¬(nxJ p t).1.to=0 then 2 else 0
end Go.Lev
namespace Go.Lev
open Go.Eng
theorem isOf_at {p:Pln} {s:State} (ho:OkP p) (h:zao p s=true) {k:Nat} (hk:k<s.tracks.length):zdj s (nth s.tracks k).id=(nth s.tracks k).is:=by
 unfold zdj
 rw[zjC Track.id (by rw[zoB h];exact zj4 ho) hk rfl]
def peF (p:Pln) (s:State) (n e a g m:Int):Bool :=
 zbs (fun i _ zbf=>cond (!decide ((nth p.points i).id=n)) (zbf ())
   (cond (!decide (a=0)) (decide (e=170))
    (zbs (fun k _ next2=>cond (decide ((nth s.tracks k).id=(nth p.points i).sec)&&!decide ((nth s.tracks k).is=0)) (decide (e=171)) (next2 ()))
     (fun _=>decide (e=0)&&decide (g=0)&&decide (m=0)) s.tracks.length 0 ())))
  (fun _=>decide (e=6)) p.points.length 0 ()
def pfF (p:Pln) (s:State) (n v e a c:Int):Bool :=
 zbs (fun i (st:Bool×Int) zbf=>cond (!decide ((nth p.points i).id=n)) (zbf st)
   (zbs (fun k (fr:Bool) next2=>next2 (fr||decide ((nth s.tracks k).id=(nth p.points i).sec)&&decide ((nth s.tracks k).is=0)))
    (fun fr=>zbf (fr,(i:Int))) s.tracks.length 0 st.1))
  (fun st=>cond (!decide (decide (e=0)=(decide (0≤st.2)&&(decide (v=1)||decide (v=2))&&decide (c=0)&&decide (a=0)&&st.1))) false true) p.points.length 0 (false,-1)
end Go.Lev
namespace Go.Lev
open Go.Eng
theorem zkp:∀ (l:List AskR) (m:List Bool),m.length=100→(∀ a∈l,0≤a.pnt∧a.pnt≤99)→(zkq m l=true↔(∀ a∈l,nth m a.pnt.toNat=false)∧(l.map AskR.pnt).Nodup)
 |[],m,_,_=>by simp[zkq]
 |a::r,m,hm,hr=>by
  have h0:=hr a (by simp)
  have ih:=zkp r (m.set a.pnt.toNat true) (by simpa using hm) fun b hb=>hr b (by simp[hb])
  rw[zkq,Bool.and_eq_true,ih]
  simp only[List.map_cons,List.nodup_cons,List.mem_cons,forall_eq_or_imp,Bool.not_eq_true',List.mem_map,not_exists,not_and]
  have key:∀ b∈r,nth (m.set a.pnt.toNat true) b.pnt.toNat=false↔(nth m b.pnt.toNat=false∧b.pnt≠a.pnt):=fun b hb=>by
   have hb':=hr b (by simp[hb])
   rw[zbg _ _ _ _ (by omega)]
   by_cases e:b.pnt=a.pnt
   ·rw[e,if_pos rfl];simp
   ·rw[if_neg (by omega)];simp[e]
  constructor
  ·rintro ⟨h1,h2,h3⟩
   exact ⟨⟨h1,fun b hb=>((key b hb).1 (h2 b hb)).1⟩,fun b hb=>((key b hb).1 (h2 b hb)).2,h3⟩
  ·rintro ⟨⟨h1,h2⟩,h3,h4⟩
   exact ⟨h1,fun b hb=>(key b hb).2 ⟨h2 b hb,h3 b hb⟩,h4⟩
theorem once_iff {l:List AskR} (h:∀ a∈l,0≤a.pnt∧a.pnt≤99):once l=true↔(l.map AskR.pnt).Nodup:=by
 unfold once
 rw[zkp l _ (by simp) h]
 constructor
 ·exact fun h=>h.2
 ·intro h2
  exact ⟨fun a ha=>by have:=h a ha;exact zhD _ _ _ (by omega),h2⟩
theorem zgm {p:Pln} (ho:zbE p=true) {r:Rte} (hr:r∈p.routes):((zaq p r).1.asks.map AskR.pnt).Nodup:=by
 obtain ⟨hok,_,h3⟩:=zb6 ho
 have:=h3 r hr
 simp only[zc8,Bool.and_eq_true]at this
 exact (once_iff fun a ha=>by have:=zcC hok hr ha;omega).1 this.1
def zeQ (l:List Switch) (n:Int):Int:=zeM (zfU [] l) n
theorem zoa (l:List Switch) {n m:Int} (v:Int) (h:m≠n):zeQ (zeR Switch.id n (fun t=>⟨t.id,t.lie,v⟩) l) m=zeQ l m:=zjq n v m h l [] [] rfl
theorem zqJ {l:List Switch} (hn:(l.map Switch.id).Nodup) {n:Int} (v:Int) (h:n∈l.map Switch.id):zeQ (zeR Switch.id n (fun t=>⟨t.id,t.lie,v⟩) l) n=v:=by
 obtain ⟨x,hx,e⟩:=List.mem_map.1 h
 have h1:(⟨x.id,x.lie,v⟩:Switch)∈zeR Switch.id n (fun t=>⟨t.id,t.lie,v⟩) l:=by
  unfold zeR
  exact List.mem_map.2 ⟨x,hx,by rw[if_pos e]⟩
 have:=zpC (zeR Switch.id n (fun t=>⟨t.id,t.lie,v⟩) l) [] (by rw[ziW Switch.id n (fun t=>⟨t.id,t.lie,v⟩) (fun _=>rfl)];exact hn) _ h1
 dsimp only at this
 rw[e]at this
 exact this
theorem zgj:∀ (q:List AskR) (l:List Switch) {n:Int},(∀ a∈q,a.pnt≠n)→zeQ (zcf q l) n=zeQ l n
 |[],_,_,_=>rfl
 |a::q,l,n,h=>by
  show zeQ (zcf q (zeR Switch.id a.pnt (fun t=>⟨t.id,t.lie,a.lie⟩) l)) n=_
  rw[zgj q _ fun b hb=>h b (by simp[hb]),zoa l a.lie (fun e=>h a (by simp) e.symm)]
theorem zfM:∀ (q:List AskR) (l:List Switch),(l.map Switch.id).Nodup→(q.map AskR.pnt).Nodup→∀ a∈q,a.pnt∈l.map Switch.id→zeQ (zcf q l) a.pnt=a.lie
 |[],_,_,_,a,ha,_=>by cases ha
 |b::q,l,hl,hq,a,ha,hi=>by
  simp only[List.map_cons,List.nodup_cons]at hq
  show zeQ (zcf q (zeR Switch.id b.pnt (fun t=>⟨t.id,t.lie,b.lie⟩) l)) a.pnt=_
  rcases List.mem_cons.1 ha with rfl|ha
  ·rw[zgj q _ fun c hc e=>hq.1 (by rw[←e];exact List.mem_map_of_mem hc),zqJ hl _ hi]
  ·refine zfM q _ (by rw[ziW Switch.id b.pnt (fun t=>⟨t.id,t.lie,b.lie⟩) (fun _=>rfl)];exact hl) hq.2 a ha ?_
   rw[ziW Switch.id b.pnt (fun t=>⟨t.id,t.lie,b.lie⟩) (fun _=>rfl)];exact hi
end Go.Lev
namespace Go.Lev
open Go.Eng
theorem zov {p:Pln} {s:State} (h:zao p s=true):(zof p s).length=s.locks.length:=by
 have:=zaS h
 simp only[zof,List.length_zip,za8,List.length_map]
 omega
theorem zfW {p:Pln} {s:State} (h:zao p s=true) {i:Nat} (hi:i<(zof p s).length):(zof p s)[i]=((zaq p (nth p.routes i)).1,nth s.locks i):=by
 have h1:=zov h
 have h2:=zaS h
 simp[zof,za8,zay (show i<p.routes.length by omega),zay (show i<s.locks.length by omega)]
theorem zkW {p:Pln} {s:State} (h:zao p s=true):zmp (zof p s)↔∀ i j,i<s.locks.length→j<s.locks.length→i≠j→∀ m∈zm3 p s i,m∉zm3 p s j:=by
 have hl:=zov h
 unfold zmp
 rw[List.pairwise_iff_getElem]
 constructor
 ·intro hp i j hi hj hne m hm hm'
  rcases Nat.lt_trichotomy i j with hlt|e|hlt
  ·have:=hp i j (by omega) (by omega) hlt
   rw[zfW h,zfW h]at this
   exact this m hm hm'
  ·exact hne e
  ·have:=hp j i (by omega) (by omega) hlt
   rw[zfW h,zfW h]at this
   exact this m hm' hm
 ·intro hp i j hi hj hlt
  rw[zfW h,zfW h]
  exact hp i j (by omega) (by omega) (by omega)
theorem zgB {p:Pln} {s:State} (h:zao p s=true):znm s (zof p s)↔∀ i,i<s.locks.length→∀ a∈zqO p s i,zee s a.pnt=a.lie:=by
 have h2:=zaS h
 constructor
 ·intro hp i hi a ha
  exact hp _ (zof_at h (by omega)) a ha
 ·intro hp z hz a ha
  obtain ⟨i,r,_,hi,e1,e2,_,e3,_⟩:=zfV h hz
  refine hp i (by omega) a ?_
  unfold zqO
  rw[e1,e2,←e3]
  exact ha
theorem zj0 {p:Pln} {s:State}:zai p s=0↔zbE p=true∧zao p s=true∧(∀ i j,i<s.locks.length→j<s.locks.length→i≠j→∀ m∈zm3 p s i,m∉zm3 p s j)∧∀ i,i<s.locks.length→∀ a∈zqO p s i,zee s a.pnt=a.lie:=by
 rw[zfY]
 constructor
 ·rintro ⟨h1,h2,h3,h4⟩;exact ⟨h1,h2,(zkW h2).1 h3,(zgB h2).1 h4⟩
 ·rintro ⟨h1,h2,h3,h4⟩;exact ⟨h1,h2,(zkW h2).2 h3,(zgB h2).2 h4⟩
theorem zkR (s:State) (n:Int):zee s n=zeQ s.switches n:=rfl
theorem zn8 (q:List AskR):∀ (l:List Switch) (k:Nat),k<l.length→(nth (zcf q l) k).id=(nth l k).id∧(nth (zcf q l) k).lie=(nth l k).lie∧((nth (zcf q l) k).call=(nth l k).call∨∃ a∈q,a.pnt=(nth l k).id∧(nth (zcf q l) k).call=a.lie):=by
 induction q with
 |nil=>intro l k _;exact ⟨rfl,rfl,.inl rfl⟩
 |cons b q ih =>
  intro l k hk
  have h1:=ih (zeR Switch.id b.pnt (fun t=>⟨t.id,t.lie,b.lie⟩) l) k (by rw[zcO];exact hk)
  have h2:nth (zeR Switch.id b.pnt (fun t=>(⟨t.id,t.lie,b.lie⟩:Switch)) l) k=if (nth l k).id=b.pnt then ⟨(nth l k).id,(nth l k).lie,b.lie⟩ else nth l k:=by
   unfold zeR
   exact nthm (fun x=>if Switch.id x=b.pnt then (⟨x.id,x.lie,b.lie⟩:Switch) else x) hk
  rw[show zcf (b::q) l=zcf q (zeR Switch.id b.pnt (fun t=>⟨t.id,t.lie,b.lie⟩) l) from rfl]
  rw[h2]at h1
  by_cases e:(nth l k).id=b.pnt
  ·rw[if_pos e]at h1
   dsimp only at h1
   refine ⟨h1.1,h1.2.1,.inr ?_⟩
   rcases h1.2.2 with h3|⟨a,ha,h3,h4⟩
   ·exact ⟨b,by simp,e.symm,h3⟩
   ·exact ⟨a,by simp[ha],h3,h4⟩
  ·rw[if_neg e]at h1
   refine ⟨h1.1,h1.2.1, ?_⟩
   rcases h1.2.2 with h3|⟨a,ha,h3,h4⟩
   ·exact .inl h3
   ·exact .inr ⟨a,by simp[ha],h3,h4⟩
section
variable {p:Pln} {s:State} {i:Nat} (h:zai p s=0) (hi:i<s.locks.length) (hph:(nth s.locks i).phase=0)
include h hi
theorem zfj {n:Int} (hid:(nth s.locks i).id=n) (q:List AskR) {j:Nat} (hj:j<s.locks.length):nth (zi7 s n q).locks j=if j=i then ⟨n,1,(nth s.locks i).gone,(nth s.locks i).left⟩ else nth s.locks j:=by
 show nth (zeR Lock.id n (fun l=>⟨l.id,1,l.gone,l.left⟩) s.locks) j=_
 have h2:nth (zeR Lock.id n (fun l=>(⟨l.id,1,l.gone,l.left⟩:Lock)) s.locks) j=if (nth s.locks j).id=n then ⟨(nth s.locks j).id,1,(nth s.locks j).gone,(nth s.locks j).left⟩ else nth s.locks j:=by
  unfold zeR
  exact nthm (fun x=>if Lock.id x=n then (⟨x.id,1,x.gone,x.left⟩:Lock) else x) hj
 rw[h2]
 by_cases e:j=i
 ·subst e;rw[if_pos hid,if_pos rfl,hid]
 ·rw[if_neg e,if_neg (fun e2=>e (zlM h hj hi (e2.trans hid.symm)))]
include hph
theorem zfp:(nth s.locks i).gone=0∧(nth s.locks i).left=0:=by
 have:=zmW (zar h).2.1 hi
 simp only[zeZ,zd7,hph,Bool.and_eq_true]at this
 simpa using this.2
theorem znB {n:Int} (hid:(nth s.locks i).id=n):zao p (zi7 s n (zaq p (nth p.routes i)).1.asks)=true:=by
 have hpa:=(zar h).2.1
 have hok:=zaH h
 have hl:=zaS hpa
 have hp2:=hpa
 unfold zao at hpa ⊢
 simp only[Bool.and_eq_true,zdl]at hpa ⊢
 refine ⟨hpa.1,⟨by show (zcf _ _).length=_;rw[ziN];exact hpa.2.1.1,fun k hk=>?_⟩,by show (zeR _ _ _ _).length=_;rw[zcO];exact hpa.2.2.1,fun k hk=>?_⟩
 ·have hk':k<s.switches.length:=by have:k<(zcf (zaq p (nth p.routes i)).1.asks s.switches).length:=hk;rw[ziN]at this;exact this
  have h1:=hpa.2.1.2 k hk'
  have h2:=zn8 (zaq p (nth p.routes i)).1.asks s.switches k hk'
  show zjX (nth (zcf _ s.switches) k) _=true
  simp only[zjX,zgc,Bool.and_eq_true,decide_eq_true_eq]at h1 ⊢
  refine ⟨h2.1.trans h1.1,by rw[h2.2.1];exact h1.2.1, ?_⟩
  rcases h2.2.2 with e|⟨a,ha,_,e⟩
  ·rw[e];exact h1.2.2
  ·have:=(zcC hok (zae (show i<p.routes.length by omega)) ha).2.2
   rw[e];omega
 ·have hk':k<s.locks.length:=by have:k<(zeR Lock.id n (fun l=>(⟨l.id,1,l.gone,l.left⟩:Lock)) s.locks).length:=hk;rw[zcO]at this;exact this
  rw[zfj h hi hid _ hk']
  have h1:=hpa.2.2.2 k hk'
  split
  ·rename_i e
   subst e
   have hr:=zfp h hi hph
   simp only[zeZ,zd7,Bool.and_eq_true,decide_eq_true_eq]at h1 ⊢
   refine ⟨hid▸h1.1, ?_⟩
   simp[hr.1,hr.2]
  ·exact h1
theorem zo2 {n:Int} (hid:(nth s.locks i).id=n) (hf:∀ m∈(zaq p (nth p.routes i)).1.path++(zaq p (nth p.routes i)).1.over,nth (zaW p s).1 m.toNat=0)
  (hk:∀ a∈(zaq p (nth p.routes i)).1.asks,zee s a.pnt=a.lie∨nth (zaW p s).2.1 a.pnt.toNat=0):zai p (zi7 s n (zaq p (nth p.routes i)).1.asks)=0:=by
 have h':=zj0.1 h
 obtain ⟨h1,h2,h3,h4⟩:=h'
 have hok:=zaH h
 have hl:=zaS h2
 have hr:=zfp h hi hph
 have hsl:(zi7 s n (zaq p (nth p.routes i)).1.asks).locks.length=s.locks.length:=zcO _ _ _ _
 have hwr:nth p.routes i∈p.routes:=zae (by omega)
 have hd:∀ j,j<s.locks.length→zm3 p (zi7 s n (zaq p (nth p.routes i)).1.asks) j=if j=i then (zaq p (nth p.routes i)).1.path++(zaq p (nth p.routes i)).1.over else zm3 p s j:=fun j hj=>by
  unfold zm3
  rw[zfj h hi hid _ hj]
  by_cases e:j=i
  ·subst e
   rw[if_pos rfl,if_pos rfl]
   unfold zbN
   rw[if_neg (by dsimp only;omega)]
   dsimp only
   rw[hr.1];rfl
  ·rw[if_neg e,if_neg e]
 have ha:∀ j,j<s.locks.length→zqO p (zi7 s n (zaq p (nth p.routes i)).1.asks) j=if j=i then (zaq p (nth p.routes i)).1.asks else zqO p s j:=fun j hj=>by
  unfold zqO
  rw[zfj h hi hid _ hj]
  by_cases e:j=i
  ·subst e
   rw[if_pos rfl,if_pos rfl]
   unfold zb8
   rw[if_neg (by dsimp only;omega)]
   refine List.filter_eq_self.2 fun a _=>?_
   simp only[zc4,hr.1,Bool.or_eq_true,decide_eq_true_eq]
   omega
  ·rw[if_neg e,if_neg e]
 have hnd:(s.switches.map Switch.id).Nodup:=by rw[zg1 h2];exact zkk hok
 refine zj0.2 ⟨h1,znB h hi hph hid,fun a b ha' hb' hne m hm hm'=>?_,fun j hj a haj=>?_⟩
 ·rw[hsl]at ha' hb'
  rw[hd a ha']at hm
  rw[hd b hb']at hm'
  have free:∀ j,j<s.locks.length→∀ m∈(zaq p (nth p.routes i)).1.path++(zaq p (nth p.routes i)).1.over,m∉zm3 p s j:=fun j hj m hm hm'=>by
   have e1:=hf m hm
   have e2:=zlV h (zhy h hj) hm'
   have:=zlL h hj
   rw[e1]at e2
   dsimp only at e2
   omega
  by_cases e:a=i
  ·rw[if_pos e]at hm
   rw[if_neg (fun e2=>hne (e.trans e2.symm))]at hm'
   exact free b hb' m hm hm'
  ·rw[if_neg e]at hm
   by_cases e2:b=i
   ·rw[if_pos e2]at hm'
    exact free a ha' m hm' hm
   ·rw[if_neg e2]at hm'
    exact h3 a b ha' hb' hne m hm hm'
 ·rw[hsl]at hj
  rw[ha j hj]at haj
  rw[zkR]
  show zeQ (zcf _ s.switches) a.pnt=_
  by_cases e:j=i
  ·rw[if_pos e]at haj
   refine zfM _ _ hnd (zgm h1 hwr) a haj ?_
   obtain ⟨x,hx,ex⟩:=(zcC hok hwr haj).1
   rw[zg1 h2,←ex]
   exact List.mem_map_of_mem hx
  ·rw[if_neg e]at haj
   have h5:=h4 j hj a haj
   rcases Classical.em (∃ b∈(zaq p (nth p.routes i)).1.asks,b.pnt=a.pnt) with ⟨b,hb,eb⟩|hno
   ·have h6:=zfM _ s.switches hnd (zgm h1 hwr) b hb (by
     obtain ⟨x,hx,ex⟩:=(zcC hok hwr hb).1
     rw[zg1 h2,←ex]
     exact List.mem_map_of_mem hx)
    rw[←eb,h6]
    rcases hk b hb with h7|h7
    ·rw[←h7,eb];exact h5
    ·rw[eb,ask_is h hj haj]at h7
     have:=zpE h hj haj
     omega
   ·rw[zgj _ _ fun b hb e=>hno ⟨b,hb,e⟩]
    exact h5
end
end Go.Lev
namespace Go.Lev
open Go.Eng
theorem zqm {p:Pln} {s:State} (ho:OkP p) (h:zao p s=true) (n:Int):frT s n=decide (zdj s n=0):=by
 rw[Bool.eq_iff_iff,decide_eq_true_eq]
 constructor
 ·intro h1
  obtain ⟨x,hx,e⟩:=List.any_eq_true.1 h1
  simp only[Bool.and_eq_true,decide_eq_true_eq]at e
  obtain ⟨k,hk,rfl⟩:=mem_nth hx
  rw[e.1,isOf_at ho h hk];exact e.2.symm
 ·intro h1
  unfold zdj at h1
  cases e:s.tracks.find? fun t=>decide (t.id=n) with
  |none=>rw[e]at h1;exact absurd h1 (by decide)
  |some t =>
   rw[e]at h1
   have h2:=List.find?_some e
   exact List.any_eq_true.2 ⟨t,List.mem_of_find?_eq_some e,by
    simp only[Bool.and_eq_true,decide_eq_true_eq]
    exact ⟨(show t.id=n by simpa using h2).symm,h1.symm⟩⟩
theorem zpD {p:Pln} {s:State} (h:zai p s=0) {i:Nat} (hi:i<s.locks.length) {n:Int} (hid:(nth s.locks i).id=n):zk3 s n=(i:Int):=by
 unfold zk3
 rcases zcY Lock.id n s.locks with ⟨_,h4⟩|⟨k,hk,h4,h5⟩
 ·exact absurd hid (h4 _ (zae hi))
 ·rw[h4,zlM h hk hi (h5.trans hid.symm)]
theorem lkC_at {p:Pln} {s:State} (h:zai p s=0) {i:Nat} (hi:i<s.locks.length) {n:Int} (hid:(nth s.locks i).id=n):lkC p s n=if (nth s.locks i).phase=0 then setE p s i else 180:=by
 unfold lkC
 rw[if_pos h,zpD h hi hid,if_neg (by omega),Int.toNat_natCast]
theorem lkC_no {p:Pln} {s:State} (h:zai p s=0) {n:Int} (hid:∀ x∈s.locks,x.id≠n):lkC p s n=6:=by
 unfold lkC
 rw[if_pos h,if_pos]
 unfold zk3
 rcases zcY Lock.id n s.locks with ⟨h3,_⟩|⟨k,hk,h4,h5⟩
 ·rw[h3];decide
 ·exact absurd h5 (hid _ (zae hk))
def leF (p:Pln) (s:State) (n e:Int) (w:WayR) (H A:Int→Int):Bool :=
 zbs (fun i _ zbf=>cond (!decide ((nth s.locks i).id=n)) (zbf ())
   (cond (!decide ((nth s.locks i).phase=0)) (decide (e=180))
    (zbs (fun k _ next2=>cond (!decide (H (nth (w.path++w.over) k)=0)) (decide (e=181)) (cond (!decide (zdj s (nth (w.path++w.over) k)=0)) (decide (e=182)) (next2 ())))
     (fun _=>zbs (fun k _ next3 =>
       zbs (fun m _ next4=>cond (decide ((nth s.switches m).id=(nth w.asks k).pnt)&&!decide ((nth s.switches m).call=(nth w.asks k).lie)&&(!decide (A (nth s.switches m).id=0)||!decide (zdj s (nth p.points m).sec=0))) (decide (e=183)) (next4 ()))
        (fun _=>next3 ()) s.switches.length 0 ())
      (fun _=>decide (e=0)) w.asks.length 0 ()) (w.path++w.over).length 0 ())))
  (fun _=>decide (e=6)) s.locks.length 0 ()
end Go.Lev
namespace Go.Lev
open Go.Eng
theorem zjs {H:List Int} {fr:Int→Bool}:∀ {l:List Int},zlK H fr l=0↔∀ x∈l,nth H x.toNat=0∧fr x=true
 |[]=>by simp[zlK]
 |x::r=>by
  rw[zlK]
  constructor
  ·intro h
   split at h
   ·rename_i h1
    split at h
    ·rename_i h2
     intro y hy
     rcases List.mem_cons.1 hy with rfl|hy
     ·exact ⟨h1,h2⟩
     ·exact zjs.1 h y hy
    ·cases h
   ·cases h
  ·intro h
   obtain ⟨h1,h2⟩:=h x (by simp)
   rw[if_pos h1,if_pos h2]
   exact zjs.2 fun y hy=>h y (by simp[hy])
def zeI (p:Pln) (i:Nat):List Int:=(zaq p (nth p.routes i)).1.path++(zaq p (nth p.routes i)).1.over
def zco (p:Pln) (i:Nat):List AskR:=(zaq p (nth p.routes i)).1.asks
structure MaySet (p:Pln) (s:State) (n:Int) (i:Nat):Prop where
 st:zai p s=0
 lt:i<s.locks.length
 id:(nth s.locks i).id=n
 ph:(nth s.locks i).phase=0
 sec:∀ x∈zeI p i,nth (zaW p s).1 x.toNat=0∧zdj s x=0
 ask:∀ a∈zco p i,zee s a.pnt=a.lie∨(nth (zaW p s).2.1 a.pnt.toNat=0∧zdj s (zkl p a.pnt)=0)
theorem zkV {p:Pln} {s:State} (ho:OkP p) (h:zao p s=true) {A:List Int} {a:AskR}:askFr p s A a=true↔zee s a.pnt=a.lie∨(nth A a.pnt.toNat=0∧zdj s (zkl p a.pnt)=0):=by
 unfold askFr
 rw[zqm ho h]
 simp
theorem lkC_iff {p:Pln} {s:State} {n:Int}:lkC p s n=0↔∃ i,MaySet p s n i:=by
 constructor
 ·intro h
  have hst:zai p s=0:=by
   unfold lkC at h
   split at h
   ·assumption
   ·exact h
  rcases zcY Lock.id n s.locks with ⟨_,hno⟩|⟨i,hi,_,hid⟩
  ·rw[lkC_no hst hno]at h;cases h
  ·rw[lkC_at hst hi hid]at h
   split at h
   ·rename_i hph
    unfold setE at h
    have ho:=zaH hst
    have hpa:=(zar hst).2.1
    split at h
    ·rename_i h1
     split at h
     ·rename_i h2
      refine ⟨i,hst,hi,hid,hph,fun x hx=>?_,fun a ha=>(zkV ho hpa).1 (List.all_eq_true.1 h2 a ha)⟩
      have:=zjs.1 h1 x hx
      rw[zqm ho hpa,decide_eq_true_eq]at this
      exact this
     ·cases h
    ·rename_i h1;exact absurd h h1
   ·cases h
 ·rintro ⟨i,hst,hi,hid,hph,h1,h2⟩
  have ho:=zaH hst
  have hpa:=(zar hst).2.1
  rw[lkC_at hst hi hid,if_pos hph]
  unfold setE
  have h3:zlK (zaW p s).1 (frT s) ((zaq p (nth p.routes i)).1.path++(zaq p (nth p.routes i)).1.over)=0:=zjs.2 fun x hx=>by
   rw[zqm ho hpa,decide_eq_true_eq];exact h1 x hx
  have h4:(zaq p (nth p.routes i)).1.asks.all (askFr p s (zaW p s).2.1)=true:=List.all_eq_true.2 fun a ha=>(zkV ho hpa).2 (h2 a ha)
  rw[if_pos h3,if_pos h4]
section
variable {p:Pln} {s:State} {n:Int} {i:Nat} (h:MaySet p s n i)
include h
theorem MaySet.lkW:lkW p s n=(zaq p (nth p.routes i)).1:=by
 unfold Go.Lev.lkW
 rw[if_pos h.st,zpD h.st h.lt h.id,if_neg (by omega),Int.toNat_natCast,if_pos h.ph]
theorem MaySet.lkS:lkS p s n=zi7 s n (zco p i):=by
 unfold Go.Lev.lkS
 rw[if_pos (lkC_iff.2 ⟨i,h⟩),h.lkW]
 rfl
theorem MaySet.code:zai p (zi7 s n (zco p i))=0:=zo2 h.st h.lt h.ph h.id (fun m hm=>(h.sec m hm).1) fun a ha=>by
 rcases h.ask a ha with h1|h1
 ·exact .inl h1
 ·exact .inr h1.1
theorem MaySet.lock {j:Nat} (hj:j<s.locks.length):nth (zi7 s n (zco p i)).locks j=if j=i then ⟨n,1,0,0⟩ else nth s.locks j:=by
 rw[zfj h.st h.lt h.id _ hj,(zfp h.st h.lt h.ph).1,(zfp h.st h.lt h.ph).2]
theorem zmG (q:List AskR):(zi7 s n q).locks.length=s.locks.length:=zcO _ _ _ _
theorem MaySet.hd {j:Nat} (hj:j<s.locks.length):zm3 p (zi7 s n (zco p i)) j=if j=i then zeI p i else zm3 p s j:=by
 unfold zm3
 rw[h.lock hj]
 by_cases e:j=i
 ·subst e
  rw[if_pos rfl,if_pos rfl]
  unfold zbN
  rw[if_neg (by dsimp only;omega)]
  rfl
 ·rw[if_neg e,if_neg e]
theorem MaySet.as {j:Nat} (hj:j<s.locks.length):zqO p (zi7 s n (zco p i)) j=if j=i then zco p i else zqO p s j:=by
 unfold zqO
 rw[h.lock hj]
 by_cases e:j=i
 ·subst e
  rw[if_pos rfl,if_pos rfl]
  unfold zb8
  rw[if_neg (by dsimp only;omega)]
  refine List.filter_eq_self.2 fun a _=>?_
  simp only[zc4,Bool.or_eq_true,decide_eq_true_eq]
  omega
 ·rw[if_neg e,if_neg e]
theorem MaySet.rt:nth p.routes i∈p.routes:=by
 have:=zaS (zar h.st).2.1
 have:=h.lt
 exact zae (by omega)
theorem MaySet.secR {x:Int} (hx:x∈zeI p i):zlQ p x=true∧0≤x:=by
 have ho:=zaH h.st
 have hwp:=zei ((zb6 (zar h.st).1).2.1 _ h.rt)
 unfold zeI at hx
 rw[hwp.1,hwp.2.1]at hx
 obtain ⟨q,hq,e⟩:=(zgM ho h.rt).1 x hx
 have:=zfl ho hq
 exact ⟨List.any_eq_true.2 ⟨q,hq,by simpa using e⟩,by omega⟩
theorem MaySet.holds {x:Int} (hx:x∈zeI p i):nth (zaW p (zi7 s n (zco p i))).1 x.toNat=n:=by
 have hi':i<(zi7 s n (zco p i)).locks.length:=by rw[zmG h];exact h.lt
 have:=(hold_iff h.code hi' (h.secR hx).2).2 (by rw[h.hd h.lt,if_pos rfl];exact hx)
 rw[this,h.lock h.lt,if_pos rfl]
theorem MaySet.asks {a:AskR} (ha:a∈zco p i):nth (zaW p (zi7 s n (zco p i))).2.1 a.pnt.toNat=a.lie:=by
 have hi':i<(zi7 s n (zco p i)).locks.length:=by rw[zmG h];exact h.lt
 exact ask_is h.code hi' (by rw[h.as h.lt,if_pos rfl];exact ha)
theorem MaySet.callsIn {a:AskR} (ha:a∈zco p i):zee (zi7 s n (zco p i)) a.pnt=a.lie:=by
 have ho:=zaH h.st
 have hpa:=(zar h.st).2.1
 rw[zkR]
 refine zfM _ _ (by rw[zg1 hpa];exact zkk ho) (zgm (zar h.st).1 h.rt) a ha ?_
 obtain ⟨x,hx,ex⟩:=(zcC ho h.rt ha).1
 rw[zg1 hpa,←ex]
 exact List.mem_map_of_mem hx
end
end Go.Lev
namespace Go.Lev
open Go.Eng
structure Prvd (p:Pln) (s:State) (i:Nat):Prop where
 ph:(nth s.locks i).phase=1
 sec:∀ x∈zeI p i,zdj s x=0
 ask:∀ a∈zco p i,∀ k,k<s.switches.length→(nth s.switches k).id=a.pnt→(nth s.switches k).lie=a.lie
def pjF (s:State) (secs:List Int) (asks:List AskR) (b0:Bool):Bool :=
 zbs (fun i (t:Bool) zbf=>zbs (fun k (t:Bool) next2=>next2 (t&&(!decide ((nth s.tracks k).id=nth secs i)||decide ((nth s.tracks k).is=0)))) (fun t=>zbf t) s.tracks.length 0 t)
  (fun t=>zbs (fun i (t:Bool) zbf=>zbs (fun k (t:Bool) next2=>next2 (t&&(!decide ((nth s.switches k).id=(nth asks i).pnt)||decide ((nth s.switches k).lie=(nth asks i).lie)))) (fun t=>zbf t) s.switches.length 0 t)
   (fun t=>t) asks.length 0 t)
  secs.length 0 b0
end Go.Lev
namespace Go.Lev
open Go.Eng
section
variable {p:Pln} {s:State} {n m:Int} {i j:Nat} (h:MaySet p s n i)
include h
theorem MaySet.two (g:MaySet p (zi7 s n (zco p i)) m j):(∀ x∈zeI p i,x∉zeI p j)∧∀ a∈zco p i,∀ b∈zco p j,a.pnt=b.pnt→a.lie=b.lie:=by
 have hn:=zlL h.st h.lt
 rw[h.id]at hn
 refine ⟨fun x hx hx2=>?_,fun a ha b hb e=>?_⟩
 ·have h1:=h.holds hx
  rw[(g.sec x hx2).1]at h1
  omega
 ·rcases g.ask b hb with h1|h1
  ·rw[←e,h.callsIn ha]at h1
   exact h1
  ·have h2:=h.asks ha
   rw[e,h1.1]at h2
   have:=(zcC (zaH h.st) h.rt ha).2.2
   omega
end
def othF (q r:List AskR):Bool :=
 zbs (fun i (t:Bool) zbf=>zbs (fun k (t:Bool) next2=>next2 (t||decide ((nth q i).pnt=(nth r k).pnt)&&!decide ((nth q i).lie=(nth r k).lie))) (fun t=>zbf t) r.length 0 t) (fun t=>t) q.length 0 false
def shrs (a b:List Int):Bool:=a.any fun x=>b.any fun y=>decide (x=y)
end Go.Lev
namespace Go.Lev
open Go.Eng
theorem zkx (s:State) (n v x:Int):zdj (zhd s n v) x=match s.tracks.find? (fun t=>decide (t.id=x)) with|some t=>if t.id=n then v else t.is|none=>2:=by
 unfold zdj zhd zeR
 dsimp only
 rw[List.find?_map]
 have:((fun t:Track=>decide (t.id=x))∘fun t=>if t.id=n then (⟨t.id,v⟩:Track) else t)=fun t=>decide (t.id=x):=by
  funext t;simp only[Function.comp];split<;>rfl
 rw[this]
 cases s.tracks.find? (fun t=>decide (t.id=x)) with
 |none=>rfl
 |some t=>dsimp only[Option.map];split<;>rfl
theorem zkw {s:State} {n v x:Int} (h:x≠n):zdj (zhd s n v) x=zdj s x:=by
 rw[zkx]
 unfold zdj
 cases e:s.tracks.find? (fun t=>decide (t.id=x)) with
 |none=>rfl
 |some t =>
  have:t.id=x:=by simpa using List.find?_some e
  dsimp only
  rw[if_neg (by rw[this];exact h)]
theorem zeN {s:State} {n:Int}:zdj (zhd s n 1) n≠0:=by
 rw[zkx]
 cases e:s.tracks.find? (fun t=>decide (t.id=n)) with
 |none=>dsimp only;decide
 |some t =>
  have:t.id=n:=by simpa using List.find?_some e
  dsimp only
  rw[if_pos this]
  decide
theorem zid {s:State} {n x:Int} (h:zdj (zhd s n 1) x=0):zdj s x=0∧x≠n:=by
 have hx:x≠n:=fun e=>by subst e;exact zeN h
 exact ⟨by rw[←zkw hx];exact h,hx⟩
def inOf (p:Pln) (n:Int):Join:=zm2 (sig p n) ⟨0,0⟩ p.sections
theorem Prvd.hd {p:Pln} {s:State} {i:Nat} (h:zai p s=0) (hi:i<p.routes.length) (g:Prvd p s i):zm3 p s i=zeI p i:=by
 have hpa:=(zar h).2.1
 have hl:=zmW hpa (show i<s.locks.length by have:=zaS hpa;omega)
 simp only[zeZ,zd7,g.ph,Bool.and_eq_true]at hl
 have h3:=hl.2
 simp at h3
 unfold zm3 zbN zeI
 rw[g.ph,h3.1,if_neg (by decide)]
 rfl
theorem ix_rte {p:Pln} (ho:OkP p) {m:Nat} (hm:m<p.routes.length):zbu (fun x=>decide (Rte.id x=(nth p.routes m).id)) 0 p.routes=(m:Int):=by
 rcases zcY Rte.id (nth p.routes m).id p.routes with ⟨_,h4⟩|⟨k,hk,h4,h5⟩
 ·exact absurd rfl (h4 _ (zae hm))
 ·rw[h4,nth_inj Rte.id (zfn ho) hk hm h5]
theorem zfA {l:List Int} {k:Nat} (h:k<l.length):(l.map zck).flatten[k]?=some (.n (nth l k)):=by
 have:=zcA (c:=zck) (l:=l) (k:=k) (i:=0) h (by omega)
 rw[Nat.mul_one,Nat.add_zero]at this
 rw[this]
 rfl
end Go.Lev
namespace Go.Lev
open Go.Eng
set_option maxRecDepth 10000
set_option maxHeartbeats 4000000
variable {P:Program} {inv:Nat→Option Nat} {w0:World} {M:Nat→Prop}
def planA:Pln:=⟨1,0,[⟨1,0,[⟨0,0⟩,⟨2,0⟩]⟩,⟨2,0,[⟨1,1⟩,⟨0,0⟩]⟩],[],[⟨1,1,1⟩],[⟨1,1,0,[2],[],[],3⟩]⟩
def stA:State:=⟨[⟨1,2⟩,⟨2,2⟩],[],[⟨1,0,0,0⟩]⟩
end Go.Lev
namespace Go.Lev
open Go.Eng
theorem of_ar {n:Nat} {e:Sh} {d:D} (h:Sh.ok (.ar n e) d):∃ l,d=.l l∧l.length=n∧∀ x∈l,Sh.ok e x:=by
 cases d with
 |l l=>exact ⟨l,rfl,by simpa only[Sh.ok] using h⟩
 |t _=>exact h.elim
 |n _=>exact h.elim
theorem arg_arr2 {d:D} (h:Sh.ok (.ar 2 (.i .i64)) d):∃ a b:Int,Sh.arg (.ar 2 (.i .i64)) d=.agg [.n a,.n b]:=by
 obtain ⟨l,rfl,hl,h⟩:=of_ar h
 match l,hl,h with
 |[x,y],_,h =>
  obtain ⟨a,rfl,_⟩:=zaY (h x (by simp))
  obtain ⟨b,rfl,_⟩:=zaY (h y (by simp))
  exact ⟨a,b,rfl⟩
theorem arg_bool {d:D} (h:Sh.ok .b d):∃ t,Sh.arg .b d=.b t:=by
 cases d with
 |t t=>exact ⟨t,rfl⟩
 |l _=>exact h.elim
 |n _=>exact h.elim
end Go.Lev
namespace Go.Lev
open Go.Eng
set_option maxRecDepth 10000
set_option maxHeartbeats 4000000
variable {P:Program} {inv:Nat→Option Nat} {w0:World} {M:Nat→Prop}
def planB:Pln:=⟨1,0,[⟨1,0,[⟨0,0⟩,⟨2,0⟩]⟩,⟨2,5,[⟨1,1⟩,⟨3,0⟩,⟨4,0⟩]⟩,⟨3,0,[⟨2,1⟩,⟨0,0⟩]⟩,⟨4,0,[⟨2,2⟩,⟨0,0⟩]⟩],[⟨5,2⟩],[⟨1,1,1⟩],[⟨1,1,0,[2,3],[],[],3⟩]⟩
def stB:State:=⟨[⟨1,2⟩,⟨2,2⟩,⟨3,2⟩,⟨4,2⟩],[⟨5,0,0⟩],[⟨1,0,0,0⟩]⟩
def stB2:State:=⟨[⟨1,2⟩,⟨2,0⟩,⟨3,2⟩,⟨4,2⟩],[⟨5,0,0⟩],[⟨1,0,0,0⟩]⟩
def stB3:State:=⟨[⟨1,2⟩,⟨2,0⟩,⟨3,2⟩,⟨4,2⟩],[⟨5,0,2⟩],[⟨1,0,0,0⟩]⟩
end Go.Lev
namespace Go.Lev
open Go.Eng
set_option maxRecDepth 10000
set_option maxHeartbeats 4000000
variable {P:Program} {inv:Nat→Option Nat} {w0:World} {M:Nat→Prop}
def planC:Pln:=⟨1,0,[⟨1,0,[⟨0,0⟩,⟨2,0⟩]⟩,⟨2,5,[⟨1,1⟩,⟨3,0⟩,⟨4,0⟩]⟩,⟨3,0,[⟨2,1⟩,⟨0,0⟩]⟩,⟨4,0,[⟨2,2⟩,⟨0,0⟩]⟩],[⟨5,2⟩],[⟨1,1,1⟩],[⟨1,1,0,[2,3],[],[],3⟩,⟨2,1,0,[2,4],[],[],4⟩]⟩
def stN:State:=⟨[⟨1,2⟩,⟨2,2⟩,⟨3,2⟩,⟨4,2⟩],[⟨5,0,0⟩],[⟨1,0,0,0⟩,⟨2,0,0,0⟩]⟩
def stQ:State:=⟨[⟨1,0⟩,⟨2,0⟩,⟨3,0⟩,⟨4,0⟩],[⟨5,0,0⟩],[⟨1,0,0,0⟩,⟨2,0,0,0⟩]⟩
def stQ1:State:=⟨[⟨1,0⟩,⟨2,0⟩,⟨3,0⟩,⟨4,0⟩],[⟨5,0,1⟩],[⟨1,1,0,0⟩,⟨2,0,0,0⟩]⟩
def zql (_:Nat) (t:Track):Track:=⟨t.id,0⟩
end Go.Lev
namespace Go.Lev
open Go.Eng
set_option maxRecDepth 10000
set_option maxHeartbeats 4000000
variable {P:Program} {inv:Nat→Option Nat} {w0:World} {M:Nat→Prop}
def hasT (s:State) (n:Int):Bool:=s.tracks.any fun t=>decide (t.id=n)
def hasW (s:State) (n:Int):Bool:=s.switches.any fun t=>decide (t.id=n)
def ibF (s A B:State) (n v e1 e2:Int):Bool :=
 zbs (fun k t zbf =>
   cond (decide (e1=0)&&(decide ((nth s.tracks k).id=n)&&!decide ((nth A.tracks k).is=v)||!decide ((nth s.tracks k).id=n)&&!(decide ((nth A.tracks k).id=(nth s.tracks k).id)&&decide ((nth A.tracks k).is=(nth s.tracks k).is))))
    false (zbf (t||decide ((nth s.tracks k).id=n))))
  (fun t=>zbs (fun k u zbf =>
    cond (decide (e2=0)&&(decide ((nth s.switches k).id=n)&&(!decide ((nth B.switches k).lie=v)||!decide ((nth B.switches k).call=(nth s.switches k).call))||!decide ((nth s.switches k).id=n)&&!(decide ((nth B.switches k).id=(nth s.switches k).id)&&(decide ((nth B.switches k).lie=(nth s.switches k).lie)&&decide ((nth B.switches k).call=(nth s.switches k).call)))))
     false (zbf (u||decide ((nth s.switches k).id=n))))
   (fun u=>decide (decide (e1=0)=(t&&(decide (v=0)||decide (v=1))))&&decide (decide (e2=0)=(u&&(decide (0≤v)&&decide (v≤2)))))
   s.switches.length 0 false)
  s.tracks.length 0 false
end Go.Lev
namespace Go.Lev
open Go.Eng
set_option maxRecDepth 10000
set_option maxHeartbeats 4000000
variable {P:Program} {inv:Nat→Option Nat} {w0:World} {M:Nat→Prop}
def stQ2:State:=⟨[⟨1,0⟩,⟨2,0⟩,⟨3,0⟩,⟨4,0⟩],[⟨5,1,1⟩],[⟨1,1,0,0⟩,⟨2,0,0,0⟩]⟩
end Go.Lev
namespace Go.Lev
open Go.Eng
set_option maxRecDepth 10000
set_option maxHeartbeats 4000000
variable {P:Program} {inv:Nat→Option Nat} {w0:World} {M:Nat→Prop}
theorem prC_at {p:Pln} {t:State} {n:Int} {i:Nat} (h:zai p t=0) (hi:rtIx p n=(i:Int)):prC p t n=0∧prR p t n=zd3 p t (nth p.routes i):=by
 unfold prC prR
 rw[if_pos h,hi,if_neg (by omega),if_neg (by omega),Int.toNat_natCast]
 exact ⟨rfl,rfl⟩
end Go.Lev
