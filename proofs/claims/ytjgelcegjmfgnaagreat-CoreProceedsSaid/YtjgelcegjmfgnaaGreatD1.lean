/-
  A part of the engine that walks the functions' codes, and of the functions' contracts. Conditions: those that each theorem names.
-/
import Derived.Test.YtjgelcegjmfgnaaGreatL8
import Derived.IntWalk
set_option linter.unusedSimpArgs false
set_option linter.unusedVariables false
set_option linter.unusedSectionVars false
namespace Go.Lev
open Go.Eng
set_option maxRecDepth 10000
set_option maxHeartbeats 4000000
variable {P:Program} {inv:Nat→Option Nat}
theorem idx_ask (hH:HasAll P inv) {jc:Nat} {caps:List AV} {p:AskR→Bool} (l:List AskR) (hc:∀ x∈l,PC P inv jc ([.agg x.c]++caps) (·=.b (p x))) (hl:l.length≤1000000000):PC P inv 266 [.sl 3 (l.map AskR.c),.fn jc caps] (·=.n (zbA p 0 l)):=by
 refine PC.fn hH cd266 fun w0 M Q hM hE hQ hR=>?_;dsimp only[cd266,qm,ql,qf,qi,qb,qc,qp,qv,qN,qT,qF,qt]at hQ ⊢
 (repeat' first|refine zaa [0,1,4,5,7,8,9,16] fun K hK=>?_|(refine hK.go ?_;clear hK K)|with_reducible exact wT|refine wA ?_|(refine wB (fun h=>?_) (fun h=>?_)<;>first|exact wN h|subst (h:(_:Bool)=_)|skip)|(refine wQ ?_;clear hQ hR hE hM)|fail)
 refine zcY (fun k=>[(0,.sl 3 (l.map AskR.c)),(1,.fn jc caps),(7,.n l.length),(8,.n k)]) (fun k=>[]) (l.length) (fun k=>zbA p k (l.drop k)=zbA p 0 l) ?_;rintro k ⟨hk,hg⟩;rcases Nat.lt_or_ge k l.length with hlt|hge
 ·rw[zaj hlt]at hg
  rw[zbA]at hg
  (repeat' first|refine zaa [0,1,4,5,7,8,9,16] fun K hK=>?_|(refine hK.go ?_;clear hK K)|with_reducible exact wT|refine wA ?_|(refine wB (fun h=>?_) (fun h=>?_)<;>first|exact wN h|subst (h:(_:Bool)=_)|skip)|(refine wQ ?_;clear hQ hR hE hM)|(refine zau hM (hc _ (zad hlt)) ?_;try (refine no_implicit_lambda% (st ?_);try with_reducible exact wT))|fail)
  ·rw[←hg,if_pos h]
  ·exact ⟨k+1,by omega,⟨by omega,by rw[←hg,if_neg (by rw[h];simp)];rfl⟩,(by (try dsimp only);(first|omega|(simp;done)|(simp;omega)))⟩
 ·rw[List.drop_eq_nil_of_le hge]at hg
  (repeat' first|refine zaa [0,1,4,5,7,8,9,16] fun K hK=>?_|(refine hK.go ?_;clear hK K)|with_reducible exact wT|refine wA ?_|(refine wB (fun h=>?_) (fun h=>?_)<;>first|exact wN h|subst (h:(_:Bool)=_)|skip)|(refine wQ ?_;clear hQ hR hE hM)|fail)
  rw[←hg];rfl
end Go.Lev
namespace Go.Lev
open Go.Eng
theorem isPnt_ix {p:Pln} {n:Int} (h:zdY p n=true):∃ k,k<p.points.length∧(nth p.points k).id=n:=by
 obtain ⟨x,hx,e⟩:=List.any_eq_true.1 h
 obtain ⟨k,hk,rfl⟩:=zdv hx
 exact ⟨k,hk,by simpa using e⟩
end Go.Lev
namespace Go.Lev
open Go.Eng
set_option maxRecDepth 10000
set_option maxHeartbeats 4000000
variable {P:Program} {inv:Nat→Option Nat} {w0:World} {M:Nat→Prop}
theorem zqR (hH:HasAll P inv) (l:List Lock) (v:Lock) (hl:l.length≤1000000000):PC P inv 265 [.sl 4 (l.map Lock.c),.agg v.c] (·=.n (zbA (fun x=>decide (v.id=x.id)&&(decide (v.phase=x.phase)&&(decide (v.gone=x.gone)&&decide (v.left=x.left)))) 0 l)):=by
 refine PC.fn hH cd265 fun w0 M Q hM hE hQ hR=>?_;dsimp only[cd265,qm,ql,qf,qi,qb,qc,qp,qv,qN,qT,qF,qt]at hQ ⊢
 (repeat' first|refine zaa [0,1,3,4,5,7,8,9,16] fun K hK=>?_|(refine hK.go ?_;clear hK K)|with_reducible exact wT|refine wA ?_|(refine wB (fun h=>?_) (fun h=>?_)<;>first|exact wN h|subst (h:(_:Bool)=_)|skip)|(refine wQ ?_;clear hQ hR hE hM)|fail)
 refine zap (ι:=Nat) [0,3,4,7,8] (fun z=>[(8,.n z)]) (fun _=>[]) (fun z=>z) (l.length) (fun z=>(zbA (fun x=>decide (v.id=x.id)&&(decide (v.phase=x.phase)&&(decide (v.gone=x.gone)&&decide (v.left=x.left)))) z (l.drop z)=zbA (fun x=>decide (v.id=x.id)&&(decide (v.phase=x.phase)&&(decide (v.gone=x.gone)&&decide (v.left=x.left)))) 0 l)) (0) ?_;rintro k ⟨hk,hg⟩;(try dsimp only at hk hg ⊢);rcases Nat.lt_or_ge k l.length with hlt|hge
 ·rw[zaj hlt]at hg
  rw[zbA]at hg
  cases ht:(decide (v.id=(nth l k).id)&&(decide (v.phase=(nth l k).phase)&&(decide (v.gone=(nth l k).gone)&&decide (v.left=(nth l k).left)))) with
  |true =>
   rw[if_pos ht]at hg
   (have hX:=@ht;(repeat' first|refine zaa [0,1,3,4,5,7,8,9,16] fun K hK=>?_|(refine hK.go ?_;clear hK K)|with_reducible exact wT|refine wA ?_|(refine wB (fun h=>?_) (fun h=>?_)<;>first|exact wN h|subst (h:(_:Bool)=_)|skip)|(refine wQ ?_;clear hQ hR hE hM)|fail);all_goals clear hX)
   all_goals first|exact hg|(exfalso;contradiction)
  |false =>
   rw[if_neg (by rw[ht];simp)]at hg
   (have hX:=@ht;(repeat' first|refine zaa [0,1,3,4,5,7,8,9,16] fun K hK=>?_|(refine hK.go ?_;clear hK K)|with_reducible exact wT|refine wA ?_|(refine wB (fun h=>?_) (fun h=>?_)<;>first|exact wN h|subst (h:(_:Bool)=_)|skip)|(refine wQ ?_;clear hQ hR hE hM)|fail);all_goals clear hX)
   all_goals first|(exfalso;contradiction)|exact ⟨k+1,by omega,⟨by omega,hg⟩,by omega⟩
 ·rw[List.drop_eq_nil_of_le hge]at hg
  (repeat' first|refine zaa [0,1,3,4,5,7,8,9,16] fun K hK=>?_|(refine hK.go ?_;clear hK K)|with_reducible exact wT|refine wA ?_|(refine wB (fun h=>?_) (fun h=>?_)<;>first|exact wN h|subst (h:(_:Bool)=_)|skip)|(refine wQ ?_;clear hQ hR hE hM)|fail)
  rw[←hg];rfl
theorem has_lck (hH:HasAll P inv) (l:List Lock) (v:Lock) (hl:l.length≤1000000000):PC P inv 241 [.sl 4 (l.map Lock.c),.agg v.c] (·=.b (l.any fun x=>decide (v.id=x.id)&&(decide (v.phase=x.phase)&&(decide (v.gone=x.gone)&&decide (v.left=x.left))))):=by
 have c1:=zqR hH l v hl
 have e:=zfe (fun x:Lock=>decide (v.id=x.id)&&(decide (v.phase=x.phase)&&(decide (v.gone=x.gone)&&decide (v.left=x.left)))) l
 revert c1 e
 generalize zbA (fun x:Lock=>decide (v.id=x.id)&&(decide (v.phase=x.phase)&&(decide (v.gone=x.gone)&&decide (v.left=x.left)))) 0 l=i
 generalize (l.any fun x=>decide (v.id=x.id)&&(decide (v.phase=x.phase)&&(decide (v.gone=x.gone)&&decide (v.left=x.left))))=t
 intro c1 e
 refine PC.fn hH cd241 fun w0 M Q hM hE hQ hR=>?_;dsimp only[cd241,qm,ql,qf,qi,qb,qc,qp,qv,qN,qT,qF,qt]at hQ ⊢
 (have hX:=@e;(repeat' first|refine zaa [0,1,3,4] fun K hK=>?_|(refine hK.go ?_;clear hK K)|with_reducible exact wT|refine wA ?_|(refine wB (fun h=>?_) (fun h=>?_)<;>first|exact wN h|subst (h:(_:Bool)=_)|skip)|(refine wQ ?_;clear hQ hR hE hM)|refine wC c1 ?_|fail);all_goals clear hX)
theorem hasSwt (hH:HasAll P inv) {jc:Nat} {caps:List AV} {q:Switch→Bool} (l:List Switch) (hc:∀ x∈l,PC P inv jc ([.agg x.c]++caps) (·=.b (q x))) (hl:l.length≤1000000000):PC P inv 238 [.sl 3 (l.map Switch.c),.fn jc caps] (·=.b (l.any q)):=by
 have c1:=zgG hH l hc hl
 have e:=zfe q l
 refine PC.fn hH cd238 fun w0 M Q hM hE hQ hR=>?_;dsimp only[cd238,qm,ql,qf,qi,qb,qc,qp,qv,qN,qT,qF,qt]at hQ ⊢
 (have hX:=@e;(repeat' first|refine zaa [0,1,4] fun K hK=>?_|(refine hK.go ?_;clear hK K)|with_reducible exact wT|refine wA ?_|(refine wB (fun h=>?_) (fun h=>?_)<;>first|exact wN h|subst (h:(_:Bool)=_)|skip)|(refine wQ ?_;clear hQ hR hE hM)|refine wC c1 ?_|fail);all_goals clear hX)
theorem hasAsk (hH:HasAll P inv) {jc:Nat} {caps:List AV} {q:AskR→Bool} (l:List AskR) (hc:∀ x∈l,PC P inv jc ([.agg x.c]++caps) (·=.b (q x))) (hl:l.length≤1000000000):PC P inv 247 [.sl 3 (l.map AskR.c),.fn jc caps] (·=.b (l.any q)):=by
 have c1:=idx_ask hH l hc hl
 have e:=zfe q l
 refine PC.fn hH cd247 fun w0 M Q hM hE hQ hR=>?_;dsimp only[cd247,qm,ql,qf,qi,qb,qc,qp,qv,qN,qT,qF,qt]at hQ ⊢
 (have hX:=@e;(repeat' first|refine zaa [0,1,4] fun K hK=>?_|(refine hK.go ?_;clear hK K)|with_reducible exact wT|refine wA ?_|(refine wB (fun h=>?_) (fun h=>?_)<;>first|exact wN h|subst (h:(_:Bool)=_)|skip)|(refine wQ ?_;clear hQ hR hE hM)|refine wC c1 ?_|fail);all_goals clear hX)
end Go.Lev
namespace Go.Lev
open Go.Eng
theorem zlF {p:Pln} (h:OkP p) {r:Rte} (hr:r∈p.routes) {a:AskR} (ha:a∈(zak p r).1.asks):zdY p a.pnt=true:=zlE (zbz h hr ha).1
section
variable {p:Pln} {s:State} {n:Int} {i:Nat} (h:MaySet p s n i)
include h
end
end Go.Lev
namespace Go.Lev
open Go.Eng
set_option maxRecDepth 10000
set_option maxHeartbeats 4000000
variable {P:Program} {inv:Nat→Option Nat} {w0:World} {M:Nat→Prop}
section
variable (hH:HasAll P inv) (s:State) (hs:SmS s)
include hH hs
theorem pr236 (m:Int):PC P inv 236 ([.n m]++[.ip 3 [s.c] 0 0]) (·=.b (frT s m)):=by
 have c1:=zm3 hH s.tracks ⟨m,0⟩ (by have:=hs.1;omega)
 rw[show (s.tracks.any fun x=>decide ((⟨m,0⟩:Track).id=x.id)&&decide ((⟨m,0⟩:Track).is=x.is))=frT s m from rfl]at c1
 refine PC.fn hH cd236 fun w0 M Q hM hE hQ hR=>?_;dsimp only[cd236,qm,ql,qf,qi,qb,qc,qp,qv,qN,qT,qF,qt]at hQ ⊢
 (repeat' first|refine zaa [0,1,3] fun K hK=>?_|(refine hK.go ?_;clear hK K)|with_reducible exact wT|refine wA ?_|(refine wB (fun h=>?_) (fun h=>?_)<;>first|exact wN h|subst (h:(_:Bool)=_)|skip)|(refine wQ ?_;clear hQ hR hE hM)|refine wC c1 ?_|fail)
theorem pr243 (m:Int):PC P inv 243 ([.n m]++[.ip 1 [[.fn 236 [.ip 3 [s.c] 0 0]]] 0 0]) (·=.b (!frT s m)):=by
 have c1:=pr236 hH s hs m
 refine PC.fn hH cd243 fun w0 M Q hM hE hQ hR=>?_;dsimp only[cd243,qm,ql,qf,qi,qb,qc,qp,qv,qN,qT,qF,qt]at hQ ⊢
 (repeat' first|refine zaa [0,1,3] fun K hK=>?_|(refine hK.go ?_;clear hK K)|with_reducible exact wT|refine wA ?_|(refine wB (fun h=>?_) (fun h=>?_)<;>first|exact wN h|subst (h:(_:Bool)=_)|skip)|(refine wQ ?_;clear hQ hR hE hM)|refine wC c1 ?_|fail)
theorem pr245 (m:Int):PC P inv 245 ([.n m]++[.ip 1 [[.fn 236 [.ip 3 [s.c] 0 0]]] 0 0]) (·=.b (!frT s m)):=by
 have c1:=pr236 hH s hs m
 refine PC.fn hH cd245 fun w0 M Q hM hE hQ hR=>?_;dsimp only[cd245,qm,ql,qf,qi,qb,qc,qp,qv,qN,qT,qF,qt]at hQ ⊢
 (repeat' first|refine zaa [0,1,3] fun K hK=>?_|(refine hK.go ?_;clear hK K)|with_reducible exact wT|refine wA ?_|(refine wB (fun h=>?_) (fun h=>?_)<;>first|exact wN h|subst (h:(_:Bool)=_)|skip)|(refine wQ ?_;clear hQ hR hE hM)|refine wC c1 ?_|fail)
omit hs in
theorem pr239 (a:AskR) (x:Switch):PC P inv 239 ([.agg x.c]++[.ip 3 [a.c] 0 0]) (·=.b (decide (x.id=a.pnt)&&decide (x.lie=a.lie))):=by
 refine PC.fn hH cd239 fun w0 M Q hM hE hQ hR=>?_;dsimp only[cd239,qm,ql,qf,qi,qb,qc,qp,qv,qN,qT,qF,qt]at hQ ⊢
 (repeat' first|refine zaa [0,1,2,3] fun K hK=>?_|(refine hK.go ?_;clear hK K)|with_reducible exact wT|refine wA ?_|(refine wB (fun h=>?_) (fun h=>?_)<;>first|exact wN h|subst (h:(_:Bool)=_)|skip)|(refine wQ ?_;clear hQ hR hE hM)|fail)
 all_goals (simp[*];done)
theorem pr237 (a:AskR):PC P inv 237 ([.agg a.c]++[.ip 3 [s.c] 0 0]) (·=.b (lieT s a)):=by
 have c1:=hasSwt hH s.switches (fun x _=>pr239 hH a x) (by have:=hs.2.1;omega)
 rw[show (s.switches.any fun x=>decide (x.id=a.pnt)&&decide (x.lie=a.lie))=lieT s a from rfl]at c1
 refine PC.fn hH cd237 fun w0 M Q hM hE hQ hR=>?_;dsimp only[cd237,qm,ql,qf,qi,qb,qc,qp,qv,qN,qT,qF,qt]at hQ ⊢
 (repeat' first|refine zaa [0,1,2,3] fun K hK=>?_|(refine hK.go ?_;clear hK K)|with_reducible exact wT|refine wA ?_|(refine wB (fun h=>?_) (fun h=>?_)<;>first|exact wN h|subst (h:(_:Bool)=_)|skip)|(refine wQ ?_;clear hQ hR hE hM)|refine wS c1 ?_|fail)
theorem pr248 (a:AskR):PC P inv 248 ([.agg a.c]++[.ip 1 [[.fn 237 [.ip 3 [s.c] 0 0]]] 0 0]) (·=.b (!lieT s a)):=by
 have c1:=pr237 hH s hs a
 refine PC.fn hH cd248 fun w0 M Q hM hE hQ hR=>?_;dsimp only[cd248,qm,ql,qf,qi,qb,qc,qp,qv,qN,qT,qF,qt]at hQ ⊢
 (repeat' first|refine zaa [0,1,2,3] fun K hK=>?_|(refine hK.go ?_;clear hK K)|with_reducible exact wT|refine wA ?_|(refine wB (fun h=>?_) (fun h=>?_)<;>first|exact wN h|subst (h:(_:Bool)=_)|skip)|(refine wQ ?_;clear hQ hR hE hM)|refine wC c1 ?_|fail)
theorem pr242 (w:WayR) (hw:w.path.length≤1000):PC P inv 242 [.ip 4 [w.c] 0 0,.ip 1 [[.fn 236 [.ip 3 [s.c] 0 0]]] 0 0] (·=.b (!(w.path.any fun m=>!frT s m))):=by
 have c1:=zlH hH w.path (fun x _=>pr243 hH s hs x) (by omega)
 refine PC.fn hH cd242 fun w0 M Q hM hE hQ hR=>?_;dsimp only[cd242,qm,ql,qf,qi,qb,qc,qp,qv,qN,qT,qF,qt]at hQ ⊢
 (repeat' first|refine zaa [0,1,2] fun K hK=>?_|(refine hK.go ?_;clear hK K)|with_reducible exact wT|refine wA ?_|(refine wB (fun h=>?_) (fun h=>?_)<;>first|exact wN h|subst (h:(_:Bool)=_)|skip)|(refine wQ ?_;clear hQ hR hE hM)|refine wC c1 ?_|fail)
theorem pr244 (w:WayR) (hw:w.over.length≤1000):PC P inv 244 [.ip 4 [w.c] 0 0,.ip 1 [[.fn 236 [.ip 3 [s.c] 0 0]]] 0 0] (·=.b (!(w.over.any fun m=>!frT s m))):=by
 have c1:=zlH hH w.over (fun x _=>pr245 hH s hs x) (by omega)
 refine PC.fn hH cd244 fun w0 M Q hM hE hQ hR=>?_;dsimp only[cd244,qm,ql,qf,qi,qb,qc,qp,qv,qN,qT,qF,qt]at hQ ⊢
 (repeat' first|refine zaa [0,1,2] fun K hK=>?_|(refine hK.go ?_;clear hK K)|with_reducible exact wT|refine wA ?_|(refine wB (fun h=>?_) (fun h=>?_)<;>first|exact wN h|subst (h:(_:Bool)=_)|skip)|(refine wQ ?_;clear hQ hR hE hM)|refine wC c1 ?_|fail)
theorem pr246 (w:WayR) (hw:w.asks.length≤1000):PC P inv 246 [.ip 4 [w.c] 0 0,.ip 1 [[.fn 237 [.ip 3 [s.c] 0 0]]] 0 0] (·=.b (!(w.asks.any fun a=>!lieT s a))):=by
 have c1:=hasAsk hH w.asks (fun x _=>pr248 hH s hs x) (by omega)
 refine PC.fn hH cd246 fun w0 M Q hM hE hQ hR=>?_;dsimp only[cd246,qm,ql,qf,qi,qb,qc,qp,qv,qN,qT,qF,qt]at hQ ⊢
 (repeat' first|refine zaa [0,1,2] fun K hK=>?_|(refine hK.go ?_;clear hK K)|with_reducible exact wT|refine wA ?_|(refine wB (fun h=>?_) (fun h=>?_)<;>first|exact wN h|subst (h:(_:Bool)=_)|skip)|(refine wQ ?_;clear hQ hR hE hM)|refine wC c1 ?_|fail)
theorem pr240 (n:Int):PC P inv 240 [.ip 3 [s.c] 0 0,.ip 1 [[.n n]] 0 0] (·=.b (zox s n)):=by
 have c1:=has_lck hH s.locks ⟨n,1,0,0⟩ (by have:=hs.2.2;omega)
 rw[show (s.locks.any fun x=>decide ((⟨n,1,0,0⟩:Lock).id=x.id)&&(decide ((⟨n,1,0,0⟩:Lock).phase=x.phase)&&(decide ((⟨n,1,0,0⟩:Lock).gone=x.gone)&&decide ((⟨n,1,0,0⟩:Lock).left=x.left))))=zox s n from rfl]at c1
 refine PC.fn hH cd240 fun w0 M Q hM hE hQ hR=>?_;dsimp only[cd240,qm,ql,qf,qi,qb,qc,qp,qv,qN,qT,qF,qt]at hQ ⊢
 (repeat' first|refine zaa [0,1,2] fun K hK=>?_|(refine hK.go ?_;clear hK K)|with_reducible exact wT|refine wA ?_|(refine wB (fun h=>?_) (fun h=>?_)<;>first|exact wN h|subst (h:(_:Bool)=_)|skip)|(refine wQ ?_;clear hQ hR hE hM)|refine wC c1 ?_|fail)
theorem zqf (n:Int) (w:WayR) (h1:w.path.length≤1000) (h2:w.over.length≤1000) (h3:w.asks.length≤1000):PC P inv 228 [.agg s.c,.n n,.agg w.c] (·=.b (zkh s n w)):=by
 have c1:=pr240 hH s hs n
 have c2:=pr242 hH s hs w h1
 have c3:=pr244 hH s hs w h2
 have c4:=pr246 hH s hs w h3
 unfold zkh
 generalize zox s n=b1 at *
 generalize (w.path.any fun m=>!frT s m)=b2 at *
 generalize (w.over.any fun m=>!frT s m)=b3 at *
 generalize (w.asks.any fun a=>!lieT s a)=b4 at *
 refine PC.fn hH cd228 fun w0 M Q hM hE hQ hR=>?_;dsimp only[cd228,qm,ql,qf,qi,qb,qc,qp,qv,qN,qT,qF,qt]at hQ ⊢
 (repeat' first|refine zaa [0,1,2,3,4,5,6,7,8,10,17,18,19,20,25] fun K hK=>?_|(refine hK.go ?_;clear hK K)|with_reducible exact wT|refine wA ?_|(refine wB (fun h=>?_) (fun h=>?_)<;>first|exact wN h|subst (h:(_:Bool)=_)|skip)|(refine wQ ?_;clear hQ hR hE hM)|fail)
 refine zap (ι:=Nat) [6,17,18,19] (fun z=>[(19,.n z)]) (fun _=>[]) (fun z=>z) (4) (fun z=>((([b1,!b2,!b3,!b4]:List Bool).drop z).all id=(b1&&(!b2&&(!b3&&!b4))))) (0) ?_;rintro k ⟨hk,hg⟩;(try dsimp only at hk hg ⊢);rcases Nat.lt_or_ge k 4 with hlt|hge
 ·obtain rfl|rfl|rfl|rfl:k=0∨k=1∨k=2∨k=3:=by omega
  ·cases b1
   ·(repeat' first|refine zaa [0,1,2,3,4,5,6,7,8,10,17,18,19,20,25] fun K hK=>?_|(refine hK.go ?_;clear hK K)|with_reducible exact wT|refine wA ?_|(refine wB (fun h=>?_) (fun h=>?_)<;>first|exact wN h|subst (h:(_:Bool)=_)|skip)|(refine wQ ?_;clear hQ hR hE hM)|refine wS c1 ?_|fail)
    all_goals first|rfl|(exfalso;contradiction)
   ·(repeat' first|refine zaa [0,1,2,3,4,5,6,7,8,10,17,18,19,20,25] fun K hK=>?_|(refine hK.go ?_;clear hK K)|with_reducible exact wT|refine wA ?_|(refine wB (fun h=>?_) (fun h=>?_)<;>first|exact wN h|subst (h:(_:Bool)=_)|skip)|(refine wQ ?_;clear hQ hR hE hM)|refine wS c1 ?_|fail)
    all_goals first|exact ⟨1,by omega,⟨by omega,by simp⟩,rfl⟩|(exfalso;contradiction)
  ·cases b2
   ·(repeat' first|refine zaa [0,1,2,3,4,5,6,7,8,10,17,18,19,20,25] fun K hK=>?_|(refine hK.go ?_;clear hK K)|with_reducible exact wT|refine wA ?_|(refine wB (fun h=>?_) (fun h=>?_)<;>first|exact wN h|subst (h:(_:Bool)=_)|skip)|(refine wQ ?_;clear hQ hR hE hM)|refine wS c2 ?_|fail)
    all_goals first|exact ⟨2,by omega,⟨by omega,by simpa using hg⟩,rfl⟩|(exfalso;contradiction)
   ·(repeat' first|refine zaa [0,1,2,3,4,5,6,7,8,10,17,18,19,20,25] fun K hK=>?_|(refine hK.go ?_;clear hK K)|with_reducible exact wT|refine wA ?_|(refine wB (fun h=>?_) (fun h=>?_)<;>first|exact wN h|subst (h:(_:Bool)=_)|skip)|(refine wQ ?_;clear hQ hR hE hM)|refine wS c2 ?_|fail)
    all_goals first|(simpa using hg)|(exfalso;contradiction)
  ·cases b3
   ·(repeat' first|refine zaa [0,1,2,3,4,5,6,7,8,10,17,18,19,20,25] fun K hK=>?_|(refine hK.go ?_;clear hK K)|with_reducible exact wT|refine wA ?_|(refine wB (fun h=>?_) (fun h=>?_)<;>first|exact wN h|subst (h:(_:Bool)=_)|skip)|(refine wQ ?_;clear hQ hR hE hM)|refine wS c3 ?_|fail)
    all_goals first|exact ⟨3,by omega,⟨by omega,by simpa using hg⟩,rfl⟩|(exfalso;contradiction)
   ·(repeat' first|refine zaa [0,1,2,3,4,5,6,7,8,10,17,18,19,20,25] fun K hK=>?_|(refine hK.go ?_;clear hK K)|with_reducible exact wT|refine wA ?_|(refine wB (fun h=>?_) (fun h=>?_)<;>first|exact wN h|subst (h:(_:Bool)=_)|skip)|(refine wQ ?_;clear hQ hR hE hM)|refine wS c3 ?_|fail)
    all_goals first|(simpa using hg)|(exfalso;contradiction)
  ·cases b4
   ·(repeat' first|refine zaa [0,1,2,3,4,5,6,7,8,10,17,18,19,20,25] fun K hK=>?_|(refine hK.go ?_;clear hK K)|with_reducible exact wT|refine wA ?_|(refine wB (fun h=>?_) (fun h=>?_)<;>first|exact wN h|subst (h:(_:Bool)=_)|skip)|(refine wQ ?_;clear hQ hR hE hM)|refine wS c4 ?_|fail)
    all_goals first|exact ⟨4,by omega,⟨by omega,by simpa using hg⟩,rfl⟩|(exfalso;contradiction)
   ·(repeat' first|refine zaa [0,1,2,3,4,5,6,7,8,10,17,18,19,20,25] fun K hK=>?_|(refine hK.go ?_;clear hK K)|with_reducible exact wT|refine wA ?_|(refine wB (fun h=>?_) (fun h=>?_)<;>first|exact wN h|subst (h:(_:Bool)=_)|skip)|(refine wQ ?_;clear hQ hR hE hM)|refine wS c4 ?_|fail)
    all_goals first|(simpa using hg)|(exfalso;contradiction)
 ·obtain rfl:k=4:=by omega
  (repeat' first|refine zaa [0,1,2,3,4,5,6,7,8,10,17,18,19,20,25] fun K hK=>?_|(refine hK.go ?_;clear hK K)|with_reducible exact wT|refine wA ?_|(refine wB (fun h=>?_) (fun h=>?_)<;>first|exact wN h|subst (h:(_:Bool)=_)|skip)|(refine wQ ?_;clear hQ hR hE hM)|fail)
  all_goals first|exact hg|(simpa using hg)|trace_state
end
end Go.Lev
namespace Go.Lev
open Go.Eng
set_option maxRecDepth 10000
set_option maxHeartbeats 4000000
variable {P:Program} {inv:Nat→Option Nat} {w0:World} {M:Nat→Prop}
theorem zmG (hH:HasAll P inv) (hI:HasIds P inv) (p:Pln) (hp:Sm p) (s:State) (hs:SmS s):PC P inv 213 [.agg p.c,.agg s.c] (·=.tup [.sl 1 ((zki p s).map bool1),.n (zac p s)]):=by
 have c0:=zmJ hH hI p hp s hs
 have hRl:=zeo p s
 have hRe:=zgA p s
 by_cases hst:zac p s=0
 ·have hok:=zae hst
  have hR:ofR p s=⟨(zav p s).1,(zav p s).2.1,zaD p,0⟩:=by unfold ofR;rw[if_pos hst]
  rw[hR]at c0 hRl
  dsimp only at c0 hRl
  rw[hst,show zki p s=zkj p s by unfold zki;rw[if_pos hst]]
  have hc:∀ k,k<p.routes.length→PC P inv 228 [.agg s.c,.n (nth p.routes k).id,.agg (nth (zaD p) k).c] (·=.b (zdG p s (nth p.routes k))):=fun k hk=>by
   have hl:=zcB hok (zad hk)
   rw[show nth (zaD p) k=(zak p (nth p.routes k)).1 from zjw _ hk]
   exact zqf hH s hs _ _ hl.2.2.1 hl.2.2.2 hl.1
  have hwlen:(zaD p).length=p.routes.length:=by simp[zaD]
  have hrl:=hp.rte
  obtain ⟨f,hf⟩:∃ f,f=zdG p s:=⟨_,rfl⟩
  rw[show zkj p s=p.routes.map f by rw[hf];rfl]
  rw[←hf]at hc
  clear hf hok hst hR hRe
  generalize zaD p=ws at *
  generalize zav p s=GR at *
  obtain ⟨H,A,B⟩:=GR
  dsimp only at *
  obtain ⟨G,Z,hg⟩:=zf7
  rw[←hg.eq]at c0
  have hfold:=hg.fold
  have hlen0:=hg.len (.s0 4) hg.zl hg.zl
  have hlen:=hg.len (.sl 4 (ws.map Way.c)) hRl.1 hRl.2
  have hov:=hg.ov (.s0 4) (.sl 4 (ws.map Way.c)) hg.zl hg.zl hRl.1 hRl.2
  have hbd0:=hg.bd0 Z Z
  have hbd:=hg.bd H A (ws.map Way.c)
  have hba:=hg.ba H A (ws.map Way.c)
  have hgw:=hg.get (.sl 4 (ws.map Way.c)) hRl.1 hRl.2
  clear hg
  refine PC.fn hH cd213 fun w0 M Q hM hE hQ hR=>?_;dsimp only[cd213,qm,ql,qf,qi,qb,qc,qp,qv,qN,qT,qF,qt]at hQ ⊢
  (have hX:=zA @hfold (zA @hlen0 (zA @hlen (zA @hov (zA @hbd0 (zA @hbd @hba)))));(repeat' first|refine zaa [0,1,2,3,4,5,6,7,8,16,19,20,21,22,37] fun K hK=>?_|(refine hK.go ?_;clear hK K)|with_reducible exact wT|refine wA ?_|(refine wB (fun h=>?_) (fun h=>?_)<;>first|exact wN h|subst (h:(_:Bool)=_)|skip)|(refine wQ ?_;clear hQ hR hE hM)|refine wC c0 ?_|fail);all_goals clear hX)
  all_goals first|(exfalso;contradiction)|skip
  refine AWp.empty 4 3 1 rfl (Nat.zero_le _) (by simp -dsimp -implicitDefEqProofs (disch:=omega) only[go_sem,reduceIte,↓reduceIte,Nat.reduceEqDiff,Nat.reduceLT,Nat.reduceLeDiff,Nat.reduceAdd,Nat.reduceSub,Nat.reduceMul,Int.reduceToNat,Int.reduceLT,Int.reduceLE,Int.reduceEq,Int.reduceNeg,Int.reduceNe,reduceCtorEq,hlen,hbd,hba]) (by simp -dsimp -implicitDefEqProofs (disch:=omega) only[go_sem,reduceIte,↓reduceIte,Nat.reduceEqDiff,Nat.reduceLT,Nat.reduceLeDiff,Nat.reduceAdd,Nat.reduceSub,Nat.reduceMul,Int.reduceToNat,Int.reduceLT,Int.reduceLE,Int.reduceEq,Int.reduceNeg,Int.reduceNe,reduceCtorEq,hlen,hbd,hba]) ?_
  simp -dsimp -implicitDefEqProofs (disch:=omega) only[go_sem,reduceIte,↓reduceIte,Nat.reduceEqDiff,Nat.reduceLT,Nat.reduceLeDiff,Nat.reduceAdd,Nat.reduceSub,Nat.reduceMul,Int.reduceToNat,Int.reduceLT,Int.reduceLE,Int.reduceEq,Int.reduceNeg,Int.reduceNe,reduceCtorEq,hlen,hbd,hba]
  refine zap (ι:=Nat×(List Bool)) [3,4,5,6,19,20,21] (fun z=>[(4,.sm 3 z.2.length 0 z.2.length 1),(21,.n z.1)]) (fun z=>[(3,.cells (z.2.map AV.b) (decide (0<z.2.length)))]) (fun z=>z.1) (p.routes.length) (fun z=>(z.2.length=z.1)∧(z.2++(p.routes.drop z.1).map f=p.routes.map f)) (0,([]:List Bool)) ?_;rintro ⟨k,bs⟩ ⟨hk,hl,hg⟩;(try dsimp only at hk hl hg ⊢);rcases Nat.lt_or_ge k p.routes.length with hlt|hge
  ·rw[zaj hlt,List.map_cons]at hg
   have c1:=hc k hlt
   (have hX:=zA @hlen (zA @hbd (zA @hba @hgw));(repeat' first|refine zaa [0,1,2,3,4,5,6,7,8,16,19,20,21,22,37] fun K hK=>?_|(refine hK.go ?_;clear hK K)|with_reducible exact wT|refine wA ?_|(refine wB (fun h=>?_) (fun h=>?_)<;>first|exact wN h|subst (h:(_:Bool)=_)|skip)|(refine wQ ?_;clear hQ hR hE hM)|refine wC c1 ?_|fail);all_goals clear hX)
   refine ⟨(k+1,bs++[f (nth p.routes k)]),by dsimp only;omega,⟨by dsimp only;omega,by dsimp only;simp[hl],by dsimp only;rw[←hg];simp⟩,⟨by dsimp only;simp,by dsimp only;omega⟩,by dsimp only;simp⟩
  ·rw[List.drop_eq_nil_of_le hge,List.map_nil,List.append_nil]at hg
   (have hX:=zA @hlen (zA @hbd @hba);(repeat' first|refine zaa [0,1,2,3,4,5,6,7,8,16,19,20,21,22,37] fun K hK=>?_|(refine hK.go ?_;clear hK K)|with_reducible exact wT|refine wA ?_|(refine wB (fun h=>?_) (fun h=>?_)<;>first|exact wN h|subst (h:(_:Bool)=_)|skip)|(refine wQ ?_;clear hQ hR hE hM)|fail);all_goals clear hX)
   rw[hg]
 ·rw[show zki p s=[] by unfold zki;rw[if_neg hst]]
  rw[←hRe]at hst ⊢
  revert c0 hRl hst
  generalize ofR p s=R
  obtain ⟨G,Z,hg⟩:=zf7
  rw[←hg.eq]
  intro c0 hRl hst
  have hfold:=hg.fold
  have hlen0:=hg.len (.s0 4) hg.zl hg.zl
  have hlen:=hg.len (.sl 4 (R.ways.map Way.c)) hRl.1 hRl.2
  have hov:=hg.ov (.s0 4) (.sl 4 (R.ways.map Way.c)) hg.zl hg.zl hRl.1 hRl.2
  have hbd0:=hg.bd0 Z Z
  have hbd:=hg.bd R.hold R.ask (R.ways.map Way.c)
  have hba:=hg.ba R.hold R.ask (R.ways.map Way.c)
  refine PC.fn hH cd213 fun w0 M Q hM hE hQ hR=>?_;dsimp only[cd213,qm,ql,qf,qi,qb,qc,qp,qv,qN,qT,qF,qt]at hQ ⊢
  (have hX:=zA @hfold (zA @hlen0 (zA @hlen (zA @hov (zA @hbd0 (zA @hbd @hba)))));(repeat' first|refine zaa [0,1,2,3,4,5,6,7,8,16,19,20,21,22,37] fun K hK=>?_|(refine hK.go ?_;clear hK K)|with_reducible exact wT|refine wA ?_|(refine wB (fun h=>?_) (fun h=>?_)<;>first|exact wN h|subst (h:(_:Bool)=_)|skip)|(refine wQ ?_;clear hQ hR hE hM)|refine wC c0 ?_|fail);all_goals clear hX)
  all_goals first|rfl|(exfalso;contradiction)|skip
theorem is214_pc (hH:HasAll P inv) (n:Int) (x:Rte):PC P inv 214 ([.agg x.c]++[.ip 1 [[.n n]] 0 0]) (·=.b (decide (x.id=n))):=by
 refine PC.fn hH cd214 fun w0 M Q hM hE hQ hR=>?_;dsimp only[cd214,qm,ql,qf,qi,qb,qc,qp,qv,qN,qT,qF,qt]at hQ ⊢
 (repeat' first|refine zaa [0,1,2,3] fun K hK=>?_|(refine hK.go ?_;clear hK K)|with_reducible exact wT|refine wA ?_|(refine wB (fun h=>?_) (fun h=>?_)<;>first|exact wN h|subst (h:(_:Bool)=_)|skip)|(refine wQ ?_;clear hQ hR hE hM)|fail)
theorem zfI (hH:HasAll P inv) (hI:HasIds P inv) (p:Pln) (hp:Sm p) (s:State) (hs:SmS s) (n:Int):PC P inv 198 [.agg p.c,.agg s.c,.n n] (·=.tup [.b (decide (prC p s n=0)&&prR p s n),.n (prC p s n)]):=by
 have c0:=zmG hH hI p hp s hs
 have c1:=zqU hH p.routes (fun x _=>is214_pc hH n x) (Nat.le_trans hp.rte (by omega))
 have hrl:=hp.rte
 unfold prC prR
 by_cases hst:zac p s=0
 ·rw[hst]at c0
  simp only[if_pos hst]
  rw[show zki p s=zkj p s by unfold zki;rw[if_pos hst]]at c0
  have hix:rtIx p n=zbA (fun x=>decide (Rte.id x=n)) 0 p.routes:=rfl
  rcases zaQ Rte.id n p.routes with ⟨h4,_⟩|⟨i,hi,h4,h5⟩
  ·rw[h4]at c1 hix
   rw[hix]
   generalize zkj p s=bs at *
   refine PC.fn hH cd198 fun w0 M Q hM hE hQ hR=>?_;dsimp only[cd198,qm,ql,qf,qi,qb,qc,qp,qv,qN,qT,qF,qt]at hQ ⊢
   (repeat' first|refine zaa [0,1,2,3,4,5,6,7,8,9,10,18,25] fun K hK=>?_|(refine hK.go ?_;clear hK K)|with_reducible exact wT|refine wA ?_|(refine wB (fun h=>?_) (fun h=>?_)<;>first|exact wN h|subst (h:(_:Bool)=_)|skip)|(refine wQ ?_;clear hQ hR hE hM)|refine wC c0 ?_|refine wS c1 ?_|fail)
   all_goals first|rfl|(exfalso;contradiction)|skip
  ·rw[h4]at c1 hix
   rw[hix,if_neg (show ¬((i:Nat):Int)<0 by omega),if_neg (show ¬((i:Nat):Int)<0 by omega),Int.toNat_natCast]
   have hl:(zkj p s).length=p.routes.length:=by simp[zkj]
   have hn:nth (zkj p s) i=zdG p s (nth p.routes i):=zjw _ hi
   rw[←hn]
   generalize zkj p s=bs at *
   refine PC.fn hH cd198 fun w0 M Q hM hE hQ hR=>?_;dsimp only[cd198,qm,ql,qf,qi,qb,qc,qp,qv,qN,qT,qF,qt]at hQ ⊢
   (repeat' first|refine zaa [0,1,2,3,4,5,6,7,8,9,10,18,25] fun K hK=>?_|(refine hK.go ?_;clear hK K)|with_reducible exact wT|refine wA ?_|(refine wB (fun h=>?_) (fun h=>?_)<;>first|exact wN h|subst (h:(_:Bool)=_)|skip)|(refine wQ ?_;clear hQ hR hE hM)|refine wC c0 ?_|refine wS c1 ?_|fail)
   all_goals first|rfl|(exfalso;contradiction)|(exfalso;omega)|simp
 ·simp only[if_neg hst]
  rw[show zki p s=[] by unfold zki;rw[if_neg hst]]at c0
  generalize zac p s=e at c0 hst ⊢
  refine PC.fn hH cd198 fun w0 M Q hM hE hQ hR=>?_;dsimp only[cd198,qm,ql,qf,qi,qb,qc,qp,qv,qN,qT,qF,qt]at hQ ⊢
  (repeat' first|refine zaa [0,1,2,3,4,5,6,7,8,9,10,18,25] fun K hK=>?_|(refine hK.go ?_;clear hK K)|with_reducible exact wT|refine wA ?_|(refine wB (fun h=>?_) (fun h=>?_)<;>first|exact wN h|subst (h:(_:Bool)=_)|skip)|(refine wQ ?_;clear hQ hR hE hM)|refine wC c0 ?_|fail)
  all_goals first|rfl|(exfalso;contradiction)|simp[hst]
end Go.Lev
namespace Go.Lev
open Go.Eng
theorem setLk_at {p:Pln} {s:State} (h:zac p s=0) {i:Nat} (hi:i<s.locks.length):zox s (nth s.locks i).id=true↔(nth s.locks i).phase=1:=by
 unfold zox
 rw[List.any_eq_true]
 constructor
 ·rintro ⟨x,hx,e⟩
  simp only[Bool.and_eq_true,decide_eq_true_eq]at e
  obtain ⟨j,hj,rfl⟩:=zdv hx
  obtain rfl:=zkx h hi hj e.1
  exact e.2.1.symm
 ·intro e
  have h2:=zbR (zab h).2.1 hi
  simp only[zbs,zaq,e,Bool.and_eq_true]at h2
  have h3:=h2.2
  simp at h3
  exact ⟨_,zad hi,by simp[e,h3.1,h3.2]⟩
theorem zqz {p:Pln} {s:State} (h:zac p s=0) {a:AskR} (ha:zdY p a.pnt=true):lieT s a=true↔∀ k,k<s.switches.length→(nth s.switches k).id=a.pnt→(nth s.switches k).lie=a.lie:=by
 have ho:=zae h
 have hpa:=(zab h).2.1
 have hpl:=zag hpa
 obtain ⟨m,hm,em⟩:=isPnt_ix ha
 have hms:m<s.switches.length:=by omega
 have hnd:(s.switches.map Switch.id).Nodup:=by rw[zcR hpa];exact zbF ho
 have es:(nth s.switches m).id=a.pnt:=by rw[zjX hpa hms,em]
 unfold lieT
 rw[List.any_eq_true]
 constructor
 ·rintro ⟨x,hx,e⟩ k hk ek
  simp only[Bool.and_eq_true,decide_eq_true_eq]at e
  obtain ⟨j,hj,rfl⟩:=zdv hx
  obtain rfl:=zit Switch.id hnd hj hk (e.1.trans ek.symm)
  exact e.2
 ·intro e
  refine ⟨_,zad hms, ?_⟩
  simp only[Bool.and_eq_true,decide_eq_true_eq]
  exact ⟨es,e m hms es⟩
theorem rt_id {p:Pln} {s:State} (h:zai p s=true) {i:Nat} (hi:i<s.locks.length):(nth p.routes i).id=(nth s.locks i).id:=by
 have hl2:=zbR h hi
 simp only[zbs,Bool.and_eq_true,decide_eq_true_eq]at hl2
 exact hl2.1.symm
theorem zcT {p:Pln} {s:State} (h:zac p s=0) {i:Nat} (hi:i<p.routes.length):zdG p s (nth p.routes i)=true↔Prvd p s i:=by
 have ho:=zae h
 have hpa:=(zab h).2.1
 have hpl:=zag hpa
 have hr:nth p.routes i∈p.routes:=zad hi
 unfold zdG zkh
 rw[rt_id hpa (by omega)]
 simp only[Bool.and_eq_true,Bool.not_eq_true',List.any_eq_false,Bool.not_eq_false]
 rw[setLk_at h (by omega)]
 constructor
 ·rintro ⟨h1,h2,h3,h4⟩
  refine ⟨h1,fun x hx=>?_,fun a ha=>?_⟩
  ·have:frT s x=true:=by
    rcases List.mem_append.1 hx with h5|h5
    ·simpa using h2 x h5
    ·simpa using h3 x h5
   rw[ziF ho hpa,decide_eq_true_eq]at this
   exact this
  ·have:lieT s a=true:=by simpa using h4 a ha
   exact (zqz h (zlF ho hr ha)).1 this
 ·rintro ⟨h1,h2,h3⟩
  have hf:∀ x∈zdd p i,frT s x=true:=fun x hx=>by rw[ziF ho hpa,decide_eq_true_eq];exact h2 x hx
  refine ⟨h1,fun x hx=>?_,fun x hx=>?_,fun a ha=>?_⟩
  ·simp[hf x (List.mem_append.2 (.inl hx))]
  ·simp[hf x (List.mem_append.2 (.inr hx))]
  ·simp[(zqz h (zlF ho hr ha)).2 (h3 a ha)]
end Go.Lev
namespace Go.Lev
open Go.Eng
theorem ze1 {s:State} {n:Int}:zbB (zdh s n 1) n≠0:=by
 rw[zfO]
 cases e:s.tracks.find? (fun t=>decide (t.id=n)) with
 |none=>dsimp only;decide
 |some t =>
  have:t.id=n:=by simpa using List.find?_some e
  dsimp only
  rw[if_pos this]
  decide
theorem zjc {s:State} {n x:Int} (h:zbB (zdh s n 1) x=0):zbB s x=0∧x≠n:=by
 have hx:x≠n:=fun e=>by subst e;exact ze1 h
 exact ⟨by rw[←zg8 hx];exact h,hx⟩
theorem prv_T {p:Pln} {s:State} {i:Nat} {n:Int} (h:zac p s=0) (hi:i<p.routes.length) (e:zdG p (zdh s n 1) (nth p.routes i)=true):zdG p s (nth p.routes i)=true∧n∉zdd p i:=by
 have g:=(zcT (zcG h (by decide)) hi).1 e
 exact ⟨(zcT h hi).2 ⟨g.ph,fun x hx=>(zjc (g.sec x hx)).1,g.ask⟩,fun hn=>ze1 (g.sec n hn)⟩
theorem prv_L {p:Pln} {s:State} {i:Nat} {m:Int} (h:zac p s=0) (hi:i<p.routes.length) (e:zdG p (zgU s m 0) (nth p.routes i)=true):zdG p s (nth p.routes i)=true:=by
 have g:=(zcT (zhV h (by decide)) hi).1 e
 refine (zcT h hi).2 ⟨g.ph,g.sec,fun a ha k hk ek=>?_⟩
 have e1:nth (zgU s m 0).switches k=if (nth s.switches k).id=m then ⟨(nth s.switches k).id,0,(nth s.switches k).call⟩ else nth s.switches k:=zjw _ hk
 have h1:=g.ask a ha k (by rw[show (zgU s m 0).switches.length=s.switches.length from za0 _ _ _ _];exact hk)
 rw[e1]at h1
 have hal:=(zbz (zae h) (zad hi) ha).2.2
 by_cases hm:(nth s.switches k).id=m
 ·rw[if_pos hm]at h1
  have:=h1 ek
  dsimp only at this
  omega
 ·rw[if_neg hm]at h1
  exact h1 ek
theorem ix_rte {p:Pln} (ho:OkP p) {m:Nat} (hm:m<p.routes.length):zbA (fun x=>decide (Rte.id x=(nth p.routes m).id)) 0 p.routes=(m:Int):=by
 rcases zaQ Rte.id (nth p.routes m).id p.routes with ⟨_,h4⟩|⟨k,hk,h4,h5⟩
 ·exact absurd rfl (h4 _ (zad hm))
 ·rw[h4,zit Rte.id (zh0 ho) hk hm h5]
end Go.Lev
namespace Go.Lev
open Go.Eng
end Go.Lev
namespace Go.Lev
open Go.Eng
end Go.Lev
namespace Go.Lev
open Go.Eng
set_option maxRecDepth 10000
set_option maxHeartbeats 4000000
variable {P:Program} {inv:Nat→Option Nat} {w0:World} {M:Nat→Prop}
theorem znP {p:Pln} {t:State} {n:Int} {i:Nat} (h:zac p t=0) (hi:rtIx p n=(i:Int)):prC p t n=0∧prR p t n=zdG p t (nth p.routes i):=by
 unfold prC prR
 rw[if_pos h,hi,if_neg (by omega),if_neg (by omega),Int.toNat_natCast]
 exact ⟨rfl,rfl⟩
end Go.Lev
namespace Go.Lev
open Go.Eng
theorem prv_setl {p:Pln} {u:State} (h:zac p u=0) {i:Nat} (hi:i<p.routes.length) (e:zdG p (zax p u) (nth p.routes i)=true):zdG p u (nth p.routes i)=true:=by
 have g:=(zcT (zcF h) hi).1 e
 have hl:=zag (zab h).2.1
 have hi2:i<u.locks.length:=by omega
 have hg:=(znH h hi2).same (.inl g.ph)
 exact (zcT h hi).2 ⟨by rw[←hg];exact g.ph,g.sec,g.ask⟩
theorem step_prv {p:Pln} {s u:State} {a:ActD} (g:StepS p s a u) {i:Nat} (hi:i<p.routes.length) (e:zdG p (zax p u) (nth p.routes i)=true) :
  (zdG p s (nth p.routes i)=true∨((a.kind=1∧a.value=0)∨(a.kind=2∧¬a.value=0)∨a.kind=5))∧(a.kind=1→a.value=1→a.id∉zdd p i):=by
 have e1:=prv_setl g.code hi e
 have hst:=g.st
 have hl:=zag (zab hst).2.1
 rcases g.all with ⟨hk,hu,_,hv⟩|⟨hk,hu,_,hv⟩|⟨hk,hu⟩|⟨hk,hu,hm,hv⟩|⟨hk,j,hm,hu⟩|⟨hk,hu,hc⟩
 ·rcases hv with hv|hv
  ·exact ⟨.inr (.inl ⟨hk,hv⟩),fun _ h=>by omega⟩
  ·rw[hu,hv]at e1
   have:=prv_T hst hi e1
   exact ⟨.inl this.1,fun _ _=>this.2⟩
 ·refine ⟨?_,fun h=>by omega⟩
  by_cases h0:a.value=0
  ·rw[hu,h0]at e1
   exact .inl (prv_L hst hi e1)
  ·exact .inr (.inr (.inl ⟨hk,h0⟩))
 ·refine ⟨.inl ?_,fun h=>by omega⟩
  have gg:=(zcT g.code hi).1 e1
  rw[hu]at gg
  have hp:=gg.ph
  rw[zpu s (by omega)]at hp
  have hsame:zcQ (nth s.locks i)=nth s.locks i:=by
   have h2:=zkw (zbR (zab hst).2.1 (show i<s.locks.length by omega))
   unfold zcQ at hp ⊢
   split
   ·rfl
   ·rename_i h3
    rw[if_neg h3]at hp
    split at hp
    ·cases hp
    ·dsimp only at hp;omega
  rw[hsame]at hp
  exact (zcT hst hi).2 ⟨hp,gg.sec,gg.ask⟩
 ·refine ⟨.inl ?_,fun h=>by omega⟩
  have gg:=(zcT g.code hi).1 e1
  rw[hu]at gg
  refine (zcT hst hi).2 ⟨gg.ph,gg.sec,fun b hb k hk' ek=>?_⟩
  have e2:nth (zoB s a.id a.value).switches k=if (nth s.switches k).id=a.id then ⟨(nth s.switches k).id,(nth s.switches k).lie,a.value⟩ else nth s.switches k:=zjw _ hk'
  have h1:=gg.ask b hb k (by rw[show (zoB s a.id a.value).switches.length=s.switches.length from za0 _ _ _ _];exact hk')
  rw[e2]at h1
  split at h1
  ·exact h1 ek
  ·exact h1 ek
 ·exact ⟨.inr (.inr (.inr hk)),fun h=>by omega⟩
 ·refine ⟨.inl ?_,fun h=>by omega⟩
  have gg:=(zcT g.code hi).1 e1
  rw[hu]at gg
  obtain ⟨j,hj,hid,hix,he⟩:=zro hst hc
  have hp:=gg.ph
  have key:nth (cnS p s a.id).locks i=if i=j then cnL s (zak p (nth p.routes j)).1 (nth p.routes j) (nth s.locks j) a.id else nth s.locks i:=by
   unfold cnS
   rw[hix,Int.toNat_natCast]
   exact za7 _ _ _ _ hj
  rw[key]at hp
  split at hp
  ·unfold cnL at hp
   split at hp<;>cases hp
  ·exact (zcT hst hi).2 ⟨hp,gg.sec,gg.ask⟩
end Go.Lev
namespace Go.Lev
open Go.Eng
set_option maxRecDepth 10000
set_option maxHeartbeats 4000000
variable {P:Program} {inv:Nat→Option Nat} {w0:World} {M:Nat→Prop}
theorem zrm (hH:HasAll P inv) (hI:HasIds P inv) (p:Pln) (hp:Pln.ok p) (s:State) (hs:s.ok) (a:ActD) (ha:0≤a.kind∧a.kind≤255) (at':Int):PC P inv 376 [.agg p.c,.agg s.c,.agg a.c,.n at'] (·=.b true):=by
 have c0:=zgS hH hI
 have c1:=zbK hH p
 have c2:=zdb hH s
 cases g1:zet p with
 |true =>
  rw[g1]at c1
  refine PC.fn hH cd376 fun w0 M Q hM hE hQ hR=>?_;dsimp only[cd376,qm,ql,qf,qi,qb,qc,qp,qv,qN,qT,qF,qt]at hQ ⊢
  (repeat' first|refine zaa [0,1,2,3,4,5,6,8,9,10,11,12,13,14,15,16,17,39,49,60,72,80,112,121,148] fun K hK=>?_|(refine hK.go ?_;clear hK K)|with_reducible exact wT|refine wA ?_|(refine wB (fun h=>?_) (fun h=>?_)<;>first|exact wN h|subst (h:(_:Bool)=_)|skip)|(refine wQ ?_;clear hQ hR hE hM)|refine wC c0 ?_|refine wC c1 ?_|fail)
 |false =>
  rw[g1]at c1
  cases g2:zfS s with
  |true =>
   rw[g2]at c2
   refine PC.fn hH cd376 fun w0 M Q hM hE hQ hR=>?_;dsimp only[cd376,qm,ql,qf,qi,qb,qc,qp,qv,qN,qT,qF,qt]at hQ ⊢
   (repeat' first|refine zaa [0,1,2,3,4,5,6,8,9,10,11,12,13,14,15,16,17,39,49,60,72,80,112,121,148] fun K hK=>?_|(refine hK.go ?_;clear hK K)|with_reducible exact wT|refine wA ?_|(refine wB (fun h=>?_) (fun h=>?_)<;>first|exact wN h|subst (h:(_:Bool)=_)|skip)|(refine wQ ?_;clear hQ hR hE hM)|refine wC c0 ?_|refine wC c1 ?_|refine wC c2 ?_|fail)
  |false =>
   rw[g2]at c2
   have sp:=zmr hp g1
   have ss:=zhO g2
   have hrl:=sp.rte
   have c3:=zrj hH hI p sp s ss (tr_u8 hs) a ha
   by_cases hi0:0≤at'∧at'<p.routes.length
   ·obtain ⟨ha1,ha2⟩:=hi0
    obtain ⟨i,rfl⟩:∃ i:Nat,at'=i:=⟨at'.toNat,by omega⟩
    have hi:i<p.routes.length:=by omega
    by_cases he:doC p s a=0
    ·obtain ⟨u,g,hR⟩:=zjY he
     rw[he,hR]at c3
     have hst:=g.st
     have ho:=zae hst
     have e1:rtIx p (nth p.routes i).id=(i:Int):=ix_rte ho hi
     have c4:=zfI hH hI p sp s ss (nth p.routes i).id
     rw[(znP hst e1).1,(znP hst e1).2]at c4
     have sT:SmS (zax p u):=by
      have:=zj5 (p:=p) (zkU p ss a)
      rw[g.eq]at this
      exact this
     have hc:=zcF g.code
     have c5:=zfI hH hI p sp _ sT (nth p.routes i).id
     rw[(znP hc e1).1,(znP hc e1).2]at c5
     have hwp:=zbg ((zaU (zab hst).1).2.1 _ (zad hi))
     have hf:=fun e=>step_prv g hi e
     have hpl:=(zbI ho (zad hi)).2.1
     have hin:∀ j,j<(nth p.routes i).path.length→nth (nth p.routes i).path j∈zdd p i:=fun j hj=>by
      unfold zdd
      rw[hwp.1]
      exact List.mem_append.2 (.inl (zad hj))
     generalize zdG p (zax p u) (nth p.routes i)=now at *
     generalize zdG p s (nth p.routes i)=was at *
     generalize zax p u=T at *
     have hf1:now=true→was=false→((a.kind=1∧a.value=0)∨(a.kind=2∧¬a.value=0)∨a.kind=5):=fun h hw=>by
      rcases (hf h).1 with h1|h1
      ·rw[hw]at h1;cases h1
      ·exact h1
     have hf2:now=true→∀ j,j<(nth p.routes i).path.length→¬(a.kind=1∧a.value=1∧a.id=nth (nth p.routes i).path j):=fun h j hj h1=>(hf h).2 h1.1 h1.2.1 (by rw[h1.2.2];exact hin j hj)
     clear hf hin hwp hst ho e1 hc sT hR g he
     cases now with
     |false =>
      refine PC.fn hH cd376 fun w0 M Q hM hE hQ hR=>?_;dsimp only[cd376,qm,ql,qf,qi,qb,qc,qp,qv,qN,qT,qF,qt]at hQ ⊢
      (repeat' first|refine zaa [0,1,2,3,4,5,6,8,9,10,11,12,13,14,15,16,17,39,49,60,72,80,112,121,148] fun K hK=>?_|(refine hK.go ?_;clear hK K)|with_reducible exact wT|refine wA ?_|(refine wB (fun h=>?_) (fun h=>?_)<;>first|exact wN h|subst (h:(_:Bool)=_)|skip)|(refine wQ ?_;clear hQ hR hE hM)|refine wC c0 ?_|refine wC c1 ?_|refine wC c2 ?_|refine wC c3 ?_|refine wC c4 ?_|refine wC c5 ?_|fail)
      all_goals first|(exfalso;contradiction)|skip
      all_goals
       refine zap (ι:=Nat) [3,4,6,8,9,14,17] (fun z=>[(17,.n z)]) (fun _=>[]) (fun z=>z) ((nth p.routes i).path.length) (fun _=>True) (0) ?_;rintro j ⟨hk,-⟩;(try dsimp only at hk ⊢);rcases Nat.lt_or_ge j (nth p.routes i).path.length with hlt|hge
       ·have hj9:j<(nth p.routes i).path.length:=by assumption
        have d0:=zca hj9
        (have hX:=@d0;(repeat' first|refine zaa [0,1,2,3,4,5,6,8,9,10,11,12,13,14,15,16,17,39,49,60,72,80,112,121,148] fun K hK=>?_|(refine hK.go ?_;clear hK K)|with_reducible exact wT|refine wA ?_|(refine wB (fun h=>?_) (fun h=>?_)<;>first|exact wN h|subst (h:(_:Bool)=_)|skip)|(refine wQ ?_;clear hQ hR hE hM)|fail);all_goals clear hX)
        all_goals first|(exfalso;contradiction)|(exfalso;omega)|exact ⟨j+1,by omega,by omega,by omega⟩|trace_state
       ·(repeat' first|refine zaa [0,1,2,3,4,5,6,8,9,10,11,12,13,14,15,16,17,39,49,60,72,80,112,121,148] fun K hK=>?_|(refine hK.go ?_;clear hK K)|with_reducible exact wT|refine wA ?_|(refine wB (fun h=>?_) (fun h=>?_)<;>first|exact wN h|subst (h:(_:Bool)=_)|skip)|(refine wQ ?_;clear hQ hR hE hM)|fail)
        all_goals first|rfl|(exfalso;contradiction)|trace_state
     |true =>
      have hf2:=hf2 rfl
      cases was with
      |true =>
       refine PC.fn hH cd376 fun w0 M Q hM hE hQ hR=>?_;dsimp only[cd376,qm,ql,qf,qi,qb,qc,qp,qv,qN,qT,qF,qt]at hQ ⊢
       (repeat' first|refine zaa [0,1,2,3,4,5,6,8,9,10,11,12,13,14,15,16,17,39,49,60,72,80,112,121,148] fun K hK=>?_|(refine hK.go ?_;clear hK K)|with_reducible exact wT|refine wA ?_|(refine wB (fun h=>?_) (fun h=>?_)<;>first|exact wN h|subst (h:(_:Bool)=_)|skip)|(refine wQ ?_;clear hQ hR hE hM)|refine wC c0 ?_|refine wC c1 ?_|refine wC c2 ?_|refine wC c3 ?_|refine wC c4 ?_|refine wC c5 ?_|fail)
       all_goals first|(exfalso;contradiction)|skip
       all_goals
        refine zap (ι:=Nat) [3,4,6,8,9,14,17] (fun z=>[(17,.n z)]) (fun _=>[]) (fun z=>z) ((nth p.routes i).path.length) (fun _=>True) (0) ?_;rintro j ⟨hk,-⟩;(try dsimp only at hk ⊢);rcases Nat.lt_or_ge j (nth p.routes i).path.length with hlt|hge
        ·have hj9:j<(nth p.routes i).path.length:=by assumption
         have d0:=zca hj9
         have w1:=hf2 j hj9
         (have hX:=@d0;(repeat' first|refine zaa [0,1,2,3,4,5,6,8,9,10,11,12,13,14,15,16,17,39,49,60,72,80,112,121,148] fun K hK=>?_|(refine hK.go ?_;clear hK K)|with_reducible exact wT|refine wA ?_|(refine wB (fun h=>?_) (fun h=>?_)<;>first|exact wN h|subst (h:(_:Bool)=_)|skip)|(refine wQ ?_;clear hQ hR hE hM)|fail);all_goals clear hX)
         all_goals first|(exfalso;contradiction)|(exfalso;omega)|exact ⟨j+1,by omega,by omega,by omega⟩|trace_state
        ·(repeat' first|refine zaa [0,1,2,3,4,5,6,8,9,10,11,12,13,14,15,16,17,39,49,60,72,80,112,121,148] fun K hK=>?_|(refine hK.go ?_;clear hK K)|with_reducible exact wT|refine wA ?_|(refine wB (fun h=>?_) (fun h=>?_)<;>first|exact wN h|subst (h:(_:Bool)=_)|skip)|(refine wQ ?_;clear hQ hR hE hM)|fail)
         all_goals first|rfl|(exfalso;contradiction)|trace_state
      |false =>
       have hf1:=hf1 rfl rfl
       refine PC.fn hH cd376 fun w0 M Q hM hE hQ hR=>?_;dsimp only[cd376,qm,ql,qf,qi,qb,qc,qp,qv,qN,qT,qF,qt]at hQ ⊢
       (repeat' first|refine zaa [0,1,2,3,4,5,6,8,9,10,11,12,13,14,15,16,17,39,49,60,72,80,112,121,148] fun K hK=>?_|(refine hK.go ?_;clear hK K)|with_reducible exact wT|refine wA ?_|(refine wB (fun h=>?_) (fun h=>?_)<;>first|exact wN h|subst (h:(_:Bool)=_)|skip)|(refine wQ ?_;clear hQ hR hE hM)|refine wC c0 ?_|refine wC c1 ?_|refine wC c2 ?_|refine wC c3 ?_|refine wC c4 ?_|refine wC c5 ?_|fail)
       all_goals first|(exfalso;contradiction)|(exfalso;omega)|skip
       all_goals
        refine zap (ι:=Nat) [3,4,6,8,9,14,17] (fun z=>[(17,.n z)]) (fun _=>[]) (fun z=>z) ((nth p.routes i).path.length) (fun _=>True) (0) ?_;rintro j ⟨hk,-⟩;(try dsimp only at hk ⊢);rcases Nat.lt_or_ge j (nth p.routes i).path.length with hlt|hge
        ·have hj9:j<(nth p.routes i).path.length:=by assumption
         have d0:=zca hj9
         have w1:=hf2 j hj9
         (have hX:=@d0;(repeat' first|refine zaa [0,1,2,3,4,5,6,8,9,10,11,12,13,14,15,16,17,39,49,60,72,80,112,121,148] fun K hK=>?_|(refine hK.go ?_;clear hK K)|with_reducible exact wT|refine wA ?_|(refine wB (fun h=>?_) (fun h=>?_)<;>first|exact wN h|subst (h:(_:Bool)=_)|skip)|(refine wQ ?_;clear hQ hR hE hM)|fail);all_goals clear hX)
         all_goals first|(exfalso;contradiction)|(exfalso;omega)|exact ⟨j+1,by omega,by omega,by omega⟩|trace_state
        ·(repeat' first|refine zaa [0,1,2,3,4,5,6,8,9,10,11,12,13,14,15,16,17,39,49,60,72,80,112,121,148] fun K hK=>?_|(refine hK.go ?_;clear hK K)|with_reducible exact wT|refine wA ?_|(refine wB (fun h=>?_) (fun h=>?_)<;>first|exact wN h|subst (h:(_:Bool)=_)|skip)|(refine wQ ?_;clear hQ hR hE hM)|fail)
         all_goals first|rfl|(exfalso;contradiction)|trace_state
    ·generalize doC p s a=e at *
     refine PC.fn hH cd376 fun w0 M Q hM hE hQ hR=>?_;dsimp only[cd376,qm,ql,qf,qi,qb,qc,qp,qv,qN,qT,qF,qt]at hQ ⊢
     (repeat' first|refine zaa [0,1,2,3,4,5,6,8,9,10,11,12,13,14,15,16,17,39,49,60,72,80,112,121,148] fun K hK=>?_|(refine hK.go ?_;clear hK K)|with_reducible exact wT|refine wA ?_|(refine wB (fun h=>?_) (fun h=>?_)<;>first|exact wN h|subst (h:(_:Bool)=_)|skip)|(refine wQ ?_;clear hQ hR hE hM)|refine wC c0 ?_|refine wC c1 ?_|refine wC c2 ?_|refine wC c3 ?_|fail)
     all_goals first|rfl|(exfalso;contradiction)|trace_state
   ·have key:at'<0∨(p.routes.length:Int)≤at':=by
     by_cases h2:at'<0
     ·exact .inl h2
     ·exact .inr (by omega)
    clear hi0
    refine PC.fn hH cd376 fun w0 M Q hM hE hQ hR=>?_;dsimp only[cd376,qm,ql,qf,qi,qb,qc,qp,qv,qN,qT,qF,qt]at hQ ⊢
    (repeat' first|refine zaa [0,1,2,3,4,5,6,8,9,10,11,12,13,14,15,16,17,39,49,60,72,80,112,121,148] fun K hK=>?_|(refine hK.go ?_;clear hK K)|with_reducible exact wT|refine wA ?_|(refine wB (fun h=>?_) (fun h=>?_)<;>first|exact wN h|subst (h:(_:Bool)=_)|skip)|(refine wQ ?_;clear hQ hR hE hM)|refine wC c0 ?_|refine wC c1 ?_|refine wC c2 ?_|fail)
    all_goals first|rfl|(exfalso;contradiction)|(exfalso;omega)|trace_state
end Go.Lev
namespace Go.Lev
open Go.Eng
section
variable {p:Pln} {s u:State} {a:ActD} (g:StepS p s a u)
include g
end
end Go.Lev
namespace Go.Lev
open Go.Eng
section
variable {r:Rte} {is:Int→Int} {id:Int} (h0:0<r.path.length) (ht:1≤r.timer)
include h0 ht
end
section
variable (p:Pln) (at' d:Nat)
end
section
variable {p:Pln} {at' d:Nat} {i:Nat} {t:State}
variable (hd:d=1∨d=2) (g:TrI p at' d i t) (hi:i<(nth p.routes at').path.length)
include g
include hd hi
end
section
variable {p:Pln} {at' d:Nat} {i:Nat} {t:State} (g:TrI p at' d i t)
include g
end
end Go.Lev
