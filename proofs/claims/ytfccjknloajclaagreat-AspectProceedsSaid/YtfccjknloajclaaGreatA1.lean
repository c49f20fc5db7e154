/-
  A part of the engine that walks the functions' codes, and of the functions' contracts. Conditions: those that each theorem names.
-/
import Derived.Test.YtfccjknloajclaaGreatL6
import Derived.IntWalk
set_option linter.unusedSimpArgs false
set_option linter.unusedVariables false
set_option linter.unusedSectionVars false
namespace Go.Eng
open Go.RowKit
section
variable {P:Program} {inv:Nat→Option Nat} {w0:World} {M:Nat→Prop} {n N:Nat} {φ:AF} {σ:AS} {β:Nat→Nat} {a:Act} {w:World}
end
section cells
variable {α:Type} {c:α→List AV} {sz:Nat} [h:Cells c sz]
include h
theorem zcO {l:List α} {k i:Nat} [Inhabited α] (hk:k<l.length) (hi:i<sz) (x:AV) (a:α) (ha:c a=(c (nth l k)).set i x):(l.map c).flatten.set (k*sz+i) x=((l.set k a).map c).flatten:=by
 induction l generalizing k with
 |nil=>simp at hk
 |cons y l ih =>
  cases k with
  |zero =>
   simp only[Nat.zero_mul,Nat.zero_add,List.map_cons,List.flatten_cons,List.set_cons_zero]
   rw[List.set_append_left _ _ (by rw[h.len];exact hi),ha]
   rfl
  |succ k =>
   simp only[List.map_cons,List.flatten_cons,List.set_cons_succ]
   rw[List.set_append_right _ _ (by rw[h.len,Nat.add_mul];omega),h.len,show (k+1)*sz+i-sz=k*sz+i by rw[Nat.add_mul];omega]
   rw[ih (by simpa using hk) (by simpa [nth] using ha)]
end cells
end Go.Eng
namespace Go.Lev
open Go.Eng
set_option maxRecDepth 10000
set_option maxHeartbeats 4000000
variable {P:Program} {inv:Nat→Option Nat}
theorem zku (hH:HasAll P inv) (l:List Track) (h:l.length≤1000000):PO P inv 31 [.sl 2 (l.map Track.c)] (.sm 0 (l.length*2) 0 l.length 2) [(0,.cells (l.map Track.c).flatten (decide (0<l.length)))]:=by
 refine PO.fn hH cd31 fun w0 M Q hM hE hQ hR=>?_;dsimp only[cd31,qm,ql,qf,qi,qb,qc,qp,qv,qN,qT,qF,qt]at hQ ⊢
 (repeat' first|refine zaa [0,2,4] fun K hK=>?_|(refine hK.go ?_;clear hK K)|with_reducible exact wT|refine wA ?_|(refine wB (fun h=>?_) (fun h=>?_)<;>first|exact wN h|subst (h:(_:Bool)=_)|skip)|(refine wR ?_;clear hQ hR hE hM)|fail)
 ·right
  have h0:l.length=0:=by assumption
  obtain rfl:=List.length_eq_zero_iff.1 h0
  exact ⟨2,rfl,by simp,by simp⟩
 ·left
  constructor
  ·(refine no_implicit_lambda% (st ?_);try with_reducible exact wT)
  ·(refine no_implicit_lambda% (st ?_);try with_reducible exact wT)
theorem ziY (hH:HasAll P inv) (l:List Switch) (h:l.length≤1000000):PO P inv 32 [.sl 3 (l.map Switch.c)] (.sm 0 (l.length*3) 0 l.length 3) [(0,.cells (l.map Switch.c).flatten (decide (0<l.length)))]:=by
 refine PO.fn hH cd32 fun w0 M Q hM hE hQ hR=>?_;dsimp only[cd32,qm,ql,qf,qi,qb,qc,qp,qv,qN,qT,qF,qt]at hQ ⊢
 (repeat' first|refine zaa [0,2,4] fun K hK=>?_|(refine hK.go ?_;clear hK K)|with_reducible exact wT|refine wA ?_|(refine wB (fun h=>?_) (fun h=>?_)<;>first|exact wN h|subst (h:(_:Bool)=_)|skip)|(refine wR ?_;clear hQ hR hE hM)|fail)
 ·right
  have h0:l.length=0:=by assumption
  obtain rfl:=List.length_eq_zero_iff.1 h0
  exact ⟨3,rfl,by simp,by simp⟩
 ·left
  constructor
  ·(refine no_implicit_lambda% (st ?_);try with_reducible exact wT)
  ·(refine no_implicit_lambda% (st ?_);try with_reducible exact wT)
theorem zlJ (hH:HasAll P inv) (l:List Lock) (h:l.length≤1000000):PO P inv 33 [.sl 4 (l.map Lock.c)] (.sm 0 (l.length*4) 0 l.length 4) [(0,.cells (l.map Lock.c).flatten (decide (0<l.length)))]:=by
 refine PO.fn hH cd33 fun w0 M Q hM hE hQ hR=>?_;dsimp only[cd33,qm,ql,qf,qi,qb,qc,qp,qv,qN,qT,qF,qt]at hQ ⊢
 (repeat' first|refine zaa [0,2,4] fun K hK=>?_|(refine hK.go ?_;clear hK K)|with_reducible exact wT|refine wA ?_|(refine wB (fun h=>?_) (fun h=>?_)<;>first|exact wN h|subst (h:(_:Bool)=_)|skip)|(refine wR ?_;clear hQ hR hE hM)|fail)
 ·right
  have h0:l.length=0:=by assumption
  obtain rfl:=List.length_eq_zero_iff.1 h0
  exact ⟨4,rfl,by simp,by simp⟩
 ·left
  constructor
  ·(refine no_implicit_lambda% (st ?_);try with_reducible exact wT)
  ·(refine no_implicit_lambda% (st ?_);try with_reducible exact wT)
end Go.Lev
namespace Go.Lev
open Go.Eng
set_option maxRecDepth 10000
set_option maxHeartbeats 4000000
variable {P:Program} {inv:Nat→Option Nat}
theorem zqK (hH:HasAll P inv) {jc:Nat} {caps:List AV} {p:Track→Bool} (l:List Track) (hc:∀ x∈l,PC P inv jc ([.agg x.c]++caps) (·=.b (p x))) (hl:l.length≤1000000000):PC P inv 96 [.sl 2 (l.map Track.c),.fn jc caps] (·=.n (zaW p 0 l)):=by
 refine PC.fn hH cd96 fun w0 M Q hM hE hQ hR=>?_;dsimp only[cd96,qm,ql,qf,qi,qb,qc,qp,qv,qN,qT,qF,qt]at hQ ⊢
 (repeat' first|refine zaa [0,1,4,5,7,8,9,16] fun K hK=>?_|(refine hK.go ?_;clear hK K)|with_reducible exact wT|refine wA ?_|(refine wB (fun h=>?_) (fun h=>?_)<;>first|exact wN h|subst (h:(_:Bool)=_)|skip)|(refine wQ ?_;clear hQ hR hE hM)|fail)
 refine zbW (fun k=>[(0,.sl 2 (l.map Track.c)),(1,.fn jc caps),(7,.n l.length),(8,.n k)]) (fun k=>[]) (l.length) (fun k=>zaW p k (l.drop k)=zaW p 0 l) ?_;rintro k ⟨hk,hg⟩;rcases Nat.lt_or_ge k l.length with hlt|hge
 ·rw[zad hlt]at hg
  rw[zaW]at hg
  (repeat' first|refine zaa [0,1,4,5,7,8,9,16] fun K hK=>?_|(refine hK.go ?_;clear hK K)|with_reducible exact wT|refine wA ?_|(refine wB (fun h=>?_) (fun h=>?_)<;>first|exact wN h|subst (h:(_:Bool)=_)|skip)|(refine wQ ?_;clear hQ hR hE hM)|(refine zas hM (hc _ (zab hlt)) ?_;try (refine no_implicit_lambda% (st ?_);try with_reducible exact wT))|fail)
  ·rw[←hg,if_pos h]
  ·exact ⟨k+1,by omega,⟨by omega,by rw[←hg,if_neg (by rw[h];simp)];rfl⟩,(by (try dsimp only);(first|omega|(simp;done)|(simp;omega)))⟩
 ·rw[List.drop_eq_nil_of_le hge]at hg
  (repeat' first|refine zaa [0,1,4,5,7,8,9,16] fun K hK=>?_|(refine hK.go ?_;clear hK K)|with_reducible exact wT|refine wA ?_|(refine wB (fun h=>?_) (fun h=>?_)<;>first|exact wN h|subst (h:(_:Bool)=_)|skip)|(refine wQ ?_;clear hQ hR hE hM)|fail)
  rw[←hg];rfl
theorem idx_lck (hH:HasAll P inv) {jc:Nat} {caps:List AV} {p:Lock→Bool} (l:List Lock) (hc:∀ x∈l,PC P inv jc ([.agg x.c]++caps) (·=.b (p x))) (hl:l.length≤1000000000):PC P inv 173 [.sl 4 (l.map Lock.c),.fn jc caps] (·=.n (zaW p 0 l)):=by
 refine PC.fn hH cd173 fun w0 M Q hM hE hQ hR=>?_;dsimp only[cd173,qm,ql,qf,qi,qb,qc,qp,qv,qN,qT,qF,qt]at hQ ⊢
 (repeat' first|refine zaa [0,1,4,5,7,8,9,16] fun K hK=>?_|(refine hK.go ?_;clear hK K)|with_reducible exact wT|refine wA ?_|(refine wB (fun h=>?_) (fun h=>?_)<;>first|exact wN h|subst (h:(_:Bool)=_)|skip)|(refine wQ ?_;clear hQ hR hE hM)|fail)
 refine zbW (fun k=>[(0,.sl 4 (l.map Lock.c)),(1,.fn jc caps),(7,.n l.length),(8,.n k)]) (fun k=>[]) (l.length) (fun k=>zaW p k (l.drop k)=zaW p 0 l) ?_;rintro k ⟨hk,hg⟩;rcases Nat.lt_or_ge k l.length with hlt|hge
 ·rw[zad hlt]at hg
  rw[zaW]at hg
  (repeat' first|refine zaa [0,1,4,5,7,8,9,16] fun K hK=>?_|(refine hK.go ?_;clear hK K)|with_reducible exact wT|refine wA ?_|(refine wB (fun h=>?_) (fun h=>?_)<;>first|exact wN h|subst (h:(_:Bool)=_)|skip)|(refine wQ ?_;clear hQ hR hE hM)|(refine zas hM (hc _ (zab hlt)) ?_;try (refine no_implicit_lambda% (st ?_);try with_reducible exact wT))|fail)
  ·rw[←hg,if_pos h]
  ·exact ⟨k+1,by omega,⟨by omega,by rw[←hg,if_neg (by rw[h];simp)];rfl⟩,(by (try dsimp only);(first|omega|(simp;done)|(simp;omega)))⟩
 ·rw[List.drop_eq_nil_of_le hge]at hg
  (repeat' first|refine zaa [0,1,4,5,7,8,9,16] fun K hK=>?_|(refine hK.go ?_;clear hK K)|with_reducible exact wT|refine wA ?_|(refine wB (fun h=>?_) (fun h=>?_)<;>first|exact wN h|subst (h:(_:Bool)=_)|skip)|(refine wQ ?_;clear hQ hR hE hM)|fail)
  rw[←hg];rfl
end Go.Lev
namespace Go.Lev
open Go.Eng
set_option maxRecDepth 10000
set_option maxHeartbeats 4000000
variable {P:Program} {inv:Nat→Option Nat}
theorem zmP (hH:HasAll P inv) (l:List Flk) (h:l.length≤1000000):PC P inv 128 [.sl 2 (l.map Flk.c)] (·=.sl 2 (l.map Flk.c)):=by
 refine PC.fn hH cd128 fun w0 M Q hM hE hQ hR=>?_;dsimp only[cd128,qm,ql,qf,qi,qb,qc,qp,qv,qN,qT,qF,qt]at hQ ⊢
 (repeat' first|refine zaa [0,2,4] fun K hK=>?_|(refine hK.go ?_;clear hK K)|with_reducible exact wT|refine wA ?_|(refine wB (fun h=>?_) (fun h=>?_)<;>first|exact wN h|subst (h:(_:Bool)=_)|skip)|(refine wQ ?_;clear hQ hR hE hM)|fail)
 ·have h0:l.length=0:=by assumption
  obtain rfl:=List.length_eq_zero_iff.1 h0
  rfl
theorem zn4 (hH:HasAll P inv) (r:Rte) (h:r.path.length≤1000000∧r.over.length≤1000000∧r.flanks.length≤1000000):PC P inv 99 [.agg r.c] (·=.agg r.c):=by
 refine PC.fn hH cd99 fun w0 M Q hM hE hQ hR=>?_;dsimp only[cd99,qm,ql,qf,qi,qb,qc,qp,qv,qN,qT,qF,qt]at hQ ⊢
 (repeat' first|refine zaa [0,1,2] fun K hK=>?_|(refine hK.go ?_;clear hK K)|with_reducible exact wT|refine wA ?_|(refine wB (fun h=>?_) (fun h=>?_)<;>first|exact wN h|subst (h:(_:Bool)=_)|skip)|(refine wQ ?_;clear hQ hR hE hM)|(refine zas hM (zdX hH _ h.1) ?_;try (refine no_implicit_lambda% (st ?_);try with_reducible exact wT))|(refine zas hM (zdX hH _ h.2.1) ?_;try (refine no_implicit_lambda% (st ?_);try with_reducible exact wT))|(refine zas hM (zmP hH _ h.2.2) ?_;try (refine no_implicit_lambda% (st ?_);try with_reducible exact wT))|fail)
theorem zmT (hH:HasAll P inv) (hI:HasIds P inv) (p:Pln) (hp:Sm p) (n:Int):PC P inv 98 [.agg p.c,.sl 7 (p.routes.map Rte.c),.n n] (·=.tup [.agg (zfE p n).1.c,.n (zfE p n).2]):=by
 have c0:=zgO hH hI p hp
 have c1:=find_rte hH hI p.routes (Nat.le_trans hp.rte (by omega)) n
 cases ho:zbB p with
 |false =>
  rw[show zbZ p=8 by simp[zbZ,ho]]at c0
  rw[show zfE p n=(Rte.z,8) by simp[zfE,ho]]
  refine PC.fn hH cd98 fun w0 M Q hM hE hQ hR=>?_;dsimp only[cd98,qm,ql,qf,qi,qb,qc,qp,qv,qN,qT,qF,qt]at hQ ⊢
  (repeat' first|refine zaa [0,1,2,3,6,7,8,9,10,11,15,25] fun K hK=>?_|(refine hK.go ?_;clear hK K)|with_reducible exact wT|refine wA ?_|(refine wB (fun h=>?_) (fun h=>?_)<;>first|exact wN h|subst (h:(_:Bool)=_)|skip)|(refine wQ ?_;clear hQ hR hE hM)|refine wC c0 ?_|fail)
  all_goals (first|rfl|omega)
 |true =>
  rw[show zbZ p=0 by simp[zbZ,ho]]at c0
  unfold zfE
  rw[if_pos ho]
  revert c1
  generalize (p.routes.find? fun x=>decide (x.id=n))=x
  intro c1
  cases x with
  |none =>
   refine PC.fn hH cd98 fun w0 M Q hM hE hQ hR=>?_;dsimp only[cd98,qm,ql,qf,qi,qb,qc,qp,qv,qN,qT,qF,qt]at hQ ⊢
   (have hX:=zA @Option.isSome_none.{0} (zA @Option.isSome_some.{0} (zA @Option.getD_none.{0} @Option.getD_some.{0}));(repeat' first|refine zaa [0,1,2,3,6,7,8,9,10,11,15,25] fun K hK=>?_|(refine hK.go ?_;clear hK K)|with_reducible exact wT|refine wA ?_|(refine wB (fun h=>?_) (fun h=>?_)<;>first|exact wN h|subst (h:(_:Bool)=_)|skip)|(refine wQ ?_;clear hQ hR hE hM)|refine wC c0 ?_|refine wC c1 ?_|fail);all_goals clear hX)
   all_goals (first|rfl|omega)
  |some r =>
   refine PC.fn hH cd98 fun w0 M Q hM hE hQ hR=>?_;dsimp only[cd98,qm,ql,qf,qi,qb,qc,qp,qv,qN,qT,qF,qt]at hQ ⊢
   (have hX:=zA @Option.isSome_none.{0} (zA @Option.isSome_some.{0} (zA @Option.getD_none.{0} @Option.getD_some.{0}));(repeat' first|refine zaa [0,1,2,3,6,7,8,9,10,11,15,25] fun K hK=>?_|(refine hK.go ?_;clear hK K)|with_reducible exact wT|refine wA ?_|(refine wB (fun h=>?_) (fun h=>?_)<;>first|exact wN h|subst (h:(_:Bool)=_)|skip)|(refine wQ ?_;clear hQ hR hE hM)|refine wC c0 ?_|refine wC c1 ?_|fail);all_goals clear hX)
   all_goals (first|rfl|omega)
theorem rteOf_sm (p:Pln) (n:Int):(zfE p n).1.path.length≤1000000∧(zfE p n).1.over.length≤1000000∧(zfE p n).1.flanks.length≤1000000:=by
 unfold zfE
 split
 ·rename_i ho
  split
  ·rename_i r h
   simp only[zbB,Bool.and_eq_true,List.all_eq_true]at ho
   have h1:=ho.2.2.2.2 r (zdA h).1
   simp only[zcj,zfe,Bool.and_eq_true,Bool.not_eq_true',decide_eq_false_iff_not]at h1
   dsimp only
   omega
  ·simp[Rte.z]
 ·simp[Rte.z]
theorem zk7 (hH:HasAll P inv) (hI:HasIds P inv) (p:Pln) (hp:Sm p) (n:Int):PC P inv 89 [.agg p.c,.n n] (·=.tup [.agg (zfE p n).1.c,.n (zfE p n).2]):=by
 refine PC.fn hH cd89 fun w0 M Q hM hE hQ hR=>?_;dsimp only[cd89,qm,ql,qf,qi,qb,qc,qp,qv,qN,qT,qF,qt]at hQ ⊢
 (repeat' first|refine zaa [0,1,2,4,5,6,7] fun K hK=>?_|(refine hK.go ?_;clear hK K)|with_reducible exact wT|refine wA ?_|(refine wB (fun h=>?_) (fun h=>?_)<;>first|exact wN h|subst (h:(_:Bool)=_)|skip)|(refine wQ ?_;clear hQ hR hE hM)|refine wC (zmT hH hI p hp n) ?_|(refine zas hM (zn4 hH _ (rteOf_sm p n)) ?_;try (refine no_implicit_lambda% (st ?_);try with_reducible exact wT))|fail)
end Go.Lev
namespace Go.Lev
open Go.Eng
set_option maxRecDepth 10000
set_option maxHeartbeats 4000000
variable {P:Program} {inv:Nat→Option Nat} {w0:World} {M:Nat→Prop}
theorem zpj (hH:HasAll P inv) (hI:HasIds P inv) (p:Pln) (hp:Sm p) (n:Int):PC P inv 76 [.agg p.c,.n n] (·=.tup [.agg (ofW p n).1.c,.n (ofW p n).2]):=by
 have c0:=zk7 hH hI p hp n
 unfold ofW
 cases ho:zbB p with
 |false =>
  rw[if_neg (by simp)]
  rw[show zfE p n=(Rte.z,8) by simp[zfE,ho]]at c0
  refine PC.fn hH cd76 fun w0 M Q hM hE hQ hR=>?_;dsimp only[cd76,qm,ql,qf,qi,qb,qc,qp,qv,qN,qT,qF,qt]at hQ ⊢
  (repeat' first|refine zaa [0,1,2,4,5,6,7,8,17] fun K hK=>?_|(refine hK.go ?_;clear hK K)|with_reducible exact wT|refine wA ?_|(refine wB (fun h=>?_) (fun h=>?_)<;>first|exact wN h|subst (h:(_:Bool)=_)|skip)|(refine wQ ?_;clear hQ hR hE hM)|refine wC c0 ?_|fail)
  all_goals first|rfl|(exfalso;contradiction)
 |true =>
  rw[if_pos rfl]
  unfold zfE at c0
  rw[if_pos ho]at c0
  cases hf:(p.routes.find? fun x=>decide (x.id=n)) with
  |none =>
   rw[hf]at c0
   dsimp only at c0 ⊢
   refine PC.fn hH cd76 fun w0 M Q hM hE hQ hR=>?_;dsimp only[cd76,qm,ql,qf,qi,qb,qc,qp,qv,qN,qT,qF,qt]at hQ ⊢
   (repeat' first|refine zaa [0,1,2,4,5,6,7,8,17] fun K hK=>?_|(refine hK.go ?_;clear hK K)|with_reducible exact wT|refine wA ?_|(refine wB (fun h=>?_) (fun h=>?_)<;>first|exact wN h|subst (h:(_:Bool)=_)|skip)|(refine wQ ?_;clear hQ hR hE hM)|refine wC c0 ?_|fail)
   all_goals first|rfl|(exfalso;contradiction)
  |some r =>
   rw[hf]at c0
   dsimp only at c0 ⊢
   have c1:=zm6 hH p hp (zgR ho) (zdA hf).1
   generalize zah p r=W at c1 ⊢
   refine PC.fn hH cd76 fun w0 M Q hM hE hQ hR=>?_;dsimp only[cd76,qm,ql,qf,qi,qb,qc,qp,qv,qN,qT,qF,qt]at hQ ⊢
   (repeat' first|refine zaa [0,1,2,4,5,6,7,8,17] fun K hK=>?_|(refine hK.go ?_;clear hK K)|with_reducible exact wT|refine wA ?_|(refine wB (fun h=>?_) (fun h=>?_)<;>first|exact wN h|subst (h:(_:Bool)=_)|skip)|(refine wQ ?_;clear hQ hR hE hM)|refine wC c0 ?_|refine wC c1 ?_|fail)
end Go.Lev
namespace Go.Lev
open Go.Eng
set_option maxRecDepth 10000
set_option maxHeartbeats 4000000
variable {P:Program} {inv:Nat→Option Nat} {w0:World} {M:Nat→Prop}
theorem GC.get1 {G:List Int→List Int→AV→List AV} {Z:List Int} (hg:GC G Z) {H A:List Int} (W:AV) (h:H.length=100) {i:Nat} (hi:i<100):(G H A W)[i]?=some (.n (nth H i)):=by rw[hg.eq];exact zqW h hi
theorem GC.get2 {G:List Int→List Int→AV→List AV} {Z:List Int} (hg:GC G Z) {H A:List Int} (W:AV) (h:H.length=100) (h':A.length=100) {i:Nat} (hi:i<100):(G H A W)[100+i]?=some (.n (nth A i)):=by rw[hg.eq];exact gc_get2 h h' hi
end Go.Lev
namespace Go.Lev
open Go.Eng
set_option maxRecDepth 10000
set_option maxHeartbeats 4000000
variable {P:Program} {inv:Nat→Option Nat}
theorem sTwin_po (hH:HasAll P inv) (s:State) (h1:s.tracks.length≤1000000) (h2:s.switches.length≤1000000) (h3:s.locks.length≤1000000):PO P inv 9 [.agg s.c] (.agg [.sm 2 (s.tracks.length*2) 0 s.tracks.length 2,.sm 3 (s.switches.length*3) 0 s.switches.length 3,.sm 4 (s.locks.length*4) 0 s.locks.length 4])
  [(2,.cells (s.tracks.map Track.c).flatten (decide (0<s.tracks.length))),(3,.cells (s.switches.map Switch.c).flatten (decide (0<s.switches.length))),(4,.cells (s.locks.map Lock.c).flatten (decide (0<s.locks.length)))]:=by
 have c1:=zku hH s.tracks h1
 have c2:=ziY hH s.switches h2
 have c3:=zlJ hH s.locks h3
 refine PO.fn hH cd9 fun w0 M Q hM hE hQ hR=>?_;dsimp only[cd9,qm,ql,qf,qi,qb,qc,qp,qv,qN,qT,qF,qt]at hQ ⊢
 (repeat' first|refine zaa [0,1,2,11] fun K hK=>?_|(refine hK.go ?_;clear hK K)|with_reducible exact wT|refine wA ?_|(refine wB (fun h=>?_) (fun h=>?_)<;>first|exact wN h|subst (h:(_:Bool)=_)|skip)|(refine wR ?_;clear hQ hR hE hM)|refine wO c1 ?_|refine wO c2 ?_|refine wO c3 ?_|fail)
 left
 constructor
 ·(refine no_implicit_lambda% (st ?_);try with_reducible exact wT)
 ·(refine no_implicit_lambda% (st ?_);try with_reducible exact wT)
end Go.Lev
namespace Go.Lev
open Go.Eng
set_option maxRecDepth 10000
set_option maxHeartbeats 4000000
variable {P:Program} {inv:Nat→Option Nat} {w0:World} {M:Nat→Prop}
theorem zkF (b:Nat) (s:State):zed 4 (zl0 b s) (zlZ b s)=.agg s.c:=by
 have h1:(b+1=b)=False:=by simp
 have h2:(b+2=b)=False:=by simp
 have h3:(b+2=b+1)=False:=by simp
 unfold zl0 zlZ
 simp -dsimp -implicitDefEqProofs (disch:=omega) only[go_sem,reduceIte,↓reduceIte,Nat.reduceEqDiff,Nat.reduceLT,Nat.reduceLeDiff,Nat.reduceAdd,Nat.reduceSub,Nat.reduceMul,Int.reduceToNat,Int.reduceLT,Int.reduceLE,Int.reduceEq,Int.reduceNeg,Int.reduceNe,reduceCtorEq,h1,h2,h3,if_false]
theorem zez (b:Nat) (s:State) (e:Int):zed 4 (zl0 b s) (.tup [zlZ b s,.n e])=.tup [.agg s.c,.n e]:=by
 rw[zeZ,zca,zca,zdZ,zkF,sn_i]
theorem zds (hH:HasAll P inv) (s:State) (hs:SmS s):PO P inv 9 [.agg s.c] (stV s) (stR s):=by
 have:=hs.1
 have:=hs.2.1
 have:=hs.2.2
 exact sTwin_po hH s (by omega) (by omega) (by omega)
theorem sAt_po (hH:HasAll P inv) (hI:HasIds P inv) (p:Pln) (hp:Sm p) (ho:za3 p=true):PO P inv 65 [.agg p.c] (.tup [stV (atS p),.n 0]) (stR (atS p)):=by
 have c0:=zfr hH hI p hp
 rw[show zec p=0 by unfold zec;rw[if_pos ho]]at c0
 have h1:=hp.sec
 have h2:=hp.pts
 have h3:=hp.rte
 refine PO.fn hH cd65 fun w0 M Q hM hE hQ hR=>?_;dsimp only[cd65,qm,ql,qf,qi,qb,qc,qp,qv,qN,qT,qF,qt]at hQ ⊢
 (repeat' first|refine zaa [0,1,2,3,5,7,9,13,15,16,17,18,31,32,33,34,47,48,49,50] fun K hK=>?_|(refine hK.go ?_;clear hK K)|with_reducible exact wT|refine wA ?_|(refine wB (fun h=>?_) (fun h=>?_)<;>first|exact wN h|subst (h:(_:Bool)=_)|skip)|(refine wR ?_;clear hQ hR hE hM)|refine wC c0 ?_|fail)
 all_goals first|(exfalso;contradiction)|skip
 refine zcV 1 0 2 2 rfl rfl (Nat.zero_le _) (by (refine no_implicit_lambda% (st ?_);try with_reducible exact wT)) (by (refine no_implicit_lambda% (st ?_);try with_reducible exact wT)) ?_
 refine zcV 1 1 3 3 rfl rfl (Nat.zero_le _) (by (refine no_implicit_lambda% (st ?_);try with_reducible exact wT)) (by (refine no_implicit_lambda% (st ?_);try with_reducible exact wT)) ?_
 refine zcV 1 2 4 4 rfl rfl (Nat.zero_le _) (by (refine no_implicit_lambda% (st ?_);try with_reducible exact wT)) (by (refine no_implicit_lambda% (st ?_);try with_reducible exact wT)) ?_
 (refine no_implicit_lambda% (st ?_);try with_reducible exact wT)
 refine zai (ι:=Nat×(List Track)) [1,2,3,15,16,17] (fun z=>[(17,.n z.1)]) (fun z=>[(1,.cells [.sm 2 (z.2.length*2) 0 z.2.length 2,.sm 3 0 0 0 3,.sm 4 0 0 0 4] true),(2,.cells (z.2.map Track.c).flatten (decide (0<z.2.length)))]) (fun z=>z.1) (p.sections.length) (fun z=>(z.2.length=z.1)∧(z.2++(p.sections.drop z.1).map (fun x=>(⟨x.id,2⟩:Track))=(atS p).tracks)) (0,([]:List Track)) ?_;rintro ⟨k,ts⟩ ⟨hk,hl,hg⟩;(try dsimp only at hk hl hg ⊢);rcases Nat.lt_or_ge k p.sections.length with hlt|hge
 ·rw[zad hlt,List.map_cons]at hg
  (repeat' first|refine zaa [0,1,2,3,5,7,9,13,15,16,17,18,31,32,33,34,47,48,49,50] fun K hK=>?_|(refine hK.go ?_;clear hK K)|with_reducible exact wT|refine wA ?_|(refine wB (fun h=>?_) (fun h=>?_)<;>first|exact wN h|subst (h:(_:Bool)=_)|skip)|(refine wR ?_;clear hQ hR hE hM)|fail)
  exact nY (k+1,ts++[⟨(nth p.sections k).id,2⟩]) ⟨by (try dsimp only);omega,by (try dsimp only);simp[hl],by (try dsimp only);rw[←hg];simp⟩
 ·rw[List.drop_eq_nil_of_le hge,List.map_nil,List.append_nil]at hg
  (repeat' first|refine zaa [0,1,2,3,5,7,9,13,15,16,17,18,31,32,33,34,47,48,49,50] fun K hK=>?_|(refine hK.go ?_;clear hK K)|with_reducible exact wT|refine wA ?_|(refine wB (fun h=>?_) (fun h=>?_)<;>first|exact wN h|subst (h:(_:Bool)=_)|skip)|(refine wR ?_;clear hQ hR hE hM)|fail)
  refine zai (ι:=Nat×(List Switch)) [1,2,3,31,32,33] (fun z=>[(33,.n z.1)]) (fun z=>[(1,.cells [.sm 2 (ts.length*2) 0 ts.length 2,.sm 3 (z.2.length*3) 0 z.2.length 3,.sm 4 0 0 0 4] true),(3,.cells (z.2.map Switch.c).flatten (decide (0<z.2.length)))]) (fun z=>z.1) (p.points.length) (fun z=>(z.2.length=z.1)∧(z.2++(p.points.drop z.1).map (fun x=>(⟨x.id,0,0⟩:Switch))=(atS p).switches)) (0,([]:List Switch)) ?_;rintro ⟨k2,ss⟩ ⟨hk,hl2,hg2⟩;(try dsimp only at hk hl2 hg2 ⊢);rcases Nat.lt_or_ge k2 p.points.length with hlt|hge
  ·rw[zad (by assumption),List.map_cons]at hg2
   (repeat' first|refine zaa [0,1,2,3,5,7,9,13,15,16,17,18,31,32,33,34,47,48,49,50] fun K hK=>?_|(refine hK.go ?_;clear hK K)|with_reducible exact wT|refine wA ?_|(refine wB (fun h=>?_) (fun h=>?_)<;>first|exact wN h|subst (h:(_:Bool)=_)|skip)|(refine wR ?_;clear hQ hR hE hM)|fail)
   exact nY (k2+1,ss++[⟨(nth p.points k2).id,0,0⟩]) ⟨by (try dsimp only);omega,by (try dsimp only);simp[hl2],by (try dsimp only);rw[←hg2];simp⟩
  ·rw[List.drop_eq_nil_of_le (by assumption),List.map_nil,List.append_nil]at hg2
   (repeat' first|refine zaa [0,1,2,3,5,7,9,13,15,16,17,18,31,32,33,34,47,48,49,50] fun K hK=>?_|(refine hK.go ?_;clear hK K)|with_reducible exact wT|refine wA ?_|(refine wB (fun h=>?_) (fun h=>?_)<;>first|exact wN h|subst (h:(_:Bool)=_)|skip)|(refine wR ?_;clear hQ hR hE hM)|fail)
   refine zai (ι:=Nat×(List Lock)) [2,3,47,48,49] (fun z=>[(49,.n z.1)]) (fun z=>[(1,.cells [.sm 2 (ts.length*2) 0 ts.length 2,.sm 3 (ss.length*3) 0 ss.length 3,.sm 4 (z.2.length*4) 0 z.2.length 4] true),(4,.cells (z.2.map Lock.c).flatten (decide (0<z.2.length)))]) (fun z=>z.1) (p.routes.length) (fun z=>(z.2.length=z.1)∧(z.2++(p.routes.drop z.1).map (fun x=>(⟨x.id,0,0,0⟩:Lock))=(atS p).locks)) (0,([]:List Lock)) ?_;rintro ⟨k3,ls⟩ ⟨hk,hl3,hg3⟩;(try dsimp only at hk hl3 hg3 ⊢);rcases Nat.lt_or_ge k3 p.routes.length with hlt|hge
   ·rw[zad (by assumption),List.map_cons]at hg3
    (repeat' first|refine zaa [0,1,2,3,5,7,9,13,15,16,17,18,31,32,33,34,47,48,49,50] fun K hK=>?_|(refine hK.go ?_;clear hK K)|with_reducible exact wT|refine wA ?_|(refine wB (fun h=>?_) (fun h=>?_)<;>first|exact wN h|subst (h:(_:Bool)=_)|skip)|(refine wR ?_;clear hQ hR hE hM)|fail)
    exact nY (k3+1,ls++[⟨(nth p.routes k3).id,0,0,0⟩]) ⟨by (try dsimp only);omega,by (try dsimp only);simp[hl3],by (try dsimp only);rw[←hg3];simp⟩
   ·rw[List.drop_eq_nil_of_le (by assumption),List.map_nil,List.append_nil]at hg3
    (repeat' first|refine zaa [0,1,2,3,5,7,9,13,15,16,17,18,31,32,33,34,47,48,49,50] fun K hK=>?_|(refine hK.go ?_;clear hK K)|with_reducible exact wT|refine wA ?_|(refine wB (fun h=>?_) (fun h=>?_)<;>first|exact wN h|subst (h:(_:Bool)=_)|skip)|(refine wR ?_;clear hQ hR hE hM)|fail)
    left
    unfold stV stR
    rw[←hg,←hg2,←hg3]
    constructor
    ·(refine no_implicit_lambda% (st ?_);try with_reducible exact wT)
    ·(refine no_implicit_lambda% (st ?_);try with_reducible exact wT)
end Go.Lev
namespace Go.Lev
open Go.Eng
set_option maxRecDepth 10000
set_option maxHeartbeats 4000000
variable {P:Program} {inv:Nat→Option Nat} {w0:World} {M:Nat→Prop}
section upd
variable {α:Type} [Inhabited α]
theorem zey (f:Nat→α→α) {k:Nat} {l:List α} (h:l.length≤k):ze8 f k l=l.mapIdx f:=by
 unfold ze8
 rw[List.take_of_length_le (by simpa using h),List.drop_eq_nil_of_le h,List.append_nil]
theorem zcw (f:Nat→α→α) {k:Nat} {l:List α} (h:k<l.length):nth (ze8 f k l) k=nth l k:=by
 rw[zaT (by rw[zbX];exact h),zaT h]
 unfold ze8
 rw[List.getElem_append_right (by simp;omega)]
 simp[Nat.min_eq_left (Nat.le_of_lt h)]
theorem zex (f:Nat→α→α) {k:Nat} {l:List α} (h:k<l.length):(ze8 f k l).set k (f k (nth l k))=ze8 f (k+1) l:=by
 unfold ze8
 rw[List.set_append_right _ _ (by simp;omega),List.length_take,List.length_mapIdx,Nat.min_eq_left (Nat.le_of_lt h),Nat.sub_self,zad h,List.set_cons_zero]
 rw[show (l.mapIdx f).take (k+1)=(l.mapIdx f).take k++[f k (nth l k)] by
  rw[List.take_succ_eq_append_getElem (by simpa using h),List.getElem_mapIdx,zaT h]]
 simp
end upd
theorem image_po (hH:HasAll P inv) (hI:HasIds P inv) (p:Pln) (hp:Sm p) (s:State) (hs:SmS s) (he:zac p s=0):PO P inv 78 [.agg p.c,.agg s.c] (.tup [zlZ 5 (zgS p s),.n 0]) (zl0 5 (zgS p s)):=by
 have c0:=zbR hH hI p hp s hs
 rw[he]at c0
 have c1:=zds hH s hs
 have hpl:=zan (zae he).2.1
 obtain ⟨h1,h2,h3⟩:=hs
 have hi:zgS p s=⟨s.tracks.mapIdx imgT,s.switches.mapIdx imgW,s.locks.mapIdx (zmF p)⟩:=rfl
 unfold stV stR at c1
 refine PO.fn hH cd78 fun w0 M Q hM hE hQ hR=>?_;dsimp only[cd78,qm,ql,qf,qi,qb,qc,qp,qv,qN,qT,qF,qt]at hQ ⊢
 (repeat' first|refine zaa [0,1,2,3,4,5,6,7,8,9,14,21,22,23,33,34,35,45,46,47,55] fun K hK=>?_|(refine hK.go ?_;clear hK K)|with_reducible exact wT|refine wA ?_|(refine wB (fun h=>?_) (fun h=>?_)<;>first|exact wN h|subst (h:(_:Bool)=_)|skip)|(refine wR ?_;clear hQ hR hE hM)|refine wC c0 ?_|refine wO c1 ?_|fail)
 all_goals first|(exfalso;contradiction)|skip
 refine zai (ι:=Nat) [2,3,4,5,21,22] (fun z=>[(22,.n z)]) (fun z=>[(5,.cells ((ze8 imgT z s.tracks).map Track.c).flatten (decide (0<s.tracks.length)))]) (fun z=>z) (s.tracks.length) (fun _=>True) (0) ?_;rintro k ⟨hk,-⟩;(try dsimp only at hk ⊢);rcases Nat.lt_or_ge k s.tracks.length with hlt|hge
 ·have e1:=zex imgT hlt
  have e2:=zcO (c:=Track.c) (l:=ze8 imgT k s.tracks) (k:=k) (i:=1) (by rw[zbX];exact hlt) (by omega) (.i .u8 2) (imgT k (nth s.tracks k)) (by rw[zcw _ hlt];rfl)
  rw[e1]at e2
  (have hX:=@e2;(repeat' first|refine zaa [0,1,2,3,4,5,6,7,8,9,14,21,22,23,33,34,35,45,46,47,55] fun K hK=>?_|(refine hK.go ?_;clear hK K)|with_reducible exact wT|refine wA ?_|(refine wB (fun h=>?_) (fun h=>?_)<;>first|exact wN h|subst (h:(_:Bool)=_)|skip)|(refine wR ?_;clear hQ hR hE hM)|fail);all_goals clear hX)
  exact ⟨k+1,by omega,by omega,by omega,rfl⟩
 ·rw[zey _ hge]
  (repeat' first|refine zaa [0,1,2,3,4,5,6,7,8,9,14,21,22,23,33,34,35,45,46,47,55] fun K hK=>?_|(refine hK.go ?_;clear hK K)|with_reducible exact wT|refine wA ?_|(refine wB (fun h=>?_) (fun h=>?_)<;>first|exact wN h|subst (h:(_:Bool)=_)|skip)|(refine wR ?_;clear hQ hR hE hM)|fail)
  refine zai (ι:=Nat) [2,3,4,5,33,34] (fun z=>[(34,.n z)]) (fun z=>[(6,.cells ((ze8 imgW z s.switches).map Switch.c).flatten (decide (0<s.switches.length)))]) (fun z=>z) (s.switches.length) (fun _=>True) (0) ?_;rintro k2 ⟨hk,-⟩;(try dsimp only at hk ⊢);rcases Nat.lt_or_ge k2 s.switches.length with hlt|hge
  ·have e1:=zex imgW hlt
   have e2:=zcO (c:=Switch.c) (l:=ze8 imgW k2 s.switches) (k:=k2) (i:=1) (by rw[zbX];exact hlt) (by omega) (.i .i64 0) (imgW k2 (nth s.switches k2)) (by rw[zcw _ hlt];rfl)
   rw[e1]at e2
   (have hX:=@e2;(repeat' first|refine zaa [0,1,2,3,4,5,6,7,8,9,14,21,22,23,33,34,35,45,46,47,55] fun K hK=>?_|(refine hK.go ?_;clear hK K)|with_reducible exact wT|refine wA ?_|(refine wB (fun h=>?_) (fun h=>?_)<;>first|exact wN h|subst (h:(_:Bool)=_)|skip)|(refine wR ?_;clear hQ hR hE hM)|fail);all_goals clear hX)
   exact ⟨k2+1,by omega,by omega,by omega,rfl⟩
  ·rw[zey _ (by assumption)]
   (repeat' first|refine zaa [0,1,2,3,4,5,6,7,8,9,14,21,22,23,33,34,35,45,46,47,55] fun K hK=>?_|(refine hK.go ?_;clear hK K)|with_reducible exact wT|refine wA ?_|(refine wB (fun h=>?_) (fun h=>?_)<;>first|exact wN h|subst (h:(_:Bool)=_)|skip)|(refine wR ?_;clear hQ hR hE hM)|fail)
   refine zai (ι:=Nat) [2,3,4,5,45,46] (fun z=>[(46,.n z)]) (fun z=>[(7,.cells ((ze8 (zmF p) z s.locks).map Lock.c).flatten (decide (0<s.locks.length)))]) (fun z=>z) (s.locks.length) (fun _=>True) (0) ?_;rintro k3 ⟨hk,-⟩;(try dsimp only at hk ⊢);rcases Nat.lt_or_ge k3 s.locks.length with hlt|hge
   ·have e1:=zex (zmF p) (l:=s.locks) (k:=k3) (by assumption)
    have hg:=zhg (c:=Lock.c) (l:=ze8 (zmF p) k3 s.locks) (k:=k3) (i:=3) (by rw[zbX];assumption) (by omega)
    rw[zcw _ (by assumption)]at hg
    by_cases hle:0<(nth s.locks k3).left
    ·have e2:=zcO (c:=Lock.c) (l:=ze8 (zmF p) k3 s.locks) (k:=k3) (i:=3) (by rw[zbX];assumption) (by omega) (.i .i64 (nth p.routes k3).timer) (zmF p k3 (nth s.locks k3)) (by rw[zcw _ (by assumption)];unfold zmF;rw[if_pos hle];rfl)
     rw[e1]at e2
     (have hX:=zA @hg @e2;(repeat' first|refine zaa [0,1,2,3,4,5,6,7,8,9,14,21,22,23,33,34,35,45,46,47,55] fun K hK=>?_|(refine hK.go ?_;clear hK K)|with_reducible exact wT|refine wA ?_|(refine wB (fun h=>?_) (fun h=>?_)<;>first|exact wN h|subst (h:(_:Bool)=_)|skip)|(refine wR ?_;clear hQ hR hE hM)|fail);all_goals clear hX)
     exact ⟨k3+1,by omega,by omega,by omega,rfl⟩
    ·rw[show zmF p k3 (nth s.locks k3)=nth (ze8 (zmF p) k3 s.locks) k3 by rw[zcw _ (by assumption)];unfold zmF;rw[if_neg hle]]at e1
     have e3:ze8 (zmF p) k3 s.locks=ze8 (zmF p) (k3+1) s.locks:=by
      rw[←e1,zaT (by rw[zbX];assumption),List.set_getElem_self]
     (have hX:=@hg;(repeat' first|refine zaa [0,1,2,3,4,5,6,7,8,9,14,21,22,23,33,34,35,45,46,47,55] fun K hK=>?_|(refine hK.go ?_;clear hK K)|with_reducible exact wT|refine wA ?_|(refine wB (fun h=>?_) (fun h=>?_)<;>first|exact wN h|subst (h:(_:Bool)=_)|skip)|(refine wR ?_;clear hQ hR hE hM)|fail);all_goals clear hX)
     exact ⟨k3+1,by omega,by omega,by omega,by rw[←e3]⟩
   ·rw[zey _ (by assumption)]
    (repeat' first|refine zaa [0,1,2,3,4,5,6,7,8,9,14,21,22,23,33,34,35,45,46,47,55] fun K hK=>?_|(refine hK.go ?_;clear hK K)|with_reducible exact wT|refine wA ?_|(refine wB (fun h=>?_) (fun h=>?_)<;>first|exact wN h|subst (h:(_:Bool)=_)|skip)|(refine wR ?_;clear hQ hR hE hM)|fail)
    left
    unfold zlZ zl0
    rw[hi]
    dsimp only
    rw[List.length_mapIdx,List.length_mapIdx,List.length_mapIdx]
    constructor
    ·(refine no_implicit_lambda% (st ?_);try with_reducible exact wT)
    ·(refine no_implicit_lambda% (st ?_);try with_reducible exact wT)
theorem zkh (hH:HasAll P inv) (hI:HasIds P inv) (p:Pln) (hp:Sm p) (s:State) (hs:SmS s):PC P inv 78 [.agg p.c,.agg s.c] (·=.tup [.agg (zcL p s).c,.n (zac p s)]):=by
 by_cases he:zac p s=0
 ·have:=(image_po hH hI p hp s hs he).pc
  rw[zez]at this
  unfold zcL
  rw[if_pos he,he]
  exact this
 ·have c0:=zbR hH hI p hp s hs
  unfold zcL
  rw[if_neg he]
  revert c0 he
  generalize zac p s=e
  intro he c0
  refine PC.fn hH cd78 fun w0 M Q hM hE hQ hR=>?_;dsimp only[cd78,qm,ql,qf,qi,qb,qc,qp,qv,qN,qT,qF,qt]at hQ ⊢
  (repeat' first|refine zaa [0,1,2,3,4,5,6,7,8,9,14,21,22,23,33,34,35,45,46,47,55] fun K hK=>?_|(refine hK.go ?_;clear hK K)|with_reducible exact wT|refine wA ?_|(refine wB (fun h=>?_) (fun h=>?_)<;>first|exact wN h|subst (h:(_:Bool)=_)|skip)|(refine wQ ?_;clear hQ hR hE hM)|refine wC c0 ?_|fail)
  all_goals first|rfl|(exfalso;contradiction)|skip
end Go.Lev
namespace Go.Lev
open Go.Eng
set_option maxRecDepth 10000
set_option maxHeartbeats 4000000
variable {P:Program} {inv:Nat→Option Nat} {w0:World} {M:Nat→Prop}
theorem zg6 {α:Type} [Inhabited α] (f:α→Int) (n:Int) (g:α→α):∀ {l:List α},(l.map f).Nodup→∀ {k:Nat},k<l.length→f (nth l k)=n→l.set k (g (nth l k))=zdG f n g l
 |[],_,k,h,_=>by simp at h
 |x::r,hn,0,_,e=>by
  simp only[List.map_cons,List.nodup_cons]at hn
  have e:f x=n:=e
  unfold zdG
  rw[List.set_cons_zero,List.map_cons,if_pos e]
  congr 1
  symm
  refine (List.map_congr_left fun y hy=>?_).trans (List.map_id r)
  rw[if_neg (fun h=>hn.1 (by rw[e,←h];exact List.mem_map_of_mem hy))]
  rfl
 |x::r,hn,k+1,h,e=>by
  simp only[List.map_cons,List.nodup_cons]at hn
  have hk:k<r.length:=by simpa using h
  have e:f (nth r k)=n:=e
  have ih:=zg6 f n g hn.2 hk e
  unfold zdG at ih ⊢
  rw[List.set_cons_succ,List.map_cons,if_neg (fun h=>hn.1 (by rw[h,←e];exact List.mem_map_of_mem (zab hk)))]
  exact congrArg (x::·) ih
end Go.Lev
namespace Go.Lev
open Go.Eng
set_option maxRecDepth 10000
set_option maxHeartbeats 4000000
variable {P:Program} {inv:Nat→Option Nat} {w0:World} {M:Nat→Prop}
theorem zqx (hH:HasAll P inv) (n:Int) (x:Track):PC P inv 86 ([.agg x.c]++[.ip 1 [[.n n]] 0 0]) (·=.b (decide (x.id=n))):=by
 refine PC.fn hH cd86 fun w0 M Q hM hE hQ hR=>?_;dsimp only[cd86,qm,ql,qf,qi,qb,qc,qp,qv,qN,qT,qF,qt]at hQ ⊢
 (repeat' first|refine zaa [0,1,2,3] fun K hK=>?_|(refine hK.go ?_;clear hK K)|with_reducible exact wT|refine wA ?_|(refine wB (fun h=>?_) (fun h=>?_)<;>first|exact wN h|subst (h:(_:Bool)=_)|skip)|(refine wQ ?_;clear hQ hR hE hM)|fail)
theorem zqw (hH:HasAll P inv) (n:Int) (x:Switch):PC P inv 88 ([.agg x.c]++[.ip 1 [[.n n]] 0 0]) (·=.b (decide (x.id=n))):=by
 refine PC.fn hH cd88 fun w0 M Q hM hE hQ hR=>?_;dsimp only[cd88,qm,ql,qf,qi,qb,qc,qp,qv,qN,qT,qF,qt]at hQ ⊢
 (repeat' first|refine zaa [0,1,2,3] fun K hK=>?_|(refine hK.go ?_;clear hK K)|with_reducible exact wT|refine wA ?_|(refine wB (fun h=>?_) (fun h=>?_)<;>first|exact wN h|subst (h:(_:Bool)=_)|skip)|(refine wQ ?_;clear hQ hR hE hM)|fail)
theorem sec_po (hH:HasAll P inv) (hI:HasIds P inv) (p:Pln) (hp:Sm p) (s:State) (hs:SmS s) (n v:Int) (he:zb2 p s n v=0):PO P inv 73 [.agg p.c,.agg s.c,.n n,.n v] (.tup [zlZ 6 (zhx s n v),.n 0]) (zl0 6 (zhx s n v)):=by
 have hc:zac p s=0∧zqu s n∧(v=0∨v=1):=by
  unfold zb2 at he
  split at he
  ·rename_i h1
   split at he
   ·rename_i h2
    split at he
    ·rename_i h3;exact ⟨h1,h2,h3⟩
    ·cases he
   ·cases he
  ·rename_i h1;exact absurd he h1
 obtain ⟨hc,⟨t,ht,htn⟩,hv⟩:=hc
 have c0:=zbR hH hI p hp s hs
 rw[hc]at c0
 have c1:=zds hH s hs
 obtain ⟨h1,h2,h3⟩:=hs
 have c2:=zqK hH s.tracks (fun x _=>zqx hH n x) (by omega)
 have hno:(s.tracks.map Track.id).Nodup:=by rw[zl4 (zae hc).2.1];exact zkR (zap hc)
 rcases zaP Track.id n s.tracks with ⟨_,h4⟩|⟨k,hk,h4,h5⟩
 ·exact absurd htn (h4 t ht)
 ·rw[h4]at c2
  have e1:=zg6 Track.id n (fun t=>(⟨t.id,v⟩:Track)) hno hk h5
  have e2:=zcO (c:=Track.c) (l:=s.tracks) (k:=k) (i:=1) hk (by omega) (.i .u8 v) (⟨(nth s.tracks k).id,v⟩:Track) rfl
  rw[e1]at e2
  unfold stV stR at c1
  refine PO.fn hH cd73 fun w0 M Q hM hE hQ hR=>?_;dsimp only[cd73,qm,ql,qf,qi,qb,qc,qp,qv,qN,qT,qF,qt]at hQ ⊢
  skip
  (have hX:=@e2;(repeat' first|refine zaa [0,1,2,3,4,5,6,8,9,10,11,16,26,33] fun K hK=>?_|(refine hK.go ?_;clear hK K)|with_reducible exact wT|refine wA ?_|(refine wB (fun h=>?_) (fun h=>?_)<;>first|exact wN h|subst (h:(_:Bool)=_)|skip)|(refine wQ ?_;clear hQ hR)|refine wC c0 ?_|refine wO c1 ?_|(refine AC.callK 30 (by omega) (by first|omega|exact wF|((refine no_implicit_lambda% (st ?_);try with_reducible exact wT);omega)) (zat (F:=cd85) (hH.has _ _ rfl) (Nat.le_of_ble_eq_true rfl) fun Q hQ hR=>?_);dsimp only[cd85,qm,ql,qf,qi,qb,qc,qp,qv,qN,qT,qF,qt]at hQ ⊢;try (refine no_implicit_lambda% (st ?_);try with_reducible exact wT))|refine wS c2 ?_|fail);all_goals clear hX)
  all_goals (left;unfold zlZ zl0 zhx;dsimp only;rw[zbE];constructor)
  all_goals (refine no_implicit_lambda% (st ?_);try with_reducible exact wT)
theorem det_po (hH:HasAll P inv) (hI:HasIds P inv) (p:Pln) (hp:Sm p) (s:State) (hs:SmS s) (n v:Int) (he:zbz p s n v=0):PO P inv 74 [.agg p.c,.agg s.c,.n n,.n v] (.tup [zlZ 6 (zkQ s n v),.n 0]) (zl0 6 (zkQ s n v)):=by
 have hc:zac p s=0∧zmE s n∧(0≤v∧v≤2):=by
  unfold zbz at he
  split at he
  ·rename_i h1
   split at he
   ·rename_i h2
    split at he
    ·rename_i h3;exact ⟨h1,h2,h3⟩
    ·cases he
   ·cases he
  ·rename_i h1;exact absurd he h1
 obtain ⟨hc,⟨t,ht,htn⟩,hv⟩:=hc
 have c0:=zbR hH hI p hp s hs
 rw[hc]at c0
 have c1:=zds hH s hs
 obtain ⟨h1,h2,h3⟩:=hs
 have c2:=zib hH s.switches (fun x _=>zqw hH n x) (by omega)
 have hno:(s.switches.map Switch.id).Nodup:=by rw[zcJ (zae hc).2.1];exact zcc (zap hc)
 rcases zaP Switch.id n s.switches with ⟨_,h4⟩|⟨k,hk,h4,h5⟩
 ·exact absurd htn (h4 t ht)
 ·rw[h4]at c2
  have e1:=zg6 Switch.id n (fun t=>(⟨t.id,v,t.call⟩:Switch)) hno hk h5
  have e2:=zcO (c:=Switch.c) (l:=s.switches) (k:=k) (i:=1) hk (by omega) (.i .i64 v) (⟨(nth s.switches k).id,v,(nth s.switches k).call⟩:Switch) rfl
  rw[e1]at e2
  unfold stV stR at c1
  refine PO.fn hH cd74 fun w0 M Q hM hE hQ hR=>?_;dsimp only[cd74,qm,ql,qf,qi,qb,qc,qp,qv,qN,qT,qF,qt]at hQ ⊢
  skip
  (have hX:=@e2;(repeat' first|refine zaa [0,1,2,3,4,5,6,8,9,10,11,16,26,33] fun K hK=>?_|(refine hK.go ?_;clear hK K)|with_reducible exact wT|refine wA ?_|(refine wB (fun h=>?_) (fun h=>?_)<;>first|exact wN h|subst (h:(_:Bool)=_)|skip)|(refine wQ ?_;clear hQ hR)|refine wC c0 ?_|refine wO c1 ?_|(refine AC.callK 30 (by omega) (by first|omega|exact wF|((refine no_implicit_lambda% (st ?_);try with_reducible exact wT);omega)) (zat (F:=cd87) (hH.has _ _ rfl) (Nat.le_of_ble_eq_true rfl) fun Q hQ hR=>?_);dsimp only[cd87,qm,ql,qf,qi,qb,qc,qp,qv,qN,qT,qF,qt]at hQ ⊢;try (refine no_implicit_lambda% (st ?_);try with_reducible exact wT))|refine wS c2 ?_|fail);all_goals clear hX)
  all_goals (left;unfold zlZ zl0 zkQ;dsimp only;rw[zbE];constructor)
  all_goals (refine no_implicit_lambda% (st ?_);try with_reducible exact wT)
theorem zpE (hH:HasAll P inv) (hI:HasIds P inv) (p:Pln) (hp:Sm p) (s:State) (hs:SmS s) (n v:Int):PC P inv 73 [.agg p.c,.agg s.c,.n n,.n v] (·=.tup [.agg (secR p s n v).c,.n (zb2 p s n v)]):=by
 unfold secR
 by_cases he:zb2 p s n v=0
 ·have:=(sec_po hH hI p hp s hs n v he).pc
  rw[zez]at this
  rw[if_pos he,he]
  exact this
 ·rw[if_neg he]
  have c0:=zbR hH hI p hp s hs
  have c1:=zds hH s hs
  unfold zb2 at he ⊢
  by_cases hc:zac p s=0
  ·rw[if_pos hc]at he ⊢
   rw[hc]at c0
   obtain ⟨h1,h2,h3⟩:=hs
   have c2:=zqK hH s.tracks (fun x _=>zqx hH n x) (by omega)
   unfold stV stR at c1
   rcases zaP Track.id n s.tracks with ⟨h4,h5⟩|⟨k,hk,h4,h5⟩
   ·rw[if_neg (fun ⟨t,ht,e⟩=>h5 t ht e)]
    rw[h4]at c2
    refine PC.fn hH cd73 fun w0 M Q hM hE hQ hR=>?_;dsimp only[cd73,qm,ql,qf,qi,qb,qc,qp,qv,qN,qT,qF,qt]at hQ ⊢
    skip
    (repeat' first|refine zaa [0,1,2,3,4,5,6,8,9,10,11,16,26,33] fun K hK=>?_|(refine hK.go ?_;clear hK K)|with_reducible exact wT|refine wA ?_|(refine wB (fun h=>?_) (fun h=>?_)<;>first|exact wN h|subst (h:(_:Bool)=_)|skip)|(refine wQ ?_;clear hQ hR)|refine wC c0 ?_|refine wO c1 ?_|(refine AC.callK 30 (by omega) (by first|omega|exact wF|((refine no_implicit_lambda% (st ?_);try with_reducible exact wT);omega)) (zat (F:=cd85) (hH.has _ _ rfl) (Nat.le_of_ble_eq_true rfl) fun Q hQ hR=>?_);dsimp only[cd85,qm,ql,qf,qi,qb,qc,qp,qv,qN,qT,qF,qt]at hQ ⊢;try (refine no_implicit_lambda% (st ?_);try with_reducible exact wT))|refine wS c2 ?_|fail)
    all_goals first|rfl|(exfalso;contradiction)|skip
   ·rw[if_pos ⟨_,zab hk,h5⟩]at he ⊢
    rw[h4]at c2
    by_cases hv:v=0∨v=1
    ·rw[if_pos hv]at he;exact absurd rfl he
    ·rw[if_neg hv]
     refine PC.fn hH cd73 fun w0 M Q hM hE hQ hR=>?_;dsimp only[cd73,qm,ql,qf,qi,qb,qc,qp,qv,qN,qT,qF,qt]at hQ ⊢
     skip
     (repeat' first|refine zaa [0,1,2,3,4,5,6,8,9,10,11,16,26,33] fun K hK=>?_|(refine hK.go ?_;clear hK K)|with_reducible exact wT|refine wA ?_|(refine wB (fun h=>?_) (fun h=>?_)<;>first|exact wN h|subst (h:(_:Bool)=_)|skip)|(refine wQ ?_;clear hQ hR)|refine wC c0 ?_|refine wO c1 ?_|(refine AC.callK 30 (by omega) (by first|omega|exact wF|((refine no_implicit_lambda% (st ?_);try with_reducible exact wT);omega)) (zat (F:=cd85) (hH.has _ _ rfl) (Nat.le_of_ble_eq_true rfl) fun Q hQ hR=>?_);dsimp only[cd85,qm,ql,qf,qi,qb,qc,qp,qv,qN,qT,qF,qt]at hQ ⊢;try (refine no_implicit_lambda% (st ?_);try with_reducible exact wT))|refine wS c2 ?_|fail)
     all_goals first|rfl|(exfalso;omega)|skip
  ·rw[if_neg hc]
   generalize zac p s=e at c0 hc ⊢
   refine PC.fn hH cd73 fun w0 M Q hM hE hQ hR=>?_;dsimp only[cd73,qm,ql,qf,qi,qb,qc,qp,qv,qN,qT,qF,qt]at hQ ⊢
   (repeat' first|refine zaa [0,1,2,3,4,5,6,8,9,10,11,16,26,33] fun K hK=>?_|(refine hK.go ?_;clear hK K)|with_reducible exact wT|refine wA ?_|(refine wB (fun h=>?_) (fun h=>?_)<;>first|exact wN h|subst (h:(_:Bool)=_)|skip)|(refine wQ ?_;clear hQ hR hE hM)|refine wC c0 ?_|fail)
   all_goals first|rfl|(exfalso;contradiction)|skip
theorem zlD (hH:HasAll P inv) (hI:HasIds P inv) (p:Pln) (hp:Sm p) (s:State) (hs:SmS s) (n v:Int):PC P inv 74 [.agg p.c,.agg s.c,.n n,.n v] (·=.tup [.agg (ziQ p s n v).c,.n (zbz p s n v)]):=by
 unfold ziQ
 by_cases he:zbz p s n v=0
 ·have:=(det_po hH hI p hp s hs n v he).pc
  rw[zez]at this
  rw[if_pos he,he]
  exact this
 ·rw[if_neg he]
  have c0:=zbR hH hI p hp s hs
  have c1:=zds hH s hs
  unfold zbz at he ⊢
  by_cases hc:zac p s=0
  ·rw[if_pos hc]at he ⊢
   rw[hc]at c0
   obtain ⟨h1,h2,h3⟩:=hs
   have c2:=zib hH s.switches (fun x _=>zqw hH n x) (by omega)
   unfold stV stR at c1
   rcases zaP Switch.id n s.switches with ⟨h4,h5⟩|⟨k,hk,h4,h5⟩
   ·rw[if_neg (fun ⟨t,ht,e⟩=>h5 t ht e)]
    rw[h4]at c2
    refine PC.fn hH cd74 fun w0 M Q hM hE hQ hR=>?_;dsimp only[cd74,qm,ql,qf,qi,qb,qc,qp,qv,qN,qT,qF,qt]at hQ ⊢
    skip
    (repeat' first|refine zaa [0,1,2,3,4,5,6,8,9,10,11,16,26,33] fun K hK=>?_|(refine hK.go ?_;clear hK K)|with_reducible exact wT|refine wA ?_|(refine wB (fun h=>?_) (fun h=>?_)<;>first|exact wN h|subst (h:(_:Bool)=_)|skip)|(refine wQ ?_;clear hQ hR)|refine wC c0 ?_|refine wO c1 ?_|(refine AC.callK 30 (by omega) (by first|omega|exact wF|((refine no_implicit_lambda% (st ?_);try with_reducible exact wT);omega)) (zat (F:=cd87) (hH.has _ _ rfl) (Nat.le_of_ble_eq_true rfl) fun Q hQ hR=>?_);dsimp only[cd87,qm,ql,qf,qi,qb,qc,qp,qv,qN,qT,qF,qt]at hQ ⊢;try (refine no_implicit_lambda% (st ?_);try with_reducible exact wT))|refine wS c2 ?_|fail)
    all_goals first|rfl|(exfalso;contradiction)|skip
   ·rw[if_pos ⟨_,zab hk,h5⟩]at he ⊢
    rw[h4]at c2
    by_cases hv:0≤v∧v≤2
    ·rw[if_pos hv]at he;exact absurd rfl he
    ·rw[if_neg hv]
     refine PC.fn hH cd74 fun w0 M Q hM hE hQ hR=>?_;dsimp only[cd74,qm,ql,qf,qi,qb,qc,qp,qv,qN,qT,qF,qt]at hQ ⊢
     skip
     (repeat' first|refine zaa [0,1,2,3,4,5,6,8,9,10,11,16,26,33] fun K hK=>?_|(refine hK.go ?_;clear hK K)|with_reducible exact wT|refine wA ?_|(refine wB (fun h=>?_) (fun h=>?_)<;>first|exact wN h|subst (h:(_:Bool)=_)|skip)|(refine wQ ?_;clear hQ hR)|refine wC c0 ?_|refine wO c1 ?_|(refine AC.callK 30 (by omega) (by first|omega|exact wF|((refine no_implicit_lambda% (st ?_);try with_reducible exact wT);omega)) (zat (F:=cd87) (hH.has _ _ rfl) (Nat.le_of_ble_eq_true rfl) fun Q hQ hR=>?_);dsimp only[cd87,qm,ql,qf,qi,qb,qc,qp,qv,qN,qT,qF,qt]at hQ ⊢;try (refine no_implicit_lambda% (st ?_);try with_reducible exact wT))|refine wS c2 ?_|fail)
     all_goals first|rfl|(exfalso;omega)|skip
  ·rw[if_neg hc]
   generalize zac p s=e at c0 hc ⊢
   refine PC.fn hH cd74 fun w0 M Q hM hE hQ hR=>?_;dsimp only[cd74,qm,ql,qf,qi,qb,qc,qp,qv,qN,qT,qF,qt]at hQ ⊢
   (repeat' first|refine zaa [0,1,2,3,4,5,6,8,9,10,11,16,26,33] fun K hK=>?_|(refine hK.go ?_;clear hK K)|with_reducible exact wT|refine wA ?_|(refine wB (fun h=>?_) (fun h=>?_)<;>first|exact wN h|subst (h:(_:Bool)=_)|skip)|(refine wQ ?_;clear hQ hR hE hM)|refine wC c0 ?_|fail)
   all_goals first|rfl|(exfalso;contradiction)|skip
end Go.Lev
namespace Go.Lev
open Go.Eng
theorem zqq {a b:State} (h1:a.switches=b.switches) (h2:a.locks=b.locks):zjk a b=true:=by
 have k1:∀ (l:List Switch),zav ze2 l l=true:=by
  intro l
  induction l with
  |nil=>rfl
  |cons x l ih=>simp[zav,ih,ze2]
 have k2:∀ (l:List Lock),zav zfQ l l=true:=by
  intro l
  induction l with
  |nil=>rfl
  |cons x l ih=>simp[zav,ih,zfQ]
 unfold zjk
 rw[h1,h2,k1,k2];rfl
theorem zlj:∀ {l m:List Switch},zav ze2 l m=true→∀ C,zf8 C l=zf8 C m
 |[],[],_,_=>rfl
 |[],_::_,h,_=>by simp[zav]at h
 |_::_,[],h,_=>by simp[zav]at h
 |x::l,y::m,h,C=>by
  simp only[zav,ze2,Bool.and_eq_true,decide_eq_true_eq]at h
  rw[zf8,zf8,h.1.1,h.1.2,zlj h.2]
theorem zoK (w:WayR) {a b:Lock} (h:zfQ a b=true):zbk w a=zbk w b∧zbG w a=zbG w b∧zbV a=zbV b∧a.id=b.id:=by
 simp only[zfQ,Bool.and_eq_true,decide_eq_true_eq]at h
 refine ⟨by unfold zbk;rw[h.1.2,h.2],by unfold zbG;rw[h.1.2], ?_,h.1.1⟩
 funext x
 unfold zbV
 rw[h.2]
theorem ziE {a b:Lock} (h:zbV a=zbV b) (C:List (Int×Int)):∀ (q:List AskR) (A:List Int) (t:Bool),zd7 a C q A t=zd7 b C q A t
 |[],_,_=>rfl
 |x::q,A,t=>by
  rw[zd7,zd7,h,ziE h C q,ziE h C q]
theorem zjn (ws:List WayR) (C:List (Int×Int)):∀ {l m:List Lock},zav zfQ l m=true→∀ (i:Nat) (H A:List Int) (t:Bool),zdi ws C i l H A t=zdi ws C i m H A t
 |[],[],_,_,_,_,_=>rfl
 |[],_::_,h,_,_,_,_=>by simp[zav]at h
 |_::_,[],h,_,_,_,_=>by simp[zav]at h
 |x::l,y::m,h,i,H,A,t=>by
  simp only[zav,Bool.and_eq_true]at h
  obtain ⟨h1,h2,h3,h4⟩:=zoK (nth ws i) h.1
  rw[zdi,zdi,h1,h2,h4,ziE h3,zjn ws C h.2]
theorem zoL (p:Pln) {a b:State} (h:zjk a b=true):zaQ p a=zaQ p b:=by
 simp only[zjk,Bool.and_eq_true]at h
 unfold zaQ
 rw[zlj h.1,zjn _ _ h.2]
theorem zfc {p:Pln} {a b:State} (h:zac p a=0) (hk:zjk a b=true) (hb:zaj p b=true):zac p b=0:=by
 obtain ⟨h1,h2,h3⟩:=zae h
 unfold zac
 rw[if_pos h1,if_pos ⟨hb,by rw[←zoL p hk];exact h3⟩]
theorem zcT {α:Type} [Inhabited α] (f:Nat→α→α) {l:List α} {i:Nat} (h:i<l.length):nth (l.mapIdx f) i=f i (nth l i):=by
 rw[zaT (by simpa using h),zaT h,List.getElem_mapIdx]
theorem znK (p:Pln) (s:State):zjk s (zgS p s)=true:=by
 unfold zjk zgS
 simp only[Bool.and_eq_true,zbf,List.length_mapIdx,true_and]
 refine ⟨fun i hi=>?_,fun i hi=>?_⟩
 ·rw[zcT _ hi];simp[ze2,imgW]
 ·rw[zcT _ hi];unfold zmF;split<;>simp[zfQ]
theorem timer_of {p:Pln} (h:OkP p) {r:Rte} (hr:r∈p.routes):1≤r.timer∧r.timer≤9:=by
 have h1:=h.rte r hr
 simp only[zcj,zeC,Bool.and_eq_true,Bool.not_eq_true',decide_eq_false_iff_not]at h1
 omega
theorem left_of {l:Lock} {r:Rte} (h:zcK l r=true):(l.left=0∧(l.phase=0∨l.phase=1∨l.phase=2))∨(1≤l.left∧l.left≤r.timer∧(l.phase=3∨l.phase=4)):=by
 simp only[zcK,zb3,Bool.and_eq_true]at h
 obtain ⟨_,h⟩:=h
 repeat' split at h
 all_goals (simp at h;try omega)
theorem zqI {p:Pln} {s:State} (ho:OkP p) (h:zaj p s=true):zaj p (zgS p s)=true:=by
 have hl:=zan h
 have h':=h
 unfold zaj at h ⊢
 simp only[Bool.and_eq_true,zbf]at h ⊢
 unfold zgS
 simp only[List.length_mapIdx]
 refine ⟨⟨h.1.1,fun i hi=>?_⟩,⟨h.2.1.1,fun i hi=>?_⟩,h.2.2.1,fun i hi=>?_⟩
 ·have:=h.1.2 i hi
  rw[zcT _ hi]
  simp only[ze9,Bool.and_eq_true,decide_eq_true_eq]at this
  exact (Bool.and_eq_true _ _).mpr ⟨decide_eq_true this.1,decide_eq_true (by show (2:Int)≤2;omega)⟩
 ·have:=h.2.1.2 i hi
  rw[zcT _ hi]
  simp only[zeV,zem,Bool.and_eq_true,decide_eq_true_eq]at this
  unfold zeV zem
  exact (Bool.and_eq_true _ _).mpr ⟨decide_eq_true this.1,(Bool.and_eq_true _ _).mpr ⟨rfl,(Bool.and_eq_true _ _).mpr ⟨decide_eq_true this.2.2.1,decide_eq_true this.2.2.2⟩⟩⟩
 ·have h1:=h.2.2.2 i hi
  have ht:=timer_of ho (zab (show i<p.routes.length by omega))
  rw[zcT _ hi]
  unfold zmF
  split
  ·rename_i h2
   have h3:=left_of h1
   simp only[zcK,zb3,Bool.and_eq_true]at h1 ⊢
   obtain ⟨h4,h1⟩:=h1
   refine ⟨h4, ?_⟩
   try dsimp only
   rcases h3 with h3|⟨_,_,h3|h3⟩
   ·omega
   ·rw[h3]at h1 ⊢;simp at h1 ⊢;omega
   ·rw[h3]at h1 ⊢;simp at h1 ⊢;omega
  ·exact h1
theorem zcN {p:Pln} {s:State} (h:zac p s=0):zac p (zgS p s)=0:=zfc h (znK p s) (zqI (zap h) (zae h).2.1)
theorem zlk (s:State):zjk s s=true:=zqq rfl rfl
theorem zkO (s:State) (n v:Int):zjk s (zhx s n v)=true:=zqq rfl rfl
theorem zkP (s:State) (n v:Int):zjk s (zkQ s n v)=true:=by
 unfold zjk zkQ
 simp only[Bool.and_eq_true,zbf,zbE,true_and]
 refine ⟨fun i hi=>?_,fun i hi=>?_⟩
 ·rw[upd1_nth' hi];split<;>simp[ze2]
 ·simp[zfQ]
where
 upd1_nth' {l:List Switch} {n v:Int} {i:Nat} (h:i<l.length):nth (zdG Switch.id n (fun t=>⟨t.id,v,t.call⟩) l) i=if (nth l i).id=n then ⟨(nth l i).id,v,(nth l i).call⟩ else nth l i:=by
  unfold zdG
  exact zlg (fun x=>if Switch.id x=n then (⟨x.id,v,x.call⟩:Switch) else x) h
theorem zjj {a b c:State} (h1:zjk a b=true) (h2:zjk b c=true):zjk a c=true:=by
 simp only[zjk,Bool.and_eq_true,zbf]at h1 h2 ⊢
 refine ⟨⟨h1.1.1.trans h2.1.1,fun i hi=>?_⟩,h1.2.1.trans h2.2.1,fun i hi=>?_⟩
 ·have k1:=h1.1.2 i hi
  have k2:=h2.1.2 i (by omega)
  simp only[ze2,Bool.and_eq_true,decide_eq_true_eq]at k1 k2 ⊢
  exact ⟨k1.1.trans k2.1,k1.2.trans k2.2⟩
 ·have k1:=h1.2.2 i hi
  have k2:=h2.2.2 i (by omega)
  simp only[zfQ,Bool.and_eq_true,decide_eq_true_eq]at k1 k2 ⊢
  exact ⟨⟨k1.1.1.trans k2.1.1,k1.1.2.trans k2.1.2⟩,k1.2.trans k2.2⟩
theorem zoc {p:Pln} {s:State} {n v:Int} (h:zaj p s=true) (hv:v≤2):zaj p (zhx s n v)=true:=by
 unfold zaj at h ⊢
 simp only[Bool.and_eq_true,zbf]at h ⊢
 unfold zhx
 simp only[zbE]
 refine ⟨⟨h.1.1,fun i hi=>?_⟩,h.2⟩
 have:=h.1.2 i hi
 unfold zdG
 rw[zlg (fun x=>if Track.id x=n then (⟨x.id,v⟩:Track) else x) hi]
 simp only[ze9,Bool.and_eq_true,decide_eq_true_eq]at this ⊢
 split
 ·exact ⟨this.1,hv⟩
 ·exact this
theorem zod {p:Pln} {s:State} {n v:Int} (h:zaj p s=true) (hv:0≤v∧v≤2):zaj p (zkQ s n v)=true:=by
 unfold zaj at h ⊢
 simp only[Bool.and_eq_true,zbf]at h ⊢
 unfold zkQ
 simp only[zbE]
 refine ⟨h.1,⟨h.2.1.1,fun i hi=>?_⟩,h.2.2⟩
 have:=h.2.1.2 i hi
 unfold zdG
 rw[zlg (fun x=>if Switch.id x=n then (⟨x.id,v,x.call⟩:Switch) else x) hi]
 simp only[zeV,zem,Bool.and_eq_true,decide_eq_true_eq]at this ⊢
 split
 ·exact ⟨this.1,hv,this.2.2⟩
 ·exact this
theorem zee {p:Pln} {s:State} {n v:Int} (h:zac p s=0) (hv:v≤2):zac p (zhx s n v)=0:=zfc h (zkO s n v) (zoc (zae h).2.1 hv)
theorem zdq {p:Pln} {s:State} {n v:Int} (h:zac p s=0) (hv:0≤v∧v≤2):zac p (zkQ s n v)=0:=zfc h (zkP s n v) (zod (zae h).2.1 hv)
end Go.Lev
namespace Go.Lev
open Go.Eng
theorem ofW_at {p:Pln} {s:State} (h:zac p s=0) {i:Nat} (hi:i<s.locks.length):ofW p (nth s.locks i).id=((zah p (nth p.routes i)).1,0):=by
 obtain ⟨h1,h2,_⟩:=zae h
 obtain ⟨hok,hw,_⟩:=zaD h1
 have hl:=zan h2
 have hr:nth p.routes i∈p.routes:=zab (by omega)
 have hl2:=zji h2 hi
 simp only[zcK,Bool.and_eq_true,decide_eq_true_eq]at hl2
 have hp:zbB p=true:=by simp only[za3,Bool.and_eq_true]at h1;exact h1.1
 unfold ofW
 rw[if_pos hp,hl2.1,zil Rte.id (zfD hok) hr]
 dsimp only
 rw[hw _ hr]
end Go.Lev
namespace Go.Eng
theorem PC.nzr {P:Program} {inv:Nat→Option Nat} {j:Nat} {args:List AV} {r:AV} (h:PC P inv j args (·=r)):PC P inv j args (·=nz r) :=
 fun g hg M w vs hM ha=>(h g hg M w vs hM ha).mono fun _ _ ⟨v,r',e,h1,h2,h3,h4⟩=>⟨v,nz r',e,by rw[h1],h2,zmv r' h3,zno _ r' v h4⟩
end Go.Eng
namespace Go.Eng
open Go.RowKit
section
variable {P:Program} {inv:Nat→Option Nat} {w0:World} {M:Nat→Prop} {n N:Nat} {φ:AF} {σ:AS}
theorem AWp.midP (ks:List Nat) (m:List (Nat×AV)) (A:Prop) {x y:ACode} {Q:Exit→AF→AS→Prop} (h1:AWp P inv w0 M N n x (zpf (midK A (zih m (zeX ks φ)) σ) Q) φ σ) (h2:A→AWp P inv w0 M N n y Q (zih m (zeX ks φ)) σ):AWp P inv w0 M N n (.seq x y) Q φ σ :=
 AWp.seq fun K hK=>by
  refine AWp.mono ?_ h1
  intro e φ' σ' q
  cases e with
  |normal=>exact hK _ _ ((h2 q.1).sub q.2.1 q.2.2)
  |exit id=>exact q
  |goto l=>exact q
  |ret=>exact q
  |panic ch=>exact q
  |outgrown=>exact q
end
end Go.Eng
namespace Go.Eng
open Go.RowKit
section
variable {S R:Type} {body:Nat→S→(S→R)→R} {fin:S→R} {n k:Nat} {s:S}
end
section
variable {f f':Nat→Option (List AV)} {g:Nat→Bool} (h:∀ l,g l=true→f' l=f l)
include h
end
section
variable (k:Nat) (σ:List (Nat×AO))
end
section
variable {P:Program} {inv:Nat→Option Nat} {w0:World} {M:Nat→Prop} {σ:AS}
end
section
variable {P:Program} {inv:Nat→Option Nat} {w0:World} {M:Nat→Prop} {n N:Nat} {φ:AF} {σ:AS}
theorem zaE {x r:ACode} {Q:Exit→AF→AS→Prop} (l:Nat) (hf:zi2 x l=some r) (h:AWp P inv w0 M N n x (ziO l (fun _ _=>False) Q) φ σ):AWp P inv w0 M N n (.scope x) Q φ σ :=
 AWp.scope l hf (fun _ _ _=>False) (AWp.mono (fun e φ' σ' q=>by
  cases e with
  |goto l'=>exact q.2.elim
  |normal=>exact q
  |exit id=>exact q
  |ret=>exact q
  |panic ch=>exact q
  |outgrown=>exact q) h) fun _ _ _ h=>h.elim
variable {l:Nat} {J:AF→AS→Prop} {Q:Exit→AF→AS→Prop}
end
section
variable {P:Program} {inv:Nat→Option Nat} {w0:World} {M:Nat→Prop} {n N:Nat} {φ:AF} {σ:AS}
theorem AWp.sqpC (ks:List Nat) {l:List GOp} {c:Opd} {u v y:ACode} {Q:Exit→AF→AS→Prop} (h:∀ K:AF→AS→Prop,Cont K (AWp P inv w0 M N n y Q)→AWp P inv w0 M N n (.seq (.reg l) (.cond c u v)) (zpf (pk ks K) Q) φ σ):AWp P inv w0 M N n (.seq (.seq (.reg l) (.cond c u v)) y) Q φ σ:=zaa ks h
theorem AWp.sqpD (ks:List Nat) {k:Nat} {l:List GOp} {c:Opd} {u v y:ACode} {Q:Exit→AF→AS→Prop} (h:∀ K:AF→AS→Prop,Cont K (AWp P inv w0 M N n y Q)→AWp P inv w0 M N n (.seq (.regd k l) (.cond c u v)) (zpf (pk ks K) Q) φ σ):AWp P inv w0 M N n (.seq (.seq (.regd k l) (.cond c u v)) y) Q φ σ:=zaa ks h
end
end Go.Eng
namespace Go.Lev
open Go.Eng
set_option maxRecDepth 10000
set_option maxHeartbeats 4000000
variable {P:Program} {inv:Nat→Option Nat} {w0:World} {M:Nat→Prop}
theorem trk_of {p:Pln} {s:State} (h:zaj p s=true) {n:Int} (hs:∃ x∈p.sections,x.id=n):zqu s n:=by
 obtain ⟨x,hx,rfl⟩:=hs
 have:x.id∈s.tracks.map Track.id:=by rw[zl4 h];exact List.mem_map_of_mem hx
 obtain ⟨t,ht,e⟩:=List.mem_map.1 this
 exact ⟨t,ht,e⟩
theorem swt_of {p:Pln} {s:State} (h:zaj p s=true) {n:Int} (hn:zh9 p n=true):zmE s n:=by
 obtain ⟨x,hx,e⟩:=List.any_eq_true.1 hn
 have e:x.id=n:=by simpa using e
 have:x.id∈s.switches.map Switch.id:=by rw[zcJ h];exact List.mem_map_of_mem hx
 obtain ⟨t,ht,e2⟩:=List.mem_map.1 this
 exact ⟨t,ht,e2.trans e⟩
end Go.Lev
namespace Go.Lev
open Go.Eng
set_option maxRecDepth 10000
set_option maxHeartbeats 4000000
variable {P:Program} {inv:Nat→Option Nat} {w0:World} {M:Nat→Prop}
theorem free_pc (hH:HasAll P inv) (s:State) (hs:s.tracks.length≤1000000000) (n:Int):PC P inv 181 [.agg s.c,.n n] (·=.b (frT s n)):=by
 have c1:=zqO hH s.tracks ⟨n,0⟩ hs
 rw[show (s.tracks.any fun x=>decide ((⟨n,0⟩:Track).id=x.id)&&decide ((⟨n,0⟩:Track).is=x.is))=frT s n from rfl]at c1
 refine PC.fn hH cd181 fun w0 M Q hM hE hQ hR=>?_;dsimp only[cd181,qm,ql,qf,qi,qb,qc,qp,qv,qN,qT,qF,qt]at hQ ⊢
 (repeat' first|refine zaa [0,1,2,4] fun K hK=>?_|(refine hK.go ?_;clear hK K)|with_reducible exact wT|refine wA ?_|(refine wB (fun h=>?_) (fun h=>?_)<;>first|exact wN h|subst (h:(_:Bool)=_)|skip)|(refine wQ ?_;clear hQ hR hE hM)|refine wC c1 ?_|fail)
theorem is189_pc (hH:HasAll P inv) (n:Int) (x:Pnt):PC P inv 189 ([.agg x.c]++[.ip 1 [[.n n]] 0 0]) (·=.b (decide (x.id=n))):=by
 refine PC.fn hH cd189 fun w0 M Q hM hE hQ hR=>?_;dsimp only[cd189,qm,ql,qf,qi,qb,qc,qp,qv,qN,qT,qF,qt]at hQ ⊢
 (repeat' first|refine zaa [0,1,2,3] fun K hK=>?_|(refine hK.go ?_;clear hK K)|with_reducible exact wT|refine wA ?_|(refine wB (fun h=>?_) (fun h=>?_)<;>first|exact wN h|subst (h:(_:Bool)=_)|skip)|(refine wQ ?_;clear hQ hR hE hM)|fail)
theorem znG (hH:HasAll P inv) (n:Int) (x:Switch):PC P inv 183 ([.agg x.c]++[.ip 1 [[.n n]] 0 0]) (·=.b (decide (x.id=n))):=by
 refine PC.fn hH cd183 fun w0 M Q hM hE hQ hR=>?_;dsimp only[cd183,qm,ql,qf,qi,qb,qc,qp,qv,qN,qT,qF,qt]at hQ ⊢
 (repeat' first|refine zaa [0,1,2,3] fun K hK=>?_|(refine hK.go ?_;clear hK K)|with_reducible exact wT|refine wA ?_|(refine wB (fun h=>?_) (fun h=>?_)<;>first|exact wN h|subst (h:(_:Bool)=_)|skip)|(refine wQ ?_;clear hQ hR hE hM)|fail)
theorem is180_pc (hH:HasAll P inv) (n:Int) (x:Lock):PC P inv 180 ([.agg x.c]++[.ip 1 [[.n n]] 0 0]) (·=.b (decide (x.id=n))):=by
 refine PC.fn hH cd180 fun w0 M Q hM hE hQ hR=>?_;dsimp only[cd180,qm,ql,qf,qi,qb,qc,qp,qv,qN,qT,qF,qt]at hQ ⊢
 (repeat' first|refine zaa [0,1,2,3] fun K hK=>?_|(refine hK.go ?_;clear hK K)|with_reducible exact wT|refine wA ?_|(refine wB (fun h=>?_) (fun h=>?_)<;>first|exact wN h|subst (h:(_:Bool)=_)|skip)|(refine wQ ?_;clear hQ hR hE hM)|fail)
theorem lies_pc (hH:HasAll P inv) (p:Pln) (hl:p.points.length≤1000000000) {k:Nat} (hk:k<p.points.length) {n:Int} (he:zaW (fun x=>decide (Pnt.id x=n)) 0 p.points=(k:Int)):PC P inv 182 [.agg p.c,.n n] (·=.n (nth p.points k).sec):=by
 have c1:=zmG hH p.points (fun x _=>is189_pc hH n x) hl
 rw[he]at c1
 refine PC.fn hH cd182 fun w0 M Q hM hE hQ hR=>?_;dsimp only[cd182,qm,ql,qf,qi,qb,qc,qp,qv,qN,qT,qF,qt]at hQ ⊢
 (repeat' first|refine zaa [0,1,2,3,4] fun K hK=>?_|(refine hK.go ?_;clear hK K)|with_reducible exact wT|refine wA ?_|(refine wB (fun h=>?_) (fun h=>?_)<;>first|exact wN h|subst (h:(_:Bool)=_)|skip)|(refine wQ ?_;clear hQ hR hE hM)|refine wS c1 ?_|fail)
theorem zri (hH:HasAll P inv) (s:State) (hl:s.switches.length≤1000000000) {k:Nat} (hk:k<s.switches.length) {n:Int} (he:zaW (fun x=>decide (Switch.id x=n)) 0 s.switches=(k:Int)):PC P inv 172 [.agg s.c,.n n] (·=.ip 3 (s.switches.map Switch.c) k 2):=by
 have c1:=zib hH s.switches (fun x _=>znG hH n x) hl
 rw[he]at c1
 refine PC.fn hH cd172 fun w0 M Q hM hE hQ hR=>?_;dsimp only[cd172,qm,ql,qf,qi,qb,qc,qp,qv,qN,qT,qF,qt]at hQ ⊢
 (repeat' first|refine zaa [0,1,2,3,4,5] fun K hK=>?_|(refine hK.go ?_;clear hK K)|with_reducible exact wT|refine wA ?_|(refine wB (fun h=>?_) (fun h=>?_)<;>first|exact wN h|subst (h:(_:Bool)=_)|skip)|(refine wQ ?_;clear hQ hR hE hM)|refine wS c1 ?_|fail)
end Go.Lev
namespace Go.Lev
open Go.Eng
set_option maxRecDepth 10000
set_option maxHeartbeats 4000000
variable {P:Program} {inv:Nat→Option Nat} {w0:World} {M:Nat→Prop}
theorem zmW (ok:AskR→Bool) {e:Int} (he:¬e=0):∀ l,askE ok e l=e
 |[]=>rfl
 |a::r=>by rw[askE,if_neg he];exact zmW ok he r
theorem askE_0 (ok:AskR→Bool):∀ l,askE ok 0 l=if l.all ok=true then 0 else 183
 |[]=>rfl
 |a::r=>by
  rw[askE,if_pos rfl,List.all_cons]
  cases h:ok a with
  |true=>rw[if_pos rfl,askE_0 ok r,Bool.true_and]
  |false=>rw[if_neg (by simp),zmW ok (by decide)];simp
theorem setE_ask (p:Pln) (s:State) (i:Nat):setE p s i=askE (zmV p s (zaQ p s).2.1) (zdh (zaQ p s).1 (frT s) ((zah p (nth p.routes i)).1.path++(zah p (nth p.routes i)).1.over)) (zah p (nth p.routes i)).1.asks:=by
 unfold setE
 split
 ·rename_i h;rw[h,askE_0]
 ·rename_i h;rw[zmW _ h]
theorem zp2 {p:Pln} (h:OkP p) {k:Nat} (hk:k<p.points.length):zei p (nth p.points k).id=(nth p.points k).sec:=by
 unfold zei
 rw[zkm Pnt.id (zcc h) hk rfl]
theorem zjh (hH:HasAll P inv) (hI:HasIds P inv) (p:Pln) (hp:Sm p) (s:State) (hs:SmS s) (n:Int):PC P inv 171 [.agg p.c,.agg s.c,.n n] (·=.tup [.agg (lkW p s n).c,.n (lkC p s n)]):=by
 have c0:=of_pc hH hI p hp s hs
 have c1:=idx_lck hH s.locks (fun x _=>is180_pc hH n x) (by have:=hs.2.2;omega)
 have hRl:=zj3 p s
 have hRe:=zmu p s
 by_cases hst:zac p s=0
 ·have hok:=zap hst
  have hpa:=(zae hst).2.1
  have hpl:=zan hpa
  have hR:ofR p s=⟨(zaQ p s).1,(zaQ p s).2.1,zaV p,0⟩:=by unfold ofR;rw[if_pos hst]
  rw[hR]at c0 hRl
  dsimp only at c0 hRl
  have hW:lkW p s n=if zgZ s n<0 then WayR.z else if (nth s.locks (zgZ s n).toNat).phase=0 then (zah p (nth p.routes (zgZ s n).toNat)).1 else WayR.z:=by unfold lkW;rw[if_pos hst]
  have hC:lkC p s n=if zgZ s n<0 then 6 else if (nth s.locks (zgZ s n).toNat).phase=0 then setE p s (zgZ s n).toNat else 180:=by unfold lkC;rw[if_pos hst]
  rw[hW,hC]
  clear hW hC
  obtain ⟨G,Z,hg⟩:=GC.ex
  rw[←hg.eq]at c0
  have hfold:=hg.fold
  have hlen0:=hg.len (.s0 4) hg.zl hg.zl
  have hlen:=hg.len (.sl 4 ((zaV p).map Way.c)) hRl.1 hRl.2
  have hov:=hg.ov (.s0 4) (.sl 4 ((zaV p).map Way.c)) hg.zl hg.zl hRl.1 hRl.2
  have hbd0:=hg.bd0 Z Z
  have hbd:=hg.bd (zaQ p s).1 (zaQ p s).2.1 ((zaV p).map Way.c)
  have hba:=hg.ba (zaQ p s).1 (zaQ p s).2.1 ((zaV p).map Way.c)
  have hlix:zgZ s n=zaW (fun x=>decide (Lock.id x=n)) 0 s.locks:=rfl
  rcases zaP Lock.id n s.locks with ⟨h4,_⟩|⟨i,hi,h4,h5⟩
  ·rw[h4]at c1 hlix
   rw[hlix,if_pos (by decide),if_pos (by decide)]
   refine PC.fn hH cd171 fun w0 M Q hM hE hQ hR=>?_;dsimp only[cd171,qm,ql,qf,qi,qb,qc,qp,qv,qN,qT,qF,qt]at hQ ⊢
   (have hX:=zA @hfold (zA @hlen0 (zA @hlen (zA @hov (zA @hbd0 (zA @hbd @hba)))));(repeat' first|refine zaa [0,1,2,3,4,5,6,7,8,9,11,13,15,23,29,37,48,49,50,51,54,55,56,57,60,66,74,75,76,77,106,109] fun K hK=>?_|(refine hK.go ?_;clear hK K)|with_reducible exact wT|refine wA ?_|(refine wB (fun h=>?_) (fun h=>?_)<;>first|exact wN h|subst (h:(_:Bool)=_)|skip)|(refine zaE 0 rfl ?_;try (refine no_implicit_lambda% (st ?_);try with_reducible exact wT))|(refine wQ ?_;clear hQ hR hE hM)|refine wC c0 ?_|refine wS c1 ?_|fail);all_goals clear hX)
   all_goals first|rfl|(exfalso;contradiction)|skip
  ·rw[h4]at c1 hlix
   rw[hlix,if_neg (show ¬((i:Nat):Int)<0 by omega),if_neg (show ¬((i:Nat):Int)<0 by omega),Int.toNat_natCast]
   have hri:i<p.routes.length:=by omega
   have hlk:s.locks.length≤1000:=hs.2.2
   by_cases hph:(nth s.locks i).phase=0
   ·rw[if_pos hph,if_pos hph]
    have hr:=zab hri
    have hwp:=zbo ((zaD (zae hst).1).2.1 _ hr)
    have hwl:=zbI hok hr
    have hsec:∀ m∈(zah p (nth p.routes i)).1.path++(zah p (nth p.routes i)).1.over,0≤m∧m≤99:=fun m hm=>by
     rw[hwp.1,hwp.2.1]at hm
     obtain ⟨q,hq,rfl⟩:=(zcx hok hr).1 m hm
     have:=zdr hok hq
     omega
    have hask:∀ k,k<(zah p (nth p.routes i)).1.asks.length→0≤(nth (zah p (nth p.routes i)).1.asks k).pnt∧(nth (zah p (nth p.routes i)).1.asks k).pnt≤99 ∧
      (∃ j,j<s.switches.length∧PC P inv 172 [.agg s.c,.n (nth (zah p (nth p.routes i)).1.asks k).pnt] (·=.ip 3 (s.switches.map Switch.c) j 2)∧(nth s.switches j).call=zbs s (nth (zah p (nth p.routes i)).1.asks k).pnt) ∧
      PC P inv 182 [.agg p.c,.n (nth (zah p (nth p.routes i)).1.asks k).pnt] (·=.n (zei p (nth (zah p (nth p.routes i)).1.asks k).pnt)):=fun k hk=>by
     obtain ⟨⟨x,hx,ex⟩,hb,_⟩:=zbi hok hr (zab hk)
     refine ⟨by omega,by omega, ?_, ?_⟩
     ·obtain ⟨y,hy,ey⟩:=swt_of hpa (n:=(nth (zah p (nth p.routes i)).1.asks k).pnt) (List.any_eq_true.2 ⟨x,hx,by simpa using ex⟩)
      rcases zaP Switch.id (nth (zah p (nth p.routes i)).1.asks k).pnt s.switches with ⟨_,q⟩|⟨j,hj,q1,q2⟩
      ·exact absurd ey (q y hy)
      ·exact ⟨j,hj,zri hH s (by have:=hs.2.1;omega) hj q1,by rw[←q2];exact (ziA hok hpa (zab hj)).symm⟩
     ·rcases zaP Pnt.id (nth (zah p (nth p.routes i)).1.asks k).pnt p.points with ⟨_,q⟩|⟨j,hj,q1,q2⟩
      ·exact absurd ex (q x hx)
      ·have:=lies_pc hH p (by have:=hp.pts;omega) hj q1
       rw[←zp2 hok hj,q2]at this
       exact this
    rw[setE_ask]
    have hgw:=hg.get (.sl 4 ((zaV p).map Way.c)) hRl.1 hRl.2
    have hwat:nth (zaV p) i=(zah p (nth p.routes i)).1:=zlg _ hri
    have hwlen:(zaV p).length=p.routes.length:=by simp[zaV]
    have hfr:∀ x,PC P inv 181 [.agg s.c,.n x] (·=.b (frT s x)):=fun x=>free_pc hH s (by have:=hs.1;omega) x
    have hok2:∀ a:AskR,zmV p s (zaQ p s).2.1 a=(decide (zbs s a.pnt=a.lie)||(decide (nth (zaQ p s).2.1 a.pnt.toNat=0)&&frT s (zei p a.pnt))):=fun a=>rfl
    have hg1:∀ k:Nat,k<100→(G (zaQ p s).1 (zaQ p s).2.1 (.sl 4 ((zaV p).map Way.c)))[k]?=some (.n (nth (zaQ p s).1 k)):=fun k hk=>hg.get1 _ hRl.1 hk
    have hg2:∀ k:Nat,k<100→(G (zaQ p s).1 (zaQ p s).2.1 (.sl 4 ((zaV p).map Way.c)))[100+k]?=some (.n (nth (zaQ p s).2.1 k)):=fun k hk=>hg.get2 _ hRl.1 hRl.2 hk
    generalize (zah p (nth p.routes i)).1=w at *
    generalize zaQ p s=GR at *
    obtain ⟨H,A,B⟩:=GR
    dsimp only at *
    generalize zaV p=ws at *
    generalize zmV p s A=ok at *
    clear hwp hr hok hst hpa hR h5 hRe hg
    refine PC.fn hH cd171 fun w0 M Q hM hE hQ hR=>?_;dsimp only[cd171,qm,ql,qf,qi,qb,qc,qp,qv,qN,qT,qF,qt]at hQ ⊢
    repeat' (first|(refine zaa [0,1,2,3,4,5,6,7,8,9,11,13,15,23,29,37,48,49,50,51,54,55,56,57,60,66,74,75,76,77,106,109] fun K hK=>cnd2 rfl (fun h=>?_) (fun h=>?_)<;>(try first|exact h.elim|obtain rfl:(_:Bool)=_:=h)<;>first|(exfalso;omega)|skip)|refine AWp.sqpC [0,1,2,3,4,5,6,7,8,9,11,13,15,23,29,37,48,49,50,51,54,55,56,57,60,66,74,75,76,77,106,109] fun K hK=>?_|refine AWp.sqpD [0,1,2,3,4,5,6,7,8,9,11,13,15,23,29,37,48,49,50,51,54,55,56,57,60,66,74,75,76,77,106,109] fun K hK=>?_|refine zaa [0,1,2,3,4,5,6,7,8,9,11,13,15,23,29,37,48,49,50,51,54,55,56,57,60,66,74,75,76,77,106,109] fun K hK=>AWp.label ?_|refine AWp.block ?_|(refine hK.go ?_;clear hK K)|refine Cont.go (by assumption) ?_|(refine cnd2 rfl (fun h=>?_) (fun h=>?_)<;>(try first|exact h.elim|obtain rfl:(_:Bool)=_:=h)<;>first|(exfalso;omega)|skip)|((first|refine zaa [0,1,2,3,4,5,6,7,8,9,11,13,15,23,29,37,48,49,50,51,54,55,56,57,60,66,74,75,76,77,106,109] fun K hK=>AWp.reg hE hM ?_|refine zaa [0,1,2,3,4,5,6,7,8,9,11,13,15,23,29,37,48,49,50,51,54,55,56,57,60,66,74,75,76,77,106,109] fun K hK=>AWp.regd hE hM ?_|refine AWp.reg hE hM ?_|refine AWp.regd hE hM ?_|refine AWp.ret ?_|refine AWp.label ?_|(refine zaE 0 rfl ?_)|refine AWp.skip ?_|refine AWp.exit ?_|(refine pk2 (fun h=>?_) (fun h=>?_)<;>(try first|exact h.elim|obtain rfl:(_:Bool)=_:=h))|refine zj6 (fun h=>?_) ?_|refine zas hM (c0) ?_|(refine zeT hM 4 ( c1) ?_ rfl ?_;(focus (simp -dsimp -implicitDefEqProofs (disch:=omega) only[go_sem,reduceIte,↓reduceIte,Nat.reduceEqDiff,Nat.reduceLT,Nat.reduceLeDiff,Nat.reduceAdd,Nat.reduceSub,Nat.reduceMul,Int.reduceToNat,Int.reduceLT,Int.reduceLE,Int.reduceEq,Int.reduceNeg,Int.reduceNe,reduceCtorEq,hfold,hlen0,hlen,hov,hbd0,hbd,hba,hgw,hwat]<;>fail)))|(refine hQ _ _ _ rfl ?_;clear hQ hR hE hM)|(refine hR _ _ (hQ _ _ _ rfl ?_);clear hQ hR hE hM)|(refine ob_mk ?_ ?_;focus first|omega|(refine zry ?_;(refine no_implicit_lambda% (st ?_);try with_reducible exact wT);done)))<;>try simp -dsimp -implicitDefEqProofs (disch:=omega) only[go_sem,reduceIte,↓reduceIte,Nat.reduceEqDiff,Nat.reduceLT,Nat.reduceLeDiff,Nat.reduceAdd,Nat.reduceSub,Nat.reduceMul,Int.reduceToNat,Int.reduceLT,Int.reduceLE,Int.reduceEq,Int.reduceNeg,Int.reduceNe,reduceCtorEq,hfold,hlen0,hlen,hov,hbd0,hbd,hba,hgw,hwat]))
    refine AWp.midP [3,4,6,8] [(7,.n (zdh H (frT s) (w.path++w.over)))] (True) ?_ fun hmid=>?_
    ·(have hX:=zA @hfold (zA @hlen0 (zA @hlen (zA @hov (zA @hbd0 (zA @hbd @hba)))));(repeat' first|refine zaa [0,1,2,3,4,5,6,7,8,9,11,13,15,23,29,37,48,49,50,51,54,55,56,57,60,66,74,75,76,77,106,109] fun K hK=>?_|(refine hK.go ?_;clear hK K)|with_reducible exact wT|refine wA ?_|(refine wB (fun h=>?_) (fun h=>?_)<;>first|exact wN h|subst (h:(_:Bool)=_)|skip)|(refine zaE 0 rfl ?_;try (refine no_implicit_lambda% (st ?_);try with_reducible exact wT))|(refine wQ ?_;clear hQ hR hE hM)|fail);all_goals clear hX)
     refine zai (ι:=Nat) [3,4,6,7,8,48,49,50] (fun z=>[(50,.n z)]) (fun _=>[]) (fun z=>z) (2) (fun z=>(zdh H (frT s) ((([w.path,w.over]:List (List Int)).drop z).flatten)=zdh H (frT s) (w.path++w.over))) (0) ?_;rintro k ⟨hk,hg0⟩;(try dsimp only at hk hg0 ⊢);rcases Nat.lt_or_ge k 2 with hlt|hge
     ·have hout:=hg0
      obtain rfl|rfl:k=0∨k=1:=by omega
      ·(repeat' first|refine zaa [0,1,2,3,4,5,6,7,8,9,11,13,15,23,29,37,48,49,50,51,54,55,56,57,60,66,74,75,76,77,106,109] fun K hK=>?_|(refine hK.go ?_;clear hK K)|with_reducible exact wT|refine wA ?_|(refine wB (fun h=>?_) (fun h=>?_)<;>first|exact wN h|subst (h:(_:Bool)=_)|skip)|(refine zaE 0 rfl ?_;try (refine no_implicit_lambda% (st ?_);try with_reducible exact wT))|(refine wQ ?_;clear hQ hR hE hM)|fail)
       refine zai (ι:=Nat) [3,4,6,7,8,48,49,50,54,55,56] (fun z=>[(56,.n z)]) (fun _=>[]) (fun z=>z) (w.path.length) (fun z=>(zdh H (frT s) (w.path.drop z++w.over)=zdh H (frT s) (w.path++w.over))) (0) ?_;rintro j ⟨hk,hj⟩;(try dsimp only at hk hj ⊢);rcases Nat.lt_or_ge j w.path.length with hlt|hge
       ·have hx:=hsec (nth w.path j) (List.mem_append_left _ (zab hlt))
        rw[zad hlt,List.cons_append,zdh]at hj
        by_cases h1:nth H (nth w.path j).toNat=0
        ·rw[if_pos h1]at hj
         have c3:=hfr (nth w.path j)
         cases hf:frT s (nth w.path j) with
         |true =>
          rw[if_pos hf]at hj
          rw[hf]at c3
          (have hX:=zA @hlen (zA @hbd (zA @hba (zA @hg1 @h1)));(repeat' first|refine zaa [0,1,2,3,4,5,6,7,8,9,11,13,15,23,29,37,48,49,50,51,54,55,56,57,60,66,74,75,76,77,106,109] fun K hK=>?_|(refine hK.go ?_;clear hK K)|with_reducible exact wT|refine wA ?_|(refine wB (fun h=>?_) (fun h=>?_)<;>first|exact wN h|subst (h:(_:Bool)=_)|skip)|(refine zaE 0 rfl ?_;try (refine no_implicit_lambda% (st ?_);try with_reducible exact wT))|(refine wQ ?_;clear hQ hR hE hM)|refine wC c3 ?_|fail);all_goals clear hX)
          all_goals first|(exfalso;contradiction)|exact ⟨j+1,by omega,⟨by omega,hj⟩,by omega⟩
         |false =>
          rw[if_neg (by rw[hf];simp)]at hj
          rw[hf]at c3
          (have hX:=zA @hlen (zA @hbd (zA @hba (zA @hg1 @h1)));(repeat' first|refine zaa [0,1,2,3,4,5,6,7,8,9,11,13,15,23,29,37,48,49,50,51,54,55,56,57,60,66,74,75,76,77,106,109] fun K hK=>?_|(refine hK.go ?_;clear hK K)|with_reducible exact wT|refine wA ?_|(refine wB (fun h=>?_) (fun h=>?_)<;>first|exact wN h|subst (h:(_:Bool)=_)|skip)|(refine zaE 0 rfl ?_;try (refine no_implicit_lambda% (st ?_);try with_reducible exact wT))|(refine wQ ?_;clear hQ hR hE hM)|refine wC c3 ?_|fail);all_goals clear hX)
          all_goals first|exact hj|(exfalso;contradiction)
        ·rw[if_neg h1]at hj
         (have hX:=zA @hlen (zA @hbd (zA @hba @hg1));(repeat' first|refine zaa [0,1,2,3,4,5,6,7,8,9,11,13,15,23,29,37,48,49,50,51,54,55,56,57,60,66,74,75,76,77,106,109] fun K hK=>?_|(refine hK.go ?_;clear hK K)|with_reducible exact wT|refine wA ?_|(refine wB (fun h=>?_) (fun h=>?_)<;>first|exact wN h|subst (h:(_:Bool)=_)|skip)|(refine zaE 0 rfl ?_;try (refine no_implicit_lambda% (st ?_);try with_reducible exact wT))|(refine wQ ?_;clear hQ hR hE hM)|fail);all_goals clear hX)
         all_goals first|exact hj|(exfalso;contradiction)
       ·rw[List.drop_eq_nil_of_le hge]at hj
        (repeat' first|refine zaa [0,1,2,3,4,5,6,7,8,9,11,13,15,23,29,37,48,49,50,51,54,55,56,57,60,66,74,75,76,77,106,109] fun K hK=>?_|(refine hK.go ?_;clear hK K)|with_reducible exact wT|refine wA ?_|(refine wB (fun h=>?_) (fun h=>?_)<;>first|exact wN h|subst (h:(_:Bool)=_)|skip)|(refine zaE 0 rfl ?_;try (refine no_implicit_lambda% (st ?_);try with_reducible exact wT))|(refine wQ ?_;clear hQ hR hE hM)|fail)
        exact ⟨1,by omega,⟨by omega,by simpa using hj⟩,rfl⟩
      ·replace hout:zdh H (frT s) (w.over.drop 0)=zdh H (frT s) (w.path++w.over):=by simpa using hout
       (repeat' first|refine zaa [0,1,2,3,4,5,6,7,8,9,11,13,15,23,29,37,48,49,50,51,54,55,56,57,60,66,74,75,76,77,106,109] fun K hK=>?_|(refine hK.go ?_;clear hK K)|with_reducible exact wT|refine wA ?_|(refine wB (fun h=>?_) (fun h=>?_)<;>first|exact wN h|subst (h:(_:Bool)=_)|skip)|(refine zaE 0 rfl ?_;try (refine no_implicit_lambda% (st ?_);try with_reducible exact wT))|(refine wQ ?_;clear hQ hR hE hM)|fail)
       refine zai (ι:=Nat) [3,4,6,7,8,48,49,50,54,55,56] (fun z=>[(56,.n z)]) (fun _=>[]) (fun z=>z) (w.over.length) (fun z=>(zdh H (frT s) (w.over.drop z)=zdh H (frT s) (w.path++w.over))) (0) ?_;rintro j ⟨hk,hj⟩;(try dsimp only at hk hj ⊢);rcases Nat.lt_or_ge j w.over.length with hlt|hge
       ·have hx:=hsec (nth w.over j) (List.mem_append_right _ (zab hlt))
        rw[zad hlt,zdh]at hj
        by_cases h1:nth H (nth w.over j).toNat=0
        ·rw[if_pos h1]at hj
         have c3:=hfr (nth w.over j)
         cases hf:frT s (nth w.over j) with
         |true =>
          rw[if_pos hf]at hj
          rw[hf]at c3
          (have hX:=zA @hlen (zA @hbd (zA @hba (zA @hg1 @h1)));(repeat' first|refine zaa [0,1,2,3,4,5,6,7,8,9,11,13,15,23,29,37,48,49,50,51,54,55,56,57,60,66,74,75,76,77,106,109] fun K hK=>?_|(refine hK.go ?_;clear hK K)|with_reducible exact wT|refine wA ?_|(refine wB (fun h=>?_) (fun h=>?_)<;>first|exact wN h|subst (h:(_:Bool)=_)|skip)|(refine zaE 0 rfl ?_;try (refine no_implicit_lambda% (st ?_);try with_reducible exact wT))|(refine wQ ?_;clear hQ hR hE hM)|refine wC c3 ?_|fail);all_goals clear hX)
          all_goals first|(exfalso;contradiction)|exact ⟨j+1,by omega,⟨by omega,hj⟩,by omega⟩
         |false =>
          rw[if_neg (by rw[hf];simp)]at hj
          rw[hf]at c3
          (have hX:=zA @hlen (zA @hbd (zA @hba (zA @hg1 @h1)));(repeat' first|refine zaa [0,1,2,3,4,5,6,7,8,9,11,13,15,23,29,37,48,49,50,51,54,55,56,57,60,66,74,75,76,77,106,109] fun K hK=>?_|(refine hK.go ?_;clear hK K)|with_reducible exact wT|refine wA ?_|(refine wB (fun h=>?_) (fun h=>?_)<;>first|exact wN h|subst (h:(_:Bool)=_)|skip)|(refine zaE 0 rfl ?_;try (refine no_implicit_lambda% (st ?_);try with_reducible exact wT))|(refine wQ ?_;clear hQ hR hE hM)|refine wC c3 ?_|fail);all_goals clear hX)
          all_goals first|exact hj|(exfalso;contradiction)
        ·rw[if_neg h1]at hj
         (have hX:=zA @hlen (zA @hbd (zA @hba @hg1));(repeat' first|refine zaa [0,1,2,3,4,5,6,7,8,9,11,13,15,23,29,37,48,49,50,51,54,55,56,57,60,66,74,75,76,77,106,109] fun K hK=>?_|(refine hK.go ?_;clear hK K)|with_reducible exact wT|refine wA ?_|(refine wB (fun h=>?_) (fun h=>?_)<;>first|exact wN h|subst (h:(_:Bool)=_)|skip)|(refine zaE 0 rfl ?_;try (refine no_implicit_lambda% (st ?_);try with_reducible exact wT))|(refine wQ ?_;clear hQ hR hE hM)|fail);all_goals clear hX)
         all_goals first|exact hj|(exfalso;contradiction)
       ·rw[List.drop_eq_nil_of_le hge]at hj
        (repeat' first|refine zaa [0,1,2,3,4,5,6,7,8,9,11,13,15,23,29,37,48,49,50,51,54,55,56,57,60,66,74,75,76,77,106,109] fun K hK=>?_|(refine hK.go ?_;clear hK K)|with_reducible exact wT|refine wA ?_|(refine wB (fun h=>?_) (fun h=>?_)<;>first|exact wN h|subst (h:(_:Bool)=_)|skip)|(refine zaE 0 rfl ?_;try (refine no_implicit_lambda% (st ?_);try with_reducible exact wT))|(refine wQ ?_;clear hQ hR hE hM)|fail)
        exact ⟨2,by omega,⟨by omega,by simpa using hj⟩,rfl⟩
     ·obtain rfl:k=2:=by omega
      (repeat' first|refine zaa [0,1,2,3,4,5,6,7,8,9,11,13,15,23,29,37,48,49,50,51,54,55,56,57,60,66,74,75,76,77,106,109] fun K hK=>?_|(refine hK.go ?_;clear hK K)|with_reducible exact wT|refine wA ?_|(refine wB (fun h=>?_) (fun h=>?_)<;>first|exact wN h|subst (h:(_:Bool)=_)|skip)|(refine zaE 0 rfl ?_;try (refine no_implicit_lambda% (st ?_);try with_reducible exact wT))|(refine wQ ?_;clear hQ hR hE hM)|fail)
      all_goals first|exact hg0|(simpa using hg0)
    ·(have hX:=zA @hlen (zA @hbd @hba);(repeat' first|refine zaa [0,1,2,3,4,5,6,7,8,9,11,13,15,23,29,37,48,49,50,51,54,55,56,57,60,66,74,75,76,77,106,109] fun K hK=>?_|(refine hK.go ?_;clear hK K)|with_reducible exact wT|refine wA ?_|(refine wB (fun h=>?_) (fun h=>?_)<;>first|exact wN h|subst (h:(_:Bool)=_)|skip)|(refine zaE 0 rfl ?_;try (refine no_implicit_lambda% (st ?_);try with_reducible exact wT))|(refine wQ ?_;clear hQ hR hE hM)|fail);all_goals clear hX)
     refine zai (ι:=Nat×Int) [3,4,6,7,8,74,75,76] (fun z=>[(7,.n z.2),(76,.n z.1)]) (fun _=>[]) (fun z=>z.1) (w.asks.length) (fun z=>(askE ok z.2 (w.asks.drop z.1)=askE ok (zdh H (frT s) (w.path++w.over)) w.asks)) (0,(zdh H (frT s) (w.path++w.over))) ?_;rintro ⟨k,e⟩ ⟨hk,hq⟩;(try dsimp only at hk hq ⊢);rcases Nat.lt_or_ge k w.asks.length with hlt|hge
     ·obtain ⟨ha1,ha2,⟨j,hj,d1,hcall⟩,d2⟩:=hask k hlt
      have d3:=hfr (zei p (nth w.asks k).pnt)
      have hok3:=hok2 (nth w.asks k)
      rw[zad hlt,askE]at hq
      by_cases he:e=0
      ·subst he
       rw[if_pos rfl]at hq
       by_cases h1:zbs s (nth w.asks k).pnt=(nth w.asks k).lie
       ·rw[hok3,decide_eq_true h1,Bool.true_or,if_pos rfl]at hq
        have h2:decide ((nth s.switches j).call=(nth w.asks k).lie)=true:=decide_eq_true (hcall.trans h1)
        (have hX:=zA @hlen (zA @hbd (zA @hba (zA @hg2 @h2)));(repeat' first|refine zaa [0,1,2,3,4,5,6,7,8,9,11,13,15,23,29,37,48,49,50,51,54,55,56,57,60,66,74,75,76,77,106,109] fun K hK=>?_|(refine hK.go ?_;clear hK K)|with_reducible exact wT|refine wA ?_|(refine wB (fun h=>?_) (fun h=>?_)<;>first|exact wN h|subst (h:(_:Bool)=_)|skip)|(refine zaE 0 rfl ?_;try (refine no_implicit_lambda% (st ?_);try with_reducible exact wT))|(refine wQ ?_;clear hQ hR hE hM)|refine wC d1 ?_|refine wC d2 ?_|refine wC d3 ?_|fail);all_goals clear hX)
        all_goals first|(exfalso;contradiction)|exact ⟨(k+1,0),by dsimp only;omega,⟨by dsimp only;omega,hq⟩,rfl,by dsimp only;omega⟩
       ·have h2:decide ((nth s.switches j).call=(nth w.asks k).lie)=false:=decide_eq_false (fun e=>h1 (hcall.symm.trans e))
        rw[hok3,decide_eq_false h1,Bool.false_or]at hq
        by_cases h3:nth A (nth w.asks k).pnt.toNat=0
        ·rw[decide_eq_true h3,Bool.true_and]at hq
         cases hf:frT s (zei p (nth w.asks k).pnt) with
         |true =>
          rw[if_pos hf]at hq
          rw[hf]at d3
          (have hX:=zA @hlen (zA @hbd (zA @hba (zA @hg2 (zA @h2 @h3))));(repeat' first|refine zaa [0,1,2,3,4,5,6,7,8,9,11,13,15,23,29,37,48,49,50,51,54,55,56,57,60,66,74,75,76,77,106,109] fun K hK=>?_|(refine hK.go ?_;clear hK K)|with_reducible exact wT|refine wA ?_|(refine wB (fun h=>?_) (fun h=>?_)<;>first|exact wN h|subst (h:(_:Bool)=_)|skip)|(refine zaE 0 rfl ?_;try (refine no_implicit_lambda% (st ?_);try with_reducible exact wT))|(refine wQ ?_;clear hQ hR hE hM)|refine wC d1 ?_|refine wC d2 ?_|refine wC d3 ?_|fail);all_goals clear hX)
          all_goals first|(exfalso;contradiction)|exact ⟨(k+1,0),by dsimp only;omega,⟨by dsimp only;omega,hq⟩,rfl,by dsimp only;omega⟩
         |false =>
          rw[if_neg (by rw[hf];simp)]at hq
          rw[hf]at d3
          (have hX:=zA @hlen (zA @hbd (zA @hba (zA @hg2 (zA @h2 @h3))));(repeat' first|refine zaa [0,1,2,3,4,5,6,7,8,9,11,13,15,23,29,37,48,49,50,51,54,55,56,57,60,66,74,75,76,77,106,109] fun K hK=>?_|(refine hK.go ?_;clear hK K)|with_reducible exact wT|refine wA ?_|(refine wB (fun h=>?_) (fun h=>?_)<;>first|exact wN h|subst (h:(_:Bool)=_)|skip)|(refine zaE 0 rfl ?_;try (refine no_implicit_lambda% (st ?_);try with_reducible exact wT))|(refine wQ ?_;clear hQ hR hE hM)|refine wC d1 ?_|refine wC d2 ?_|refine wC d3 ?_|fail);all_goals clear hX)
          all_goals first|(exfalso;contradiction)|exact ⟨(k+1,183),by dsimp only;omega,⟨by dsimp only;omega,hq⟩,rfl,by dsimp only;omega⟩
        ·rw[decide_eq_false h3,Bool.false_and,if_neg (by simp)]at hq
         have h4:decide (nth A (nth w.asks k).pnt.toNat=0)=false:=decide_eq_false h3
         (have hX:=zA @hlen (zA @hbd (zA @hba (zA @hg2 (zA @h2 @h4))));(repeat' first|refine zaa [0,1,2,3,4,5,6,7,8,9,11,13,15,23,29,37,48,49,50,51,54,55,56,57,60,66,74,75,76,77,106,109] fun K hK=>?_|(refine hK.go ?_;clear hK K)|with_reducible exact wT|refine wA ?_|(refine wB (fun h=>?_) (fun h=>?_)<;>first|exact wN h|subst (h:(_:Bool)=_)|skip)|(refine zaE 0 rfl ?_;try (refine no_implicit_lambda% (st ?_);try with_reducible exact wT))|(refine wQ ?_;clear hQ hR hE hM)|refine wC d1 ?_|refine wC d2 ?_|refine wC d3 ?_|fail);all_goals clear hX)
         all_goals first|(exfalso;contradiction)|exact ⟨(k+1,183),by dsimp only;omega,⟨by dsimp only;omega,hq⟩,rfl,by dsimp only;omega⟩
      ·rw[if_neg he]at hq
       have hed:decide (e=0)=false:=decide_eq_false he
       (have hX:=zA @hlen (zA @hbd (zA @hba @hed));(repeat' first|refine zaa [0,1,2,3,4,5,6,7,8,9,11,13,15,23,29,37,48,49,50,51,54,55,56,57,60,66,74,75,76,77,106,109] fun K hK=>?_|(refine hK.go ?_;clear hK K)|with_reducible exact wT|refine wA ?_|(refine wB (fun h=>?_) (fun h=>?_)<;>first|exact wN h|subst (h:(_:Bool)=_)|skip)|(refine zaE 0 rfl ?_;try (refine no_implicit_lambda% (st ?_);try with_reducible exact wT))|(refine wQ ?_;clear hQ hR hE hM)|fail);all_goals clear hX)
       all_goals first|(exfalso;contradiction)|exact ⟨(k+1,e),by dsimp only;omega,⟨by dsimp only;omega,hq⟩,rfl,by dsimp only;omega⟩
     ·rw[List.drop_eq_nil_of_le hge,askE]at hq
      (repeat' first|refine zaa [0,1,2,3,4,5,6,7,8,9,11,13,15,23,29,37,48,49,50,51,54,55,56,57,60,66,74,75,76,77,106,109] fun K hK=>?_|(refine hK.go ?_;clear hK K)|with_reducible exact wT|refine wA ?_|(refine wB (fun h=>?_) (fun h=>?_)<;>first|exact wN h|subst (h:(_:Bool)=_)|skip)|(refine zaE 0 rfl ?_;try (refine no_implicit_lambda% (st ?_);try with_reducible exact wT))|(refine wQ ?_;clear hQ hR hE hM)|fail)
      all_goals first|exact hq|rw[hq]|skip
   ·rw[if_neg hph,if_neg hph]
    refine PC.fn hH cd171 fun w0 M Q hM hE hQ hR=>?_;dsimp only[cd171,qm,ql,qf,qi,qb,qc,qp,qv,qN,qT,qF,qt]at hQ ⊢
    (have hX:=zA @hfold (zA @hlen0 (zA @hlen (zA @hov (zA @hbd0 (zA @hbd @hba)))));(repeat' first|refine zaa [0,1,2,3,4,5,6,7,8,9,11,13,15,23,29,37,48,49,50,51,54,55,56,57,60,66,74,75,76,77,106,109] fun K hK=>?_|(refine hK.go ?_;clear hK K)|with_reducible exact wT|refine wA ?_|(refine wB (fun h=>?_) (fun h=>?_)<;>first|exact wN h|subst (h:(_:Bool)=_)|skip)|(refine zaE 0 rfl ?_;try (refine no_implicit_lambda% (st ?_);try with_reducible exact wT))|(refine wQ ?_;clear hQ hR hE hM)|refine wC c0 ?_|refine wS c1 ?_|fail);all_goals clear hX)
    all_goals first|rfl|(exfalso;contradiction)|skip
 ·rw[show lkW p s n=WayR.z by unfold lkW;rw[if_neg hst],show lkC p s n=zac p s by unfold lkC;rw[if_neg hst]]
  rw[←hRe]at hst ⊢
  revert c0 hRl hst
  generalize ofR p s=R
  obtain ⟨G,Z,hg⟩:=GC.ex
  rw[←hg.eq]
  intro c0 hRl hst
  have hfold:=hg.fold
  have hlen0:=hg.len (.s0 4) hg.zl hg.zl
  have hlen:=hg.len (.sl 4 (R.ways.map Way.c)) hRl.1 hRl.2
  have hov:=hg.ov (.s0 4) (.sl 4 (R.ways.map Way.c)) hg.zl hg.zl hRl.1 hRl.2
  have hbd0:=hg.bd0 Z Z
  have hbd:=hg.bd R.hold R.ask (R.ways.map Way.c)
  have hba:=hg.ba R.hold R.ask (R.ways.map Way.c)
  refine PC.fn hH cd171 fun w0 M Q hM hE hQ hR=>?_;dsimp only[cd171,qm,ql,qf,qi,qb,qc,qp,qv,qN,qT,qF,qt]at hQ ⊢
  (have hX:=zA @hfold (zA @hlen0 (zA @hlen (zA @hov (zA @hbd0 (zA @hbd @hba)))));(repeat' first|refine zaa [0,1,2,3,4,5,6,7,8,9,11,13,15,23,29,37,48,49,50,51,54,55,56,57,60,66,74,75,76,77,106,109] fun K hK=>?_|(refine hK.go ?_;clear hK K)|with_reducible exact wT|refine wA ?_|(refine wB (fun h=>?_) (fun h=>?_)<;>first|exact wN h|subst (h:(_:Bool)=_)|skip)|(refine zaE 0 rfl ?_;try (refine no_implicit_lambda% (st ?_);try with_reducible exact wT))|(refine wQ ?_;clear hQ hR hE hM)|refine wC c0 ?_|refine wS c1 ?_|fail);all_goals clear hX)
  all_goals first|rfl|(exfalso;contradiction)|skip
end Go.Lev
namespace Go.Lev
open Go.Eng
set_option maxRecDepth 10000
set_option maxHeartbeats 4000000
variable {P:Program} {inv:Nat→Option Nat} {w0:World} {M:Nat→Prop}
theorem zmQ (q:List AskR) (a:AskR) (l:List Switch):zbc (q++[a]) l=zdG Switch.id a.pnt (fun t=>⟨t.id,t.lie,a.lie⟩) (zbc q l):=by unfold zbc;rw[List.foldl_append];rfl
theorem fget0 {α:Type} {c:α→List AV} {sz:Nat} [Cells c sz] [Inhabited α] {l:List α} {k:Nat} (hk:k<l.length) (hs:0<sz):(l.map c).flatten[k*sz]?=(c (nth l k))[0]?:=by simpa using zhg (c:=c) (i:=0) hk hs
theorem k1At_all (n:Int) (l:List Lock):l.mapIdx (zpe n)=zdG Lock.id n (fun l=>⟨l.id,1,l.gone,l.left⟩) l:=by
 refine List.ext_getElem (by simp[zdG]) fun i h1 h2=>?_
 simp only[List.getElem_mapIdx,zdG,List.getElem_map]
 rfl
theorem zoB (hH:HasAll P inv) (hI:HasIds P inv) (p:Pln) (hp:Sm p) (s:State) (hs:SmS s) (n:Int) (he:lkC p s n=0):PO P inv 156 [.agg p.c,.agg s.c,.n n] (.tup [zlZ 6 (ziP s n (lkW p s n).asks),.n 0]) (zl0 6 (ziP s n (lkW p s n).asks)):=by
 have c0:=zjh hH hI p hp s hs n
 rw[he]at c0
 have c1:=zds hH s hs
 have hst:zac p s=0:=by
  unfold lkC at he
  split at he
  ·assumption
  ·rename_i h;exact absurd he h
 have hok:=zap hst
 have hpa:=(zae hst).2.1
 have hpl:=zan hpa
 have hwl:(lkW p s n).asks.length≤1000∧∀ a∈(lkW p s n).asks,zh9 p a.pnt=true:=by
  unfold lkW
  rw[if_pos hst]
  rcases zaP Lock.id n s.locks with ⟨h4,_⟩|⟨i,hi,h4,h5⟩
  ·rw[show zgZ s n=-1 from h4,if_pos (by decide)]
   exact ⟨by simp[WayR.z],fun a ha=>by simp[WayR.z]at ha⟩
  ·rw[show zgZ s n=(i:Int) from h4,if_neg (by omega),Int.toNat_natCast]
   split
   ·refine ⟨(zbI hok (zab (by omega))).1,fun a ha=>?_⟩
    obtain ⟨⟨x,hx,ex⟩,_⟩:=zbi hok (zab (show i<p.routes.length by omega)) ha
    exact List.any_eq_true.2 ⟨x,hx,by simpa using ex⟩
   ·exact ⟨by simp[WayR.z],fun a ha=>by simp[WayR.z]at ha⟩
 generalize lkW p s n=w at *
 have hno:(s.switches.map Switch.id).Nodup:=by rw[zcJ hpa];exact zcc hok
 obtain ⟨h1,h2,h3⟩:=hs
 have hix:∀ (q:List AskR) (k:Nat),k<w.asks.length→∃ j,j<s.switches.length∧zaW (fun x=>decide (Switch.id x=(nth w.asks k).pnt)) 0 (zbc q s.switches)=(j:Int)∧(nth (zbc q s.switches) j).id=(nth w.asks k).pnt:=fun q k hk=>by
  obtain ⟨y,hy,ey⟩:=swt_of hpa (hwl.2 _ (zab hk))
  have hm:(nth w.asks k).pnt∈(zbc q s.switches).map Switch.id:=by rw[zgy,←ey];exact List.mem_map_of_mem hy
  obtain ⟨z,hz,ez⟩:=List.mem_map.1 hm
  rcases zaP Switch.id (nth w.asks k).pnt (zbc q s.switches) with ⟨_,r⟩|⟨j,hj,q1,q2⟩
  ·exact absurd ez (r z hz)
  ·exact ⟨j,by rw[zdC]at hj;exact hj,q1,q2⟩
 clear hst hok hpa hpl he
 unfold stV stR at c1
 refine PO.fn hH cd156 fun w0 M Q hM hE hQ hR=>?_;dsimp only[cd156,qm,ql,qf,qi,qb,qc,qp,qv,qN,qT,qF,qt]at hQ ⊢
 skip
 (repeat' first|refine zaa [0,1,2,3,4,5,6,7,8,9,11,12,21,27,28,29,30,43,44,45,54] fun K hK=>?_|(refine hK.go ?_;clear hK K)|with_reducible exact wT|refine wA ?_|(refine wB (fun h=>?_) (fun h=>?_)<;>first|exact wN h|subst (h:(_:Bool)=_)|skip)|(refine wQ ?_;clear hQ hR)|refine wC c0 ?_|refine wO c1 ?_|fail)
 have hcl:=fun q=>zdC q s.switches
 refine zai (ι:=Nat) [2,4,6,7,27,28,29] (fun z=>[(29,.n z)]) (fun z=>[(7,.cells ((zbc (w.asks.take z) s.switches).map Switch.c).flatten (decide (0<s.switches.length)))]) (fun z=>z) (w.asks.length) (fun _=>True) (0) ?_;rintro k ⟨hk,-⟩;(try dsimp only at hk ⊢);rcases Nat.lt_or_ge k w.asks.length with hlt|hge
 ·obtain ⟨j,hj,q1,q2⟩:=hix (w.asks.take k) k hlt
  have c2:=zib hH (zbc (w.asks.take k) s.switches) (fun x _=>znG hH (nth w.asks k).pnt x) (by rw[hcl];omega)
  rw[q1]at c2
  have hno2:((zbc (w.asks.take k) s.switches).map Switch.id).Nodup:=by rw[zgy];exact hno
  have e1:=zg6 Switch.id (nth w.asks k).pnt (fun t=>(⟨t.id,t.lie,(nth w.asks k).lie⟩:Switch)) hno2 (by rw[hcl];exact hj) q2
  rw[←zmQ,zjH hlt]at e1
  have e2:=zcO (c:=Switch.c) (l:=zbc (w.asks.take k) s.switches) (k:=j) (i:=2) (by rw[hcl];exact hj) (by omega) (.i .i64 (nth w.asks k).lie) (⟨(nth (zbc (w.asks.take k) s.switches) j).id,(nth (zbc (w.asks.take k) s.switches) j).lie,(nth w.asks k).lie⟩:Switch) rfl
  rw[e1]at e2
  have e3:=zdS (c:=Switch.c) (zbc (w.asks.take k) s.switches)
  rw[hcl]at e3
  have e4:=hcl (w.asks.take k)
  (have hX:=zA @e2 (zA @e3 @e4);(repeat' first|refine zaa [0,1,2,3,4,5,6,7,8,9,11,12,21,27,28,29,30,43,44,45,54] fun K hK=>?_|(refine hK.go ?_;clear hK K)|with_reducible exact wT|refine wA ?_|(refine wB (fun h=>?_) (fun h=>?_)<;>first|exact wN h|subst (h:(_:Bool)=_)|skip)|(refine wQ ?_;clear hQ hR)|(refine AC.callK 30 (by omega) (by first|omega|exact wF|((refine no_implicit_lambda% (st ?_);try with_reducible exact wT);omega)) (zat (F:=cd172) (hH.has _ _ rfl) (Nat.le_of_ble_eq_true rfl) fun Q hQ hR=>?_);dsimp only[cd172,qm,ql,qf,qi,qb,qc,qp,qv,qN,qT,qF,qt]at hQ ⊢;try (refine no_implicit_lambda% (st ?_);try with_reducible exact wT))|refine wS c2 ?_|fail);all_goals clear hX)
  all_goals first|exact ⟨k+1,by omega,by omega,by omega,rfl⟩|trace_state
  all_goals sorry
 ·rw[List.take_of_length_le hge]
  (repeat' first|refine zaa [0,1,2,3,4,5,6,7,8,9,11,12,21,27,28,29,30,43,44,45,54] fun K hK=>?_|(refine hK.go ?_;clear hK K)|with_reducible exact wT|refine wA ?_|(refine wB (fun h=>?_) (fun h=>?_)<;>first|exact wN h|subst (h:(_:Bool)=_)|skip)|(refine wQ ?_;clear hQ hR)|fail)
  refine zai (ι:=Nat) [2,4,6,7,43,44] (fun z=>[(44,.n z)]) (fun z=>[(8,.cells ((ze8 (zpe n) z s.locks).map Lock.c).flatten (decide (0<s.locks.length)))]) (fun z=>z) (s.locks.length) (fun _=>True) (0) ?_;rintro k2 ⟨hk,-⟩;(try dsimp only at hk ⊢);rcases Nat.lt_or_ge k2 s.locks.length with hlt|hge
  ·have e1:=zex (zpe n) (l:=s.locks) (k:=k2) (by assumption)
   have hg:=fget0 (c:=Lock.c) (l:=ze8 (zpe n) k2 s.locks) (k:=k2) (by rw[zbX];assumption) (by omega)
   rw[zcw _ (by assumption)]at hg
   by_cases hid:(nth s.locks k2).id=n
   ·have e2:=zcO (c:=Lock.c) (l:=ze8 (zpe n) k2 s.locks) (k:=k2) (i:=1) (by rw[zbX];assumption) (by omega) (.i .u8 1) (zpe n k2 (nth s.locks k2)) (by rw[zcw _ (by assumption)];unfold zpe;rw[if_pos hid];rfl)
    rw[e1]at e2
    (have hX:=zA @hg @e2;(repeat' first|refine zaa [0,1,2,3,4,5,6,7,8,9,11,12,21,27,28,29,30,43,44,45,54] fun K hK=>?_|(refine hK.go ?_;clear hK K)|with_reducible exact wT|refine wA ?_|(refine wB (fun h=>?_) (fun h=>?_)<;>first|exact wN h|subst (h:(_:Bool)=_)|skip)|(refine wQ ?_;clear hQ hR)|fail);all_goals clear hX)
    all_goals first|(exfalso;contradiction)|exact ⟨k2+1,by omega,by omega,by omega,rfl⟩
   ·rw[show zpe n k2 (nth s.locks k2)=nth (ze8 (zpe n) k2 s.locks) k2 by rw[zcw _ (by assumption)];unfold zpe;rw[if_neg hid]]at e1
    have e3:ze8 (zpe n) k2 s.locks=ze8 (zpe n) (k2+1) s.locks:=by
     rw[←e1,zaT (by rw[zbX];assumption),List.set_getElem_self]
    (have hX:=@hg;(repeat' first|refine zaa [0,1,2,3,4,5,6,7,8,9,11,12,21,27,28,29,30,43,44,45,54] fun K hK=>?_|(refine hK.go ?_;clear hK K)|with_reducible exact wT|refine wA ?_|(refine wB (fun h=>?_) (fun h=>?_)<;>first|exact wN h|subst (h:(_:Bool)=_)|skip)|(refine wQ ?_;clear hQ hR)|fail);all_goals clear hX)
    all_goals first|(exfalso;contradiction)|exact ⟨k2+1,by omega,by omega,by omega,by rw[←e3]⟩
  ·rw[zey _ (by assumption),k1At_all]
   (repeat' first|refine zaa [0,1,2,3,4,5,6,7,8,9,11,12,21,27,28,29,30,43,44,45,54] fun K hK=>?_|(refine hK.go ?_;clear hK K)|with_reducible exact wT|refine wA ?_|(refine wB (fun h=>?_) (fun h=>?_)<;>first|exact wN h|subst (h:(_:Bool)=_)|skip)|(refine wQ ?_;clear hQ hR)|fail)
   all_goals (left;unfold zlZ zl0 ziP;dsimp only;rw[zdC,zbE];constructor)
   all_goals (refine no_implicit_lambda% (st ?_);try with_reducible exact wT)
end Go.Lev
namespace Go.Lev
open Go.Eng
set_option maxRecDepth 10000
set_option maxHeartbeats 4000000
variable {P:Program} {inv:Nat→Option Nat} {w0:World} {M:Nat→Prop}
theorem zjg (hH:HasAll P inv) (hI:HasIds P inv) (p:Pln) (hp:Sm p) (s:State) (hs:SmS s) (n:Int):PC P inv 156 [.agg p.c,.agg s.c,.n n] (·=.tup [.agg (lkS p s n).c,.n (lkC p s n)]):=by
 unfold lkS
 by_cases he:lkC p s n=0
 ·have:=(zoB hH hI p hp s hs n he).pc
  rw[zez]at this
  rw[if_pos he,he]
  exact this
 ·have c0:=zjh hH hI p hp s hs n
  rw[if_neg he]
  generalize lkC p s n=e at c0 he ⊢
  generalize lkW p s n=w at c0
  refine PC.fn hH cd156 fun w0 M Q hM hE hQ hR=>?_;dsimp only[cd156,qm,ql,qf,qi,qb,qc,qp,qv,qN,qT,qF,qt]at hQ ⊢
  (repeat' first|refine zaa [0,1,2,3,4,6,7,8,9,11,12,21,27,28,29,30,43,44,45,54] fun K hK=>?_|(refine hK.go ?_;clear hK K)|with_reducible exact wT|refine wA ?_|(refine wB (fun h=>?_) (fun h=>?_)<;>first|exact wN h|subst (h:(_:Bool)=_)|skip)|(refine wQ ?_;clear hQ hR hE hM)|refine wC c0 ?_|fail)
  all_goals first|rfl|(exfalso;contradiction)|skip
end Go.Lev
namespace Go.Lev
open Go.Eng
theorem zhc {R:Type} {good:R→Prop} {n:Nat} {q:Nat→Bool} {t:Bool} {body:Nat→Bool→(Bool→R)→R} {fin:Bool→R} (hb:∀ k u za0,k<n→good (za0 (u&&q k))→good (body k u za0)) (h:good (fin (t&&(List.range n).all q))):good (zaB body fin n 0 t):=by
 refine zaU good (fun k u=>u=(t&&(List.range k).all q)) (by simp) ?_ ?_
 ·rintro k u za0 hk rfl hn
  refine hb k _ za0 hk (hn _ ?_)
  rw[List.range_succ,List.all_append]
  simp[Bool.and_assoc]
 ·rintro u rfl
  exact h
theorem pjF_eq {p:Pln} {s:State} (h:zac p s=0) {i:Nat} (hi:i<p.routes.length):pjF s (zbj p i) (za1 p i) (decide ((nth s.locks i).phase=1))=zaS p s (nth p.routes i):=by
 have ho:=zap h
 have hpa:=(zae h).2.1
 have hpl:=zan hpa
 have hr:nth p.routes i∈p.routes:=zab hi
 generalize hX:zaS p s (nth p.routes i)=X
 have hiff:X=true↔Prvd p s i:=by rw[←hX];exact zdQ h hi
 have e1:∀ (u:Bool),(u&&(List.range (zbj p i).length).all fun a=>(List.range s.tracks.length).all fun k=>(!decide ((nth s.tracks k).id=nth (zbj p i) a)||decide ((nth s.tracks k).is=0)))=(u&&decide (∀ x∈zbj p i,zdx s x=0)):=fun u=>by
  congr 1
  rw[Bool.eq_iff_iff,decide_eq_true_eq,List.all_eq_true]
  constructor
  ·intro h1 x hx
   obtain ⟨a,ha,rfl⟩:=zbb hx
   have h2:=List.all_eq_true.1 (h1 a (List.mem_range.2 ha))
   obtain ⟨q,hq,eq⟩:=(zcx ho hr).1 (nth (zbj p i) a) (by
    have hwp:=zbo ((zaD (zae h).1).2.1 _ hr)
    rw[←hwp.1,←hwp.2.1];exact hx)
   obtain ⟨t,ht,et⟩:=trk_of hpa ⟨q,hq,eq⟩
   obtain ⟨k,hk,rfl⟩:=zbb ht
   have h3:=h2 k (List.mem_range.2 hk)
   rw[et]at h3
   rw[←et,zkg ho hpa hk]
   simpa using h3
  ·intro h1 a ha
   rw[List.all_eq_true]
   intro k hk
   rw[List.mem_range]at ha hk
   by_cases e:(nth s.tracks k).id=nth (zbj p i) a
   ·have:=h1 _ (zab ha)
    rw[←e,zkg ho hpa hk]at this
    simp[this]
   ·simp[e]
 have e2:∀ (u:Bool),(u&&(List.range (za1 p i).length).all fun a=>(List.range s.switches.length).all fun k=>(!decide ((nth s.switches k).id=(nth (za1 p i) a).pnt)||decide ((nth s.switches k).lie=(nth (za1 p i) a).lie)))=(u&&decide (∀ a∈za1 p i,∀ k,k<s.switches.length→(nth s.switches k).id=a.pnt→(nth s.switches k).lie=a.lie)):=fun u=>by
  congr 1
  rw[Bool.eq_iff_iff,decide_eq_true_eq,List.all_eq_true]
  constructor
  ·intro h1 x hx k hk ek
   obtain ⟨a,ha,rfl⟩:=zbb hx
   have h3:=List.all_eq_true.1 (h1 a (List.mem_range.2 ha)) k (List.mem_range.2 hk)
   rw[ek]at h3
   simpa using h3
  ·intro h1 a ha
   rw[List.all_eq_true]
   intro k hk
   rw[List.mem_range]at ha hk
   by_cases e:(nth s.switches k).id=(nth (za1 p i) a).pnt
   ·simp[h1 _ (zab ha) k hk e]
   ·simp[e]
 unfold pjF
 refine zhc (good:=(·=X)) (q:=fun a=>(List.range s.tracks.length).all fun k=>(!decide ((nth s.tracks k).id=nth (zbj p i) a)||decide ((nth s.tracks k).is=0))) (fun k u za0 _ hn=>zhc (good:=(·=X)) (q:=fun m=>(!decide ((nth s.tracks m).id=nth (zbj p i) k)||decide ((nth s.tracks m).is=0))) (fun _ _ _ _ h=>h) hn) ?_
 refine zhc (good:=(·=X)) (q:=fun a=>(List.range s.switches.length).all fun k=>(!decide ((nth s.switches k).id=(nth (za1 p i) a).pnt)||decide ((nth s.switches k).lie=(nth (za1 p i) a).lie))) (fun k u za0 _ hn=>zhc (good:=(·=X)) (q:=fun m=>(!decide ((nth s.switches m).id=(nth (za1 p i) k).pnt)||decide ((nth s.switches m).lie=(nth (za1 p i) k).lie))) (fun _ _ _ _ h=>h) hn) ?_
 rw[e2,e1,Bool.eq_iff_iff,hiff]
 simp only[Bool.and_eq_true,decide_eq_true_eq]
 exact ⟨fun h=>⟨h.1.1,h.1.2,h.2⟩,fun h=>⟨⟨h.1,h.2⟩,h.3⟩⟩
end Go.Lev
