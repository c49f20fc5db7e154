/-
  A part of the engine that walks the functions' codes, and of the functions' contracts. Conditions: those that each theorem names.
-/
import Derived.Test.YtnjpcpdmnadadaaGreatL11
import Derived.IntWalk
import Derived.Laws.IdiomCopy
set_option linter.unusedSimpArgs false
set_option linter.unusedVariables false
set_option linter.unusedSectionVars false
namespace Go.Lev
open Go.Eng
theorem zaV (l:List TrainD) (n:Int):(zcN l n=-1∧∀ x∈l,x.id≠n)∨∃ k:Nat,k<l.length∧zcN l n=(k:Int)∧(nth l k).id=n:=by
 unfold zcN
 exact zcY TrainD.id n l
theorem zgW {l:List TrainD} {n:Int}:zcN l n<0↔∀ x∈l,x.id≠n:=by
 rcases zaV l n with ⟨e,h⟩|⟨k,hk,e,h⟩
 ·exact ⟨fun _=>h,fun _=>by omega⟩
 ·exact ⟨fun h2=>by omega,fun h2=>absurd h (h2 _ (zae hk))⟩
theorem zjy {l:List TrainD} (h:(l.map (·.id)).Pairwise (· < ·)) {i k:Nat} (hi:i<l.length) (hk:k<l.length) (e:(nth l i).id=(nth l k).id):i=k:=by
 have h2:=(zgO TrainD.id l).1 h
 have mono:∀ m i,i+m<l.length→0<m→(nth l i).id<(nth l (i+m)).id:=by
  intro m
  induction m with
  |zero=>intro i _ h0;omega
  |succ m ih =>
   intro i hm _
   have s1:=h2 (i+m+1) (by omega) (by omega)
   rw[Nat.add_sub_cancel]at s1
   rcases Nat.eq_zero_or_pos m with h0|h0
   ·subst h0;simpa using s1
   ·have:=ih i (by omega) h0;rw[show i+(m+1)=i+m+1 by omega];omega
 rcases Nat.lt_trichotomy i k with h3|h3|h3
 ·have:=mono (k-i) i (by omega) (by omega);rw[show i+(k-i)=k by omega]at this;omega
 ·exact h3
 ·have:=mono (i-k) k (by omega) (by omega);rw[show k+(i-k)=i by omega]at this;omega
theorem zjP {l:List TrainD} (h:(l.map (·.id)).Pairwise (· < ·)) {t:TrainD} (ht:t∈l):∃ k:Nat,k<l.length∧zcN l t.id=(k:Int)∧nth l k=t:=by
 obtain ⟨i,hi,rfl⟩:=List.getElem_of_mem ht
 rw[←zay hi]
 rcases zaV l (nth l i).id with ⟨_,h2⟩|⟨k,hk,e,h2⟩
 ·exact absurd rfl (h2 _ (zae hi))
 ·exact ⟨k,hk,e,by rw[zjy h hk hi h2]⟩
theorem zoZ {l:List TrainD} (h:(l.map (·.id)).Pairwise (· < ·)) {k:Nat} (hk:k<l.length) {t:TrainD} (hid:t.id=(nth l k).id):((l.set k t).map (·.id)).Pairwise (· < ·):=by
 have h9:=List.set_getElem_self (as:=l.map (·.id)) (i:=k) (by simpa using hk)
 rw[List.getElem_map,←zay hk]at h9
 rw[List.map_set,hid,h9]
 exact h
theorem zjO {l:List TrainD} {k:Nat} {t:TrainD} (hk:k<l.length) (h:(l.map (·.id)).Pairwise (· < ·)) (hid:t.id=(nth l k).id):zcN (l.set k t) t.id=(k:Int):=by
 obtain ⟨m,hm,e,e2⟩:=zjP (zoZ h hk hid) (List.mem_set hk t)
 rw[e]
 rw[List.length_set]at hm
 have:m=k:=by
  refine zjy (zoZ h hk hid) (by simpa using hm) (by simpa using hk) ?_
  rw[e2,zbg _ _ _ _ hk,if_pos rfl]
 rw[this]
end Go.Lev
namespace Go.Lev
open Go.Eng
set_option maxRecDepth 10000
set_option maxHeartbeats 8000000
variable {P:Program} {inv:Nat→Option Nat} {w0:World} {M:Nat→Prop}
theorem ziG {α:Type} {c:α→List AV} {sz:Nat} [Cells c sz] [Inhabited α] {l:List α} {k:Nat} (hk:k<l.length):(l.map c).flatten=((l.take k).map c).flatten++(c (nth l k)++((l.drop (k+1)).map c).flatten):=by
 have e:l=l.take k++nth l k::l.drop (k+1):=by rw[zay hk,←List.drop_eq_getElem_cons hk,List.take_append_drop]
 conv=>lhs;rw[e]
 simp
theorem flat_ovl {α:Type} {c:α→List AV} {sz:Nat} [hc:Cells c sz] [Inhabited α] {l:List α} {k:Nat} (hk:k<l.length) (a:α):ovl (l.map c).flatten (k*sz) (c a)=((l.set k a).map c).flatten:=by
 have hlen:∀ r:List α,((r.map c).flatten).length=r.length*sz:=fun r=>by
  induction r with
  |nil=>simp
  |cons x r ih=>rw[List.map_cons,List.flatten_cons,List.length_append,ih,hc.len x,List.length_cons,Nat.add_mul];omega
 have h1:((l.take k).map c).flatten.length=k*sz:=by rw[hlen,List.length_take,Nat.min_eq_left (by omega)]
 have h2:=hlen l
 have h3:(k+1)*sz≤l.length*sz:=Nat.mul_le_mul_right _ hk
 have h4:(k+1)*sz=k*sz+sz:=by rw[Nat.add_mul,Nat.one_mul]
 rw[zhA _ _ _ (by rw[hc.len a,h2];omega),ziG (c:=c) (sz:=sz) hk,ziG (c:=c) (sz:=sz) (l:=l.set k a) (k:=k) (by simpa using hk)]
 rw[List.take_left' h1,List.take_set_of_le (Nat.le_refl k),zbg _ _ _ _ hk,if_pos rfl,List.drop_set_of_lt (by omega),List.append_assoc]
 congr 2
 rw[←List.append_assoc]
 exact List.drop_left' (by rw[List.length_append,h1,hc.len,hc.len])
theorem zk7 {l:List TrainD} {k:Nat} (h9:k<l.length) (t:TrainD) :
  (((((((((l.map TrainD.c).flatten.set (k*8) (.n t.id)).set (k*8+1) (.sl 1 (t.secs.map zck))).set (k*8+1+1) (.n t.fr)).set (k*8+1+1+1) (.n t.ed)).set (k*8+1+1+1+1) (.n t.rt)).set (k*8+1+1+1+1+1) (.n t.pl)).set (k*8+1+1+1+1+1+1) (.n t.may)).set (k*8+1+1+1+1+1+1+1) (.n t.nx))=((l.set k t).map TrainD.c).flatten :=
 flat_ovl (c:=TrainD.c) (sz:=8) h9 t
theorem zfL {l:List TrainD} {n:Nat} (h:l.length=n):zbv 8 n (l.map TrainD.c).flatten=l.map TrainD.c:=by
 subst h
 exact za6 (c:=TrainD.c) l
theorem nf1:Value.nilFunc.oneCell'=true:=rfl
attribute [go_sem] nf1
def zcm (e:Int) (L:List TrainD) (A:List (Int×Int)):AV:=.tup [.agg (wld L),.sl 4 (A.map zoE),.n e]
theorem zdB (hH:HasAll P inv) (l:List TrainD) (hl:l.length≤1000) (n:Int):PC P inv 271 [.sl 8 (l.map TrainD.c),.fn 272 [.ip 1 [[.n n]] 0 0]] (·=.n (zcN l n)) :=
 zlU hH (p:=fun t=>decide (t.id=n)) l (fun x _=>is272_pc hH n x) (by omega)
theorem zlF (hH:HasAll P inv) (hI:HasIds P inv) (p:Pln) (hp:Sm p) (s:State) (hs:SmS s) (l:List TrainD) (hl:l.length≤1000) (hls:∀ t∈l,t.secs.length≤1000) (hc:ckC p s l=0) (tr se ed:Int) :
  PC P inv 210 [.agg p.c,.agg s.c,.agg (wld l),.agg [.i .u8 4,.n tr,.n se,.n ed]] (·=if zcN l tr<0 then zcm 6 [] [] else if 1<(nth l (zcN l tr).toNat).secs.length then zcm 2 [] [] else zcm 0 (l.set (zcN l tr).toNat (zbk (nth l (zcN l tr).toNat))) []):=by
 have c0:=zbD hH hI p hp s hs l hl hls
 have c1:=zdn hH l (by omega) hls
 have c2:=zdB hH l hl tr
 rw[hc]at c0
 unfold wld at *
 rcases zaV l tr with ⟨e,_⟩|⟨k,hk7,e,hid⟩<;>rw[e]at c2 ⊢
 ·rw[if_pos (by omega)]
  unfold zcm wld
  refine PC.fn hH cd210 fun w0 M Q hM hE hQ hR=>?_;dsimp only[cd210,qm,ql,qf,qi,qb,qc,qp,qv,qN,qT,qF,qt]at hQ ⊢
  skip
  (repeat' first|refine zaa [0,1,2,3,4,5,6,7,8,9,10,11,12,14,18,28,44,48] fun K hK=>?_|(refine hK.go ?_;clear hK K)|with_reducible exact wT|refine wA ?_|(refine wB (fun h=>?_) (fun h=>?_)<;>first|exact wN h|subst (h:(_:Bool)=_)|skip)|(refine wQ ?_;clear hQ hR)|refine wC c0 ?_|refine wO c1 ?_|(refine AC.callK 100 (by omega) (by first|omega|exact wF|((refine no_implicit_lambda% (st ?_);try with_reducible exact wT);omega)) (zac (F:=cd226) (hH.has _ _ rfl) (Nat.le_of_ble_eq_true rfl) fun Q hQ hR=>?_);dsimp only[cd226,qm,ql,qf,qi,qb,qc,qp,qv,qN,qT,qF,qt]at hQ ⊢;try (refine no_implicit_lambda% (st ?_);try with_reducible exact wT))|(refine AC.callK 200 (by omega) (by first|omega|exact wF|((refine no_implicit_lambda% (st ?_);try with_reducible exact wT);omega)) (zac (F:=cd233) (hH.has _ _ rfl) (Nat.le_of_ble_eq_true rfl) fun Q hQ hR=>?_);dsimp only[cd233,qm,ql,qf,qi,qb,qc,qp,qv,qN,qT,qF,qt]at hQ ⊢;try (refine no_implicit_lambda% (st ?_);try with_reducible exact wT))|(refine AC.callK 300 (by omega) (by first|omega|exact wF|((refine no_implicit_lambda% (st ?_);try with_reducible exact wT);omega)) (zac (F:=cd252) (hH.has _ _ rfl) (Nat.le_of_ble_eq_true rfl) fun Q hQ hR=>?_);dsimp only[cd252,qm,ql,qf,qi,qb,qc,qp,qv,qN,qT,qF,qt]at hQ ⊢;try (refine no_implicit_lambda% (st ?_);try with_reducible exact wT))|refine wS c2 ?_|fail)
  all_goals first|rfl|(exfalso;contradiction)|trace_state
 ·rw[if_neg (by omega),Int.toNat_natCast]
  have y0:=tg0 hk7
  have y1:=tg1 hk7
  have y2:=tg2 hk7
  have y3:=tg3 hk7
  by_cases h1:1<(nth l k).secs.length
  ·rw[if_pos h1]
   unfold zcm wld
   refine PC.fn hH cd210 fun w0 M Q hM hE hQ hR=>?_;dsimp only[cd210,qm,ql,qf,qi,qb,qc,qp,qv,qN,qT,qF,qt]at hQ ⊢
   skip
   (have hX:=zA @y0 (zA @y1 (zA @y2 @y3));(repeat' first|refine zaa [0,1,2,3,4,5,6,7,8,9,10,11,12,14,18,28,44,48] fun K hK=>?_|(refine hK.go ?_;clear hK K)|with_reducible exact wT|refine wA ?_|(refine wB (fun h=>?_) (fun h=>?_)<;>first|exact wN h|subst (h:(_:Bool)=_)|skip)|(refine wQ ?_;clear hQ hR)|refine wC c0 ?_|refine wO c1 ?_|(refine AC.callK 100 (by omega) (by first|omega|exact wF|((refine no_implicit_lambda% (st ?_);try with_reducible exact wT);omega)) (zac (F:=cd226) (hH.has _ _ rfl) (Nat.le_of_ble_eq_true rfl) fun Q hQ hR=>?_);dsimp only[cd226,qm,ql,qf,qi,qb,qc,qp,qv,qN,qT,qF,qt]at hQ ⊢;try (refine no_implicit_lambda% (st ?_);try with_reducible exact wT))|(refine AC.callK 200 (by omega) (by first|omega|exact wF|((refine no_implicit_lambda% (st ?_);try with_reducible exact wT);omega)) (zac (F:=cd233) (hH.has _ _ rfl) (Nat.le_of_ble_eq_true rfl) fun Q hQ hR=>?_);dsimp only[cd233,qm,ql,qf,qi,qb,qc,qp,qv,qN,qT,qF,qt]at hQ ⊢;try (refine no_implicit_lambda% (st ?_);try with_reducible exact wT))|(refine AC.callK 300 (by omega) (by first|omega|exact wF|((refine no_implicit_lambda% (st ?_);try with_reducible exact wT);omega)) (zac (F:=cd252) (hH.has _ _ rfl) (Nat.le_of_ble_eq_true rfl) fun Q hQ hR=>?_);dsimp only[cd252,qm,ql,qf,qi,qb,qc,qp,qv,qN,qT,qF,qt]at hQ ⊢;try (refine no_implicit_lambda% (st ?_);try with_reducible exact wT))|refine wS c2 ?_|fail);all_goals clear hX)
   all_goals first|rfl|(exfalso;contradiction)|trace_state
  ·rw[if_neg h1]
   have yp:=zk7 hk7 (zbk (nth l k))
   unfold zcm wld
   unfold zbk at yp ⊢
   dsimp only at yp
   refine PC.fn hH cd210 fun w0 M Q hM hE hQ hR=>?_;dsimp only[cd210,qm,ql,qf,qi,qb,qc,qp,qv,qN,qT,qF,qt]at hQ ⊢
   skip
   (have hX:=zA @y0 (zA @y1 (zA @y2 (zA @y3 @yp)));(repeat' first|refine zaa [0,1,2,3,4,5,6,7,8,9,10,11,12,14,18,28,44,48] fun K hK=>?_|(refine hK.go ?_;clear hK K)|with_reducible exact wT|refine wA ?_|(refine wB (fun h=>?_) (fun h=>?_)<;>first|exact wN h|subst (h:(_:Bool)=_)|skip)|(refine wQ ?_;clear hQ hR)|refine wC c0 ?_|refine wO c1 ?_|(refine AC.callK 100 (by omega) (by first|omega|exact wF|((refine no_implicit_lambda% (st ?_);try with_reducible exact wT);omega)) (zac (F:=cd226) (hH.has _ _ rfl) (Nat.le_of_ble_eq_true rfl) fun Q hQ hR=>?_);dsimp only[cd226,qm,ql,qf,qi,qb,qc,qp,qv,qN,qT,qF,qt]at hQ ⊢;try (refine no_implicit_lambda% (st ?_);try with_reducible exact wT))|(refine AC.callK 200 (by omega) (by first|omega|exact wF|((refine no_implicit_lambda% (st ?_);try with_reducible exact wT);omega)) (zac (F:=cd233) (hH.has _ _ rfl) (Nat.le_of_ble_eq_true rfl) fun Q hQ hR=>?_);dsimp only[cd233,qm,ql,qf,qi,qb,qc,qp,qv,qN,qT,qF,qt]at hQ ⊢;try (refine no_implicit_lambda% (st ?_);try with_reducible exact wT))|(refine AC.callK 300 (by omega) (by first|omega|exact wF|((refine no_implicit_lambda% (st ?_);try with_reducible exact wT);omega)) (zac (F:=cd252) (hH.has _ _ rfl) (Nat.le_of_ble_eq_true rfl) fun Q hQ hR=>?_);dsimp only[cd252,qm,ql,qf,qi,qb,qc,qp,qv,qN,qT,qF,qt]at hQ ⊢;try (refine no_implicit_lambda% (st ?_);try with_reducible exact wT))|refine wS c2 ?_|fail);all_goals clear hX)
   all_goals first|rfl|(rw[zfL (l:=l.set k _) (n:=l.length) List.length_set];done)|(exfalso;contradiction)|trace_state
end Go.Lev
namespace Go.Lev
open Go.Eng
set_option maxRecDepth 10000
set_option maxHeartbeats 8000000
variable {P:Program} {inv:Nat→Option Nat} {w0:World} {M:Nat→Prop}
theorem zlG (hH:HasAll P inv) (hI:HasIds P inv) (p:Pln) (hp:Sm p) (s:State) (hs:SmS s) (l:List TrainD) (hl:l.length≤1000) (hls:∀ t∈l,t.secs.length≤1000) (hc:ckC p s l=0) (tr se ed:Int) :
  PC P inv 210 [.agg p.c,.agg s.c,.agg (wld l),.agg [.i .u8 3,.n tr,.n se,.n ed]] (·=if zcN l tr<0 then zcm 6 [] [] else if (nth l (zcN l tr).toNat).secs.length=1 then zcm 2 [] [] else zcm 0 (l.set (zcN l tr).toNat (znu (nth l (zcN l tr).toNat))) [(nth (nth l (zcN l tr).toNat).secs ((nth l (zcN l tr).toNat).secs.length-1),0)]):=by
 have c0:=zbD hH hI p hp s hs l hl hls
 have c1:=zdn hH l (by omega) hls
 have c2:=zdB hH l hl tr
 have hT:=((zbr p s l).1 hc).2
 rw[hc]at c0
 unfold wld at *
 rcases zaV l tr with ⟨e,_⟩|⟨k,hk7,e,hid⟩<;>rw[e]at c2 ⊢
 ·rw[if_pos (by omega)]
  unfold zcm wld
  clear hT
  refine PC.fn hH cd210 fun w0 M Q hM hE hQ hR=>?_;dsimp only[cd210,qm,ql,qf,qi,qb,qc,qp,qv,qN,qT,qF,qt]at hQ ⊢
  skip
  (repeat' first|refine zaa [0,1,2,3,4,5,6,7,8,9,10,11,12,13,14,16,18,28,44,48] fun K hK=>?_|(refine hK.go ?_;clear hK K)|with_reducible exact wT|refine wA ?_|(refine wB (fun h=>?_) (fun h=>?_)<;>first|exact wN h|subst (h:(_:Bool)=_)|skip)|(refine wQ ?_;clear hQ hR)|refine wC c0 ?_|refine wO c1 ?_|(refine AC.callK 100 (by omega) (by first|omega|exact wF|((refine no_implicit_lambda% (st ?_);try with_reducible exact wT);omega)) (zac (F:=cd226) (hH.has _ _ rfl) (Nat.le_of_ble_eq_true rfl) fun Q hQ hR=>?_);dsimp only[cd226,qm,ql,qf,qi,qb,qc,qp,qv,qN,qT,qF,qt]at hQ ⊢;try (refine no_implicit_lambda% (st ?_);try with_reducible exact wT))|(refine AC.callK 200 (by omega) (by first|omega|exact wF|((refine no_implicit_lambda% (st ?_);try with_reducible exact wT);omega)) (zac (F:=cd232) (hH.has _ _ rfl) (Nat.le_of_ble_eq_true rfl) fun Q hQ hR=>?_);dsimp only[cd232,qm,ql,qf,qi,qb,qc,qp,qv,qN,qT,qF,qt]at hQ ⊢;try (refine no_implicit_lambda% (st ?_);try with_reducible exact wT))|(refine AC.callK 300 (by omega) (by first|omega|exact wF|((refine no_implicit_lambda% (st ?_);try with_reducible exact wT);omega)) (zac (F:=cd252) (hH.has _ _ rfl) (Nat.le_of_ble_eq_true rfl) fun Q hQ hR=>?_);dsimp only[cd252,qm,ql,qf,qi,qb,qc,qp,qv,qN,qT,qF,qt]at hQ ⊢;try (refine no_implicit_lambda% (st ?_);try with_reducible exact wT))|refine wS c2 ?_|fail)
  all_goals first|rfl|(exfalso;contradiction)|trace_state
 ·rw[if_neg (by omega),Int.toNat_natCast]
  have hk8:=(zb9.1 (hT.may _ (zae hk7))).one
  have hk9:=hls _ (zae hk7)
  clear hT
  have y1:=tg1 hk7
  by_cases h1:(nth l k).secs.length=1
  ·rw[if_pos h1]
   unfold zcm wld
   refine PC.fn hH cd210 fun w0 M Q hM hE hQ hR=>?_;dsimp only[cd210,qm,ql,qf,qi,qb,qc,qp,qv,qN,qT,qF,qt]at hQ ⊢
   skip
   (have hX:=zA @y1 @h1;(repeat' first|refine zaa [0,1,2,3,4,5,6,7,8,9,10,11,12,13,14,16,18,28,44,48] fun K hK=>?_|(refine hK.go ?_;clear hK K)|with_reducible exact wT|refine wA ?_|(refine wB (fun h=>?_) (fun h=>?_)<;>first|exact wN h|subst (h:(_:Bool)=_)|skip)|(refine wQ ?_;clear hQ hR)|refine wC c0 ?_|refine wO c1 ?_|(refine AC.callK 100 (by omega) (by first|omega|exact wF|((refine no_implicit_lambda% (st ?_);try with_reducible exact wT);omega)) (zac (F:=cd226) (hH.has _ _ rfl) (Nat.le_of_ble_eq_true rfl) fun Q hQ hR=>?_);dsimp only[cd226,qm,ql,qf,qi,qb,qc,qp,qv,qN,qT,qF,qt]at hQ ⊢;try (refine no_implicit_lambda% (st ?_);try with_reducible exact wT))|(refine AC.callK 200 (by omega) (by first|omega|exact wF|((refine no_implicit_lambda% (st ?_);try with_reducible exact wT);omega)) (zac (F:=cd232) (hH.has _ _ rfl) (Nat.le_of_ble_eq_true rfl) fun Q hQ hR=>?_);dsimp only[cd232,qm,ql,qf,qi,qb,qc,qp,qv,qN,qT,qF,qt]at hQ ⊢;try (refine no_implicit_lambda% (st ?_);try with_reducible exact wT))|(refine AC.callK 300 (by omega) (by first|omega|exact wF|((refine no_implicit_lambda% (st ?_);try with_reducible exact wT);omega)) (zac (F:=cd252) (hH.has _ _ rfl) (Nat.le_of_ble_eq_true rfl) fun Q hQ hR=>?_);dsimp only[cd252,qm,ql,qf,qi,qb,qc,qp,qv,qN,qT,qF,qt]at hQ ⊢;try (refine no_implicit_lambda% (st ?_);try with_reducible exact wT))|refine wS c2 ?_|fail);all_goals clear hX)
   all_goals first|rfl|(exfalso;contradiction)|trace_state
  ·rw[if_neg h1]
   have x0:=zfA (show (nth l k).secs.length-1<(nth l k).secs.length by omega)
   have x1:(((nth l k).secs.length:Int)-1).toNat=(nth l k).secs.length-1:=by omega
   have x2:(((nth l k).secs.map zck).take ((nth l k).secs.length-1))=((nth l k).secs.take ((nth l k).secs.length-1)).map zck:=List.map_take.symm
   have yp:(l.map TrainD.c).flatten.set (k*8+1) (.sl 1 (((nth l k).secs.take ((nth l k).secs.length-1)).map zck))=((l.set k (znu (nth l k))).map TrainD.c).flatten:=zey (c:=TrainD.c) (l:=l) (k:=k) (i:=1) hk7 (by omega) _ (znu (nth l k)) rfl
   have c3:=zdX hH (nth (nth l k).secs ((nth l k).secs.length-1)) 0 (by omega)
   unfold zcm wld
   refine PC.fn hH cd210 fun w0 M Q hM hE hQ hR=>?_;dsimp only[cd210,qm,ql,qf,qi,qb,qc,qp,qv,qN,qT,qF,qt]at hQ ⊢
   skip
   (have hX:=zA @y1 (zA @x0 (zA @x1 (zA @x2 @yp)));(repeat' first|refine zaa [0,1,2,3,4,5,6,7,8,9,10,11,12,13,14,16,18,28,44,48] fun K hK=>?_|(refine hK.go ?_;clear hK K)|with_reducible exact wT|refine wA ?_|(refine wB (fun h=>?_) (fun h=>?_)<;>first|exact wN h|subst (h:(_:Bool)=_)|skip)|(refine wQ ?_;clear hQ hR)|refine wC c0 ?_|refine wO c1 ?_|(refine AC.callK 100 (by omega) (by first|omega|exact wF|((refine no_implicit_lambda% (st ?_);try with_reducible exact wT);omega)) (zac (F:=cd226) (hH.has _ _ rfl) (Nat.le_of_ble_eq_true rfl) fun Q hQ hR=>?_);dsimp only[cd226,qm,ql,qf,qi,qb,qc,qp,qv,qN,qT,qF,qt]at hQ ⊢;try (refine no_implicit_lambda% (st ?_);try with_reducible exact wT))|(refine AC.callK 200 (by omega) (by first|omega|exact wF|((refine no_implicit_lambda% (st ?_);try with_reducible exact wT);omega)) (zac (F:=cd232) (hH.has _ _ rfl) (Nat.le_of_ble_eq_true rfl) fun Q hQ hR=>?_);dsimp only[cd232,qm,ql,qf,qi,qb,qc,qp,qv,qN,qT,qF,qt]at hQ ⊢;try (refine no_implicit_lambda% (st ?_);try with_reducible exact wT))|(refine AC.callK 300 (by omega) (by first|omega|exact wF|((refine no_implicit_lambda% (st ?_);try with_reducible exact wT);omega)) (zac (F:=cd252) (hH.has _ _ rfl) (Nat.le_of_ble_eq_true rfl) fun Q hQ hR=>?_);dsimp only[cd252,qm,ql,qf,qi,qb,qc,qp,qv,qN,qT,qF,qt]at hQ ⊢;try (refine no_implicit_lambda% (st ?_);try with_reducible exact wT))|refine wS c2 ?_|refine wC c3 ?_|fail);all_goals clear hX)
   all_goals first|rfl|(rw[zfL (l:=l.set k _) (n:=l.length) List.length_set];done)|(rw[zfL (l:=l.set k _) (n:=l.length) List.length_set];rfl)|(exfalso;contradiction)|(exfalso;omega)|trace_state
end Go.Lev
namespace Go.Lev
open Go.Eng
set_option maxRecDepth 10000
set_option maxHeartbeats 8000000
variable {P:Program} {inv:Nat→Option Nat} {w0:World} {M:Nat→Prop}
theorem zpa (f:Nat→Nat) (v:AV):∀ (xs:List AV) (p:Nat),rnL f (xs.set p v)=(rnL f xs).set p (rnV f v)
 |[],_=>by simp[rnL]
 |x::xs,0=>by simp[rnL]
 |x::xs,p+1=>by simp only[List.set_cons_succ,rnL,zpa f v xs p]
theorem zoU (b:Nat) (v:AV):∀ (xs:List AV) (p:Nat),shL b (xs.set p v)=(shL b xs).set p (shV b v)
 |[],_=>by simp[shL]
 |x::xs,0=>by simp[shL]
 |x::xs,p+1=>by simp only[List.set_cons_succ,shL,zoU b v xs p]
theorem zoN (f:Nat→Option (List AV)) (v:AV):∀ (xs:List AV) (p:Nat),zbn f (xs.set p v)=(zbn f xs).set p (zaO f v)
 |[],_=>by simp[zbn]
 |x::xs,0=>by simp[zbn]
 |x::xs,p+1=>by simp only[List.set_cons_succ,zbn,zoN f v xs p]
theorem sns_set (k:Nat) (σ:AS) (v:AV) (xs:List AV) (p:Nat):zby k σ (xs.set p v)=(zby k σ xs).set p (zdU k σ v):=zoN _ v xs p
attribute [go_sem] zpa zoU sns_set
theorem seg_set {cs:List AV} {off n p:Nat} {v:AV} (h:p<off∨off+n≤p):seg (cs.set p v) off n=seg cs off n:=by
 unfold seg
 rcases h with h|h
 ·rw[List.drop_set_of_lt h]
 ·rw[List.drop_set,if_neg (by omega),List.take_set_of_le (by omega)]
theorem zkY {cs:List AV} {off n p:Nat} {v:AV} (h:p<off∨off+n≤p):zbY (cs.set p v) off (some n)=zbY cs off (some n):=by
 simp only[zbY,List.length_set,seg_set h]
attribute [go_sem high] zkY
theorem zhX (v:AV):∀ {xs:List AV} {p:Nat},zab xs=0→p<xs.length→zab (xs.set p v)=v.bound
 |[],p,_,h=>absurd h (by simp)
 |x::xs,0,h,_=>by
  simp only[zab]at h
  have h1:=zaF x.bound (zab xs)
  have h2:=zal x.bound (zab xs)
  simp only[List.set_cons_zero,zab,show zab xs=0 by omega]
  unfold mx
  split<;>omega
 |x::xs,p+1,h,hp=>by
  simp only[zab]at h
  have h1:=zaF x.bound (zab xs)
  have h2:=zal x.bound (zab xs)
  simp only[List.set_cons_succ,zab,zhX v (show zab xs=0 by omega) (by simpa using hp),show x.bound=0 by omega]
  unfold mx
  split<;>omega
theorem zqq {α:Type} {c:α→List AV} {sz:Nat} [Cells c sz] {l:List α} {p:Nat} (v:AV) (h:p<l.length*sz):zab ((l.map c).flatten.set p v)=v.bound :=
 zhX v (ziH l) (by rw[zbm];exact h)
attribute [go_sem] List.length_set zqq AV.bound
theorem zl7 (hH:HasAll P inv) (l:List Int) (h:l.length≤1000000) (h0:0<l.length):PO P inv 108 [.sl 1 (l.map zck)] (.sm 0 l.length 0 l.length 1) [(0,.cells (l.map zck).flatten true)]:=by
 refine PO.fn hH cd108 fun w0 M Q hM hE hQ hR=>?_;dsimp only[cd108,qm,ql,qf,qi,qb,qc,qp,qv,qN,qT,qF,qt]at hQ ⊢
 (repeat' first|refine zaa [0,2,4] fun K hK=>?_|(refine hK.go ?_;clear hK K)|with_reducible exact wT|refine wA ?_|(refine wB (fun h=>?_) (fun h=>?_)<;>first|exact wN h|subst (h:(_:Bool)=_)|skip)|(refine wR ?_;clear hQ hR hE hM)|fail)
 all_goals first|(exfalso;omega)|skip
 all_goals (left;constructor)
 all_goals (refine no_implicit_lambda% (st ?_);try with_reducible exact wT)
 all_goals rw[decide_eq_true h0]
theorem znq (hH:HasAll P inv) (l:List TrainD) (k:Nat) (hk7:k<l.length) (hk8:0<(nth l k).secs.length) (h1:l.length≤1000) (h2:∀ t∈l,t.secs.length≤1000):PO P inv 227 [.agg (wld l)] (.agg [.sm 2 (l.length*8) 0 l.length 8])
  [(2,.cells ((l.map TrainD.c).flatten.set (k*8+1) (.sm 3 (nth l k).secs.length 0 (nth l k).secs.length 1)) true),(3,.cells ((nth l k).secs.map zck).flatten true)]:=by
 have c1:=zkP hH l (by omega)
 have c3:=zl7 hH (nth l k).secs (Nat.le_trans (h2 _ (zae hk7)) (by omega)) hk8
 have hpos:decide (0<l.length)=true:=decide_eq_true (by omega)
 rw[hpos]at c1
 unfold wld
 refine PO.fn hH cd227 fun w0 M Q hM hE hQ hR=>?_;dsimp only[cd227,qm,ql,qf,qi,qb,qc,qp,qv,qN,qT,qF,qt]at hQ ⊢
 (repeat' first|refine zaa [0,1,2,3,4,10,11,12,13] fun K hK=>?_|(refine hK.go ?_;clear hK K)|with_reducible exact wT|refine wA ?_|(refine wB (fun h=>?_) (fun h=>?_)<;>first|exact wN h|subst (h:(_:Bool)=_)|skip)|(refine wR ?_;clear hQ hR hE hM)|refine wO c1 ?_|fail)
 refine AWp.lMR (ι:=Bool×Nat) [1,2,10,11,12] (fun z=>[(12,.n z.2)]) (fun z=>bif z.1 then [(2,.cells ((l.map TrainD.c).flatten.set (k*8+1) (.sm 3 (nth l k).secs.length 0 (nth l k).secs.length 1)) true),(3,.cells ((nth l k).secs.map zck).flatten true)] else []) (fun z=>z.2) l.length (fun z=>z.1=decide (k<z.2)) (false,0) ?_ (h2:=by (dsimp only[cond];refine wD ?_;first|with_reducible exact wT|omega|(simp;done)));rintro ⟨b,j⟩ ⟨hj,hb⟩;(try dsimp only at hj hb ⊢);rcases Nat.lt_or_ge j l.length with hlt|hge
 ·have d1:=zcy hH (nth l j).secs (Nat.le_trans (h2 _ (zae hlt)) (by omega))
  have f1:(l.map TrainD.c).flatten.set (j*8+1) (.sl 1 ((nth l j).secs.map zck))=(l.map TrainD.c).flatten:=by
   have:=zey (c:=TrainD.c) (l:=l) (k:=j) (i:=1) hlt (by omega) (.sl 1 ((nth l j).secs.map zck)) (nth l j) rfl
   rw[this,zay hlt,List.set_getElem_self]
  have fa:zbY (l.map TrainD.c).flatten (j*8) (some 8)=some (.agg (nth l j).c):=zgf (c:=TrainD.c) (l:=l) (k:=j) hlt (by omega)
  rcases Nat.lt_trichotomy j k with hjk|hjk|hjk
  ·obtain rfl:b=false:=by rw[hb];exact decide_eq_false (by omega)
   dsimp only[cond]
   (have hX:=zA @f1 @fa;(repeat' first|refine zaa [0,1,2,3,4,10,11,12,13] fun K hK=>?_|(refine hK.go ?_;clear hK K)|with_reducible exact wT|refine wA ?_|(refine wB (fun h=>?_) (fun h=>?_)<;>first|exact wN h|subst (h:(_:Bool)=_)|skip)|(refine wR ?_;clear hQ hR hE hM)|refine wC d1 ?_|refine wU d1 ?_|fail);all_goals clear hX)
   refine ⟨(false,j+1),[],⟨by dsimp only;omega,by dsimp only;omega,by dsimp only;exact (decide_eq_false (by omega)).symm⟩, ?_⟩
   unfold Go.Eng.ends
   dsimp only[cond]
   (refine no_implicit_lambda% (st ?_);try with_reducible exact wT)
   all_goals (try first|omega|(simp;done)|(simp;omega))
  ·subst hjk
   obtain rfl:b=false:=by rw[hb];exact decide_eq_false (by omega)
   dsimp only[cond]
   (have hX:=@fa;(repeat' first|refine zaa [0,1,2,3,4,10,11,12,13] fun K hK=>?_|(refine hK.go ?_;clear hK K)|with_reducible exact wT|refine wA ?_|(refine wB (fun h=>?_) (fun h=>?_)<;>first|exact wN h|subst (h:(_:Bool)=_)|skip)|(refine wR ?_;clear hQ hR hE hM)|refine wO c3 ?_|fail);all_goals clear hX)
   refine ⟨(true,j+1),[(4,3)],⟨by dsimp only;omega,by dsimp only;omega,by dsimp only;exact (decide_eq_true (by omega)).symm⟩, ?_⟩
   unfold Go.Eng.ends
   dsimp only[cond]
   (refine no_implicit_lambda% (st ?_);try with_reducible exact wT)
   all_goals (try first|omega|(simp;done)|(simp;omega))
  ·obtain rfl:b=true:=by rw[hb];exact decide_eq_true (by omega)
   dsimp only[cond]
   have fb:zbY ((l.map TrainD.c).flatten.set (k*8+1) (.sm 3 (nth l k).secs.length 0 (nth l k).secs.length 1)) (j*8) (some 8)=some (.agg (nth l j).c):=by rw[zkY (by omega)];exact fa
   have f2:((l.map TrainD.c).flatten.set (k*8+1) (.sm 3 (nth l k).secs.length 0 (nth l k).secs.length 1)).set (j*8+1) (.sl 1 ((nth l j).secs.map zck))=(l.map TrainD.c).flatten.set (k*8+1) (.sm 3 (nth l k).secs.length 0 (nth l k).secs.length 1):=by rw[List.set_comm _ _ (by omega),f1]
   (have hX:=zA @f2 @fa;(repeat' first|refine zaa [0,1,2,3,4,10,11,12,13] fun K hK=>?_|(refine hK.go ?_;clear hK K)|with_reducible exact wT|refine wA ?_|(refine wB (fun h=>?_) (fun h=>?_)<;>first|exact wN h|subst (h:(_:Bool)=_)|skip)|(refine wR ?_;clear hQ hR hE hM)|refine wC d1 ?_|refine wU d1 ?_|fail);all_goals clear hX)
   refine ⟨(true,j+1),[],⟨by dsimp only;omega,by dsimp only;omega,by dsimp only;exact (decide_eq_true (by omega)).symm⟩, ?_⟩
   unfold Go.Eng.ends
   dsimp only[cond]
   (refine no_implicit_lambda% (st ?_);try with_reducible exact wT)
   all_goals (try first|omega|(simp;done)|(simp;omega))
 ·obtain rfl:b=true:=by rw[hb];exact decide_eq_true (by omega)
  dsimp only[cond]
  (repeat' first|refine zaa [0,1,2,3,4,10,11,12,13] fun K hK=>?_|(refine hK.go ?_;clear hK K)|with_reducible exact wT|refine wA ?_|(refine wB (fun h=>?_) (fun h=>?_)<;>first|exact wN h|subst (h:(_:Bool)=_)|skip)|(refine wR ?_;clear hQ hR hE hM)|fail)
  all_goals first|(exfalso;contradiction)|skip
  all_goals (left;constructor)
  all_goals (refine no_implicit_lambda% (st ?_);try with_reducible exact wT)
end Go.Lev
namespace Go.Lev
open Go.Eng
def zjV (l:List TrainD) (k j:Nat):List TrainD:=(l.eraseIdx k).take (j-1)++l.drop (j-1)
theorem zqu {l:List TrainD} {k j:Nat} (h1:k<j) (h2:j<l.length):(l.eraseIdx k)[j-1]?=some (nth l j):=by
 rw[List.getElem?_eraseIdx,if_neg (by omega),show j-1+1=j by omega,zay h2,List.getElem?_eq_getElem h2]
theorem zgT {l:List TrainD} {k j:Nat} (hk:k<l.length) (h1:k<j) (h2:j≤l.length):(zjV l k j).length=l.length:=by
 unfold zjV
 rw[List.length_append,List.length_take,List.length_eraseIdx_of_lt hk,List.length_drop]
 omega
theorem zn6 {l:List TrainD} {k:Nat} (hk:k<l.length):zjV l k (k+1)=l:=by
 unfold zjV
 rw[Nat.add_sub_cancel,List.eraseIdx_eq_take_drop_succ,List.take_append_of_le_length (by rw[List.length_take];omega),List.take_take,Nat.min_self,List.take_append_drop]
theorem delL_at {l:List TrainD} {k j:Nat} (hk:k<l.length) (h1:k<j) (h2:j<l.length):nth (zjV l k j) j=nth l j:=by
 have hl:((l.eraseIdx k).take (j-1)).length=j-1:=by rw[List.length_take,List.length_eraseIdx_of_lt hk];omega
 rw[zay (by rw[zgT hk h1 (by omega)];exact h2),zay h2]
 unfold zjV
 rw[List.getElem_append_right (by omega)]
 simp only[List.getElem_drop,hl]
 congr 1
 omega
theorem zqA {l:List TrainD} {k j:Nat} (hk:k<l.length) (h1:k<j) (h2:j<l.length):(zjV l k j).set (j-1) (nth l j)=zjV l k (j+1):=by
 have hl:((l.eraseIdx k).take (j-1)).length=j-1:=by rw[List.length_take,List.length_eraseIdx_of_lt hk];omega
 unfold zjV
 rw[List.set_append_right _ _ (by omega),hl,Nat.sub_self,Nat.add_sub_cancel]
 rw[show l.drop (j-1)=l[j-1]::l.drop j by rw[List.drop_eq_getElem_cons (by omega)];congr 2;omega]
 rw[List.set_cons_zero]
 have e:(l.eraseIdx k).take j=(l.eraseIdx k).take (j-1)++[nth l j]:=by
  conv=>lhs;rw[show j=j-1+1 by omega]
  rw[List.take_add_one,zqu h1 h2]
  rfl
 rw[e,List.append_assoc]
 rfl
theorem delL_end {l:List TrainD} {k:Nat} (hk:k<l.length):zjV l k l.length=l.eraseIdx k++l.drop (l.length-1):=by
 unfold zjV
 rw[List.take_of_length_le (by rw[List.length_eraseIdx_of_lt hk];omega)]
def zeroT:List AV:=[.n 0,.s0 1,.n 0,.n 0,.n 0,.n 0,.n 0,.n 0]
theorem trn_clr {l:List TrainD} {k q:Nat} (hk:k<l.length) (hq:q=l.length-1) :
  (((((((((zjV l k l.length).map TrainD.c).flatten.set (q*8) (.n 0)).set (q*8+1) (.s0 1)).set (q*8+1+1) (.n 0)).set (q*8+1+1+1) (.n 0)).set (q*8+1+1+1+1) (.n 0)).set (q*8+1+1+1+1+1) (.n 0)).set (q*8+1+1+1+1+1+1) (.n 0)).set (q*8+1+1+1+1+1+1+1) (.n 0)=((l.eraseIdx k).map TrainD.c).flatten++zeroT:=by
 show ovl ((zjV l k l.length).map TrainD.c).flatten (q*8) zeroT=_
 have hl:=zbm (c:=TrainD.c) (l.eraseIdx k)
 rw[List.length_eraseIdx_of_lt hk]at hl
 have h2:=zbm (c:=TrainD.c) (zjV l k l.length)
 rw[zgT hk hk (Nat.le_refl _)]at h2
 have hz:zeroT.length=8:=rfl
 rw[zhA _ _ _ (by rw[hz,h2];omega),delL_end hk,List.map_append,List.flatten_append,List.take_left' (by rw[hl,hq])]
 rw[List.drop_eq_nil_of_le,List.append_nil]
 rw[List.length_append,hl,hz]
 have h3:=zbm (c:=TrainD.c) (l.drop (l.length-1))
 rw[h3,List.length_drop]
 omega
theorem ziL (Z:List AV):∀ (r:List TrainD),zbv 8 r.length ((r.map TrainD.c).flatten++Z)=r.map TrainD.c
 |[]=>rfl
 |x::r=>by
  rw[List.map_cons,List.flatten_cons,List.length_cons,zbv,List.append_assoc]
  have h8:(TrainD.c x).length=8:=rfl
  rw[List.take_left' h8,List.drop_left' h8,ziL Z r]
end Go.Lev
namespace Go.Lev
open Go.Eng
structure SgsP (p:Pln):Prop where
 id:∀ x∈p.signals,1≤x.id∧x.id≤99
 up:∀ i,i<p.signals.length→∀ m,m<i→(nth p.signals m).id<(nth p.signals i).id
 apart:∀ i,i<p.signals.length→∀ m,m<i→¬((nth p.signals m).sec=(nth p.signals i).sec∧(nth p.signals m).ed=(nth p.signals i).ed)
 sec:∀ x∈p.signals,∃ s∈p.sections,s.id=x.sec∧0≤x.ed∧x.ed<s.ends.length
 len:(p.signals.length:Int)≤10
theorem pair_nth {α:Type} [Inhabited α] {R:α→α→Prop} {l:List α}:l.Pairwise R↔∀ i,i<l.length→∀ m,m<i→R (nth l m) (nth l i):=by
 rw[List.pairwise_iff_getElem]
 constructor
 ·intro h i hi m hm
  have:=h m i (by omega) hi hm
  rw[←zay (by omega),←zay hi]at this
  exact this
 ·intro h i j hi hj hij
  have:=h j hj i hij
  rw[zay hi,zay hj]at this
  exact this
def rsBad (p:Pln) (x:Sgn):Bool:=decide (x.id<1)||(decide (99<x.id)||(decide (ze9 x.sec 0 p.sections<0)||(decide (x.ed<0)||decide (((nth p.sections (ze9 x.sec 0 p.sections).toNat).ends.length:Int)≤x.ed))))
def rsF (p:Pln):Bool :=
 zbs (fun i _ zbf=>cond (rsBad p (nth p.signals i)) false
   (zbs (fun m _ next2=>cond (decide ((nth p.signals i).id≤(nth p.signals m).id)||(decide ((nth p.signals m).sec=(nth p.signals i).sec)&&decide ((nth p.signals m).ed=(nth p.signals i).ed))) false (next2 ())) (fun _=>zbf ()) i 0 ()))
  (fun _=>decide ((p.signals.length:Int)≤10)) p.signals.length 0 ()
end Go.Lev
namespace Go.Lev
open Go.Eng
def bsT (l:List TrainD) (n:Int) (i j:Nat):Nat :=
 if _h:i<j then if (nth l ((i+j) / 2)).id-n<0 then bsT l n ((i+j) / 2+1) j else bsT l n i ((i+j) / 2) else i
termination_by j-i
theorem znh {l:List TrainD} {n:Int} {i j:Nat} (h:i<j):bsT l n i j=if (nth l ((i+j) / 2)).id-n<0 then bsT l n ((i+j) / 2+1) j else bsT l n i ((i+j) / 2):=by
 rw[bsT,dif_pos h]
theorem zjL {l:List TrainD} {n:Int} {i:Nat}:bsT l n i i=i:=by rw[bsT,dif_neg (by omega)]
theorem zp5 {l:List TrainD} (h:(l.map (·.id)).Pairwise (· < ·)) {i k:Nat} (hik:i<k) (hk:k<l.length):(nth l i).id<(nth l k).id:=by
 rw[List.pairwise_map]at h
 exact (pair_nth.1 h) k hk i hik
theorem bsT_spec {l:List TrainD} (h:(l.map (·.id)).Pairwise (· < ·)) (n:Int):∀ (m i j:Nat),j-i≤m→i≤j→j≤l.length→(∀ q,q<i→(nth l q).id<n)→(∀ q,j≤q→q<l.length→n≤(nth l q).id) →
  bsT l n i j≤l.length∧(∀ q,q<bsT l n i j→(nth l q).id<n)∧∀ q,bsT l n i j≤q→q<l.length→n≤(nth l q).id:=by
 intro m
 induction m with
 |zero =>
  intro i j hm hij hj h1 h2
  obtain rfl:i=j:=by omega
  rw[zjL]
  exact ⟨hj,h1,h2⟩
 |succ m ih =>
  intro i j hm hij hj h1 h2
  rcases Nat.lt_or_ge i j with hlt|hge
  ·rw[znh hlt]
   split
   ·rename_i hc
    refine ih _ _ (by omega) (by omega) hj (fun q hq=>?_) h2
    rcases Nat.lt_or_ge q ((i+j) / 2) with h3|h3
    ·have:=zp5 h h3 (show (i+j) / 2<l.length by omega);omega
    ·obtain rfl:q=(i+j) / 2:=by omega
     omega
   ·rename_i hc
    refine ih _ _ (by omega) (by omega) (by omega) h1 (fun q hq hql=>?_)
    rcases Nat.lt_or_ge ((i+j) / 2) q with h3|h3
    ·have:=zp5 h h3 hql;omega
    ·obtain rfl:q=(i+j) / 2:=by omega
     omega
  ·obtain rfl:i=j:=by omega
   rw[zjL]
   exact ⟨hj,h1,h2⟩
theorem zpX {t:TrainD}:∀ (l:List TrainD) (k:Nat),k≤l.length→(∀ q,q<k→(nth l q).id<t.id)→(∀ q,k≤q→q<l.length→t.id≤(nth l q).id)→zge l t=l.take k++t::l.drop k
 |[],k,hk,_,_=>by
  obtain rfl:k=0:=by simpa using hk
  simp[zge]
 |x::r,0,_,_,h2=>by
  rw[zdA,if_neg]
  ·rfl
  ·have:t.id≤x.id:=h2 0 (Nat.le_refl _) (by simp)
   omega
 |x::r,k+1,hk,h1,h2=>by
  have h0:x.id<t.id:=h1 0 (by omega)
  rw[zdA,if_pos h0,zpX r k (by simpa using hk) (fun q hq=>h1 (q+1) (by omega)) (fun q hq hql=>h2 (q+1) (by omega) (by simpa using hql))]
  rfl
theorem zpW {l:List TrainD} (h:(l.map (·.id)).Pairwise (· < ·)) (t:TrainD):bsT l t.id 0 l.length≤l.length∧zge l t=l.take (bsT l t.id 0 l.length)++t::l.drop (bsT l t.id 0 l.length):=by
 have:=bsT_spec h t.id l.length 0 l.length (by omega) (by omega) (Nat.le_refl _) (fun q hq=>absurd hq (by omega)) (fun q hq hql=>by omega)
 exact ⟨this.1,zpX l _ this.1 this.2.1 this.2.2⟩
end Go.Lev
namespace Go.Eng
open Go.RowKit
mutual
/-- Numbers,truth values,names: nothing that lies in memory nobody names. -/
def nmV:AV→Bool
 |.agg cs=>nmL cs
 |.tup cs=>nmL cs
 |.i _ _=>true|.b _=>true|.v _=>true|.u=>true|.s0 _=>true|.ptr _ _ _=>true|.sm _ _ _ _ _=>true
 |.sl _ _=>false|.ip _ _ _ _=>false|.fn _ _=>false|.mp _=>false|.top=>false
def nmL:List AV→Bool
 |[]=>true
 |x::xs=>nmV x&&nmL xs
end
mutual
theorem zpx {c c':Ctx} (hS:c'.S=c.S):∀ (x:AV) (y:Value),nmV x=true→rel c x y→rel c' x y
 |.agg cs,y,s,r=>by
  simp only[rel]at r ⊢
  obtain ⟨xs,e,r⟩:=r
  exact ⟨xs,e,zjn hS cs _ (by simpa only[nmV] using s) r⟩
 |.tup cs,y,s,r=>by
  simp only[rel]at r ⊢
  obtain ⟨xs,e,r⟩:=r
  exact ⟨xs,e,zpz hS cs _ (by simpa only[nmV] using s) r⟩
 |.i _ _,_,_,r=>by simpa only[rel] using r
 |.b _,_,_,r=>by simpa only[rel] using r
 |.v _,_,_,r=>by simpa only[rel] using r
 |.u,_,_,r=>by simpa only[rel] using r
 |.s0 _,_,_,r=>by simpa only[rel] using r
 |.ptr _ _ _,_,_,r=>by simpa only[rel,hS] using r
 |.sm _ _ _ _ _,_,_,r=>by simpa only[rel,hS] using r
 |.sl _ _,_,s,_=>by simp[nmV]at s
 |.ip _ _ _ _,_,s,_=>by simp[nmV]at s
 |.fn _ _,_,s,_=>by simp[nmV]at s
 |.mp _,_,s,_=>by simp[nmV]at s
 |.top,_,s,_=>by simp[nmV]at s
theorem zpz {c c':Ctx} (hS:c'.S=c.S):∀ (xs:List AV) (ys:List Value),nmL xs=true→zbz c xs ys→zbz c' xs ys
 |[],ys,_,r=>by simpa only[zbz] using r
 |x::xs,ys,s,r=>by
  simp only[nmL,Bool.and_eq_true]at s
  simp only[zbz]at r ⊢
  obtain ⟨y,ys',e,r1,r2⟩:=r
  exact ⟨y,ys',e,zpx hS x y s.1 r1,zpz hS xs ys' s.2 r2⟩
theorem zjn {c c':Ctx} (hS:c'.S=c.S):∀ (xs:List AV) (ys:List Value),nmL xs=true→relCs c xs ys→relCs c' xs ys
 |[],ys,_,r=>by simpa only[relCs] using r
 |x::xs,ys,s,r=>by
  simp only[nmL,Bool.and_eq_true]at s
  simp only[relCs]at r ⊢
  obtain ⟨y,ys',e,ho,r1,r2⟩:=r
  exact ⟨y,ys',e,ho,zpx hS x y s.1 r1,zjn hS xs ys' s.2 r2⟩
end
def nmR:List (Nat×AO)→Bool
 |[]=>true
 |(_,.cells cs _)::r=>nmL cs&&nmR r
 |_::r=>nmR r
theorem zpy:∀ {σ:List (Nat×AO)},nmR σ=true→∀ {l:Nat} {cs:List AV} {b:Bool},zax σ l=some (.cells cs b)→nmL cs=true
 |[],_,l,cs,b,e=>by simp[zax]at e
 |(k,o)::r,h,l,cs,b,e=>by
  have hr:nmR r=true:=by
   cases o with
   |cells cs' b'=>simp only[nmR,Bool.and_eq_true]at h;exact h.2
   |imap kvs=>exact h
   |rsv=>exact h
  unfold zax at e
  split at e
  ·simp only[Option.some.injEq]at e
   subst e
   simp only[nmR,Bool.and_eq_true]at h
   exact h.1
  ·exact zpy hr e
section
variable {P:Program} {inv:Nat→Option Nat} {w0:World} {M:Nat→Prop} {n N:Nat} {φ:AF} {σ:AS}
theorem PO.snapK (hM:∀ b,M b→b<w0.heap.size) (k:Nat) {j:Nat} {args args':List AV} {r:AV} {σ0:AS} (h:PO P inv j args' r σ0) (he:zby k σ args=args') (hr:nmV r=true) (hs:nmR σ0=true) {K:AV→AS→Prop}
  (hk:K (shV (zas N φ σ) r) (zjU σ (shS (zas N φ σ) σ0))):CallK P inv w0 M N φ σ j args K:=by
 obtain ⟨f1,f2,f3⟩:=zbe N φ σ
 refine ⟨zas N φ σ,f1,f2,fun g hg β w vs hm ha=>?_⟩
 have hf:=zc7 hm hM (A':=fun _=>False) (fun _ h=>h.elim) k
 have ha2:=zdp hm hM (fun _ h=>h.elim) hf _ _ ha
 rw[show zbn (zfZ k σ) args=args' from he]at ha2
 have hle:Ctx.Le ⟨inv,w,fun _=>False,fun _=>none⟩ (ctx inv (fun _=>False) [] (fun _=>0) w):=⟨rfl,Nat.le_refl _,fun _ _ _=>rfl,fun b _ hb=>by
  rcases hb with hb|⟨l,o,e,_⟩
  ·exact hb
  ·simp[zax]at e⟩
 have hS:(ctx inv (fun _=>False) [] (fun _=>0) w).S=fun _=>Option.none:=by funext l;simp[ctx,zah,zax]
 refine (h w (fun _=>False) (fun _ h=>h.elim) g hg (fun _=>0) w vs (Mem.none w) (zbI (N:=0) hle _ _ (.inr hS) ha2)).mono ?_
 rintro e w' ⟨v,r',σ',β',rfl,⟨rfl,rfl⟩,hm',_,hr'⟩
 have hm2:Mem inv w (avoid M σ β) σ' β' w':=⟨hm'.below,hm'.inj,hm'.own,fun l cs e=>by
  obtain ⟨xs,ty,q1,q2,q3⟩:=hm'.cells l cs e
  exact ⟨xs,ty,q1,q2,zjn (c:=ctx inv (fun _=>False) σ' β' w') (c':=ctx inv (avoid M σ β) σ' β' w') rfl _ _ (zpy hs e) q3⟩,hm'.ghost,hm'.maps⟩
 obtain ⟨j1,j2,j3⟩:=hm.join hm2 (zas N φ σ) f3
 exact ⟨v,_,_,_,rfl,hk,j1,j2,j3 _ _ (zpx (c:=ctx inv (fun _=>False) σ' β' w') (c':=ctx inv (avoid M σ β) σ' β' w') rfl _ _ hr hr')⟩
end
end Go.Eng
namespace Go.Eng
open Go.RowKit
def InsC (P:Program) (g sz:Nat):Prop:=∀ (w:World) (base:Option Addr) (n c i vb vc:Nat) (cs vs:List Value) (vxs:Array Value) (vty:TypeId),
 i≤n→n≤1000000→n≤c→cs.length=n*sz→vs.length=sz→(∀ v∈cs,v.oneCell'=true)→(∀ v∈vs,v.oneCell'=true) →
 (c=0∨∃ b xs ty,base=some ⟨b,0,none⟩∧b≠vb∧w.heap[b]?=some (.cells xs ty (0,0))∧c*sz≤xs.size∧xs.toList.take (n*sz)=cs) →
 w.heap[vb]?=some (.cells vxs vty (0,0))→sz≤vxs.size→vxs.toList.take sz=vs→1≤vc →
 Calls P g #[.slice base n c,.int .i64 i,.slice (some ⟨vb,0,none⟩) 1 vc] w fun e w'=>∃ b' c' xs' ty',e=.returned (.slice (some ⟨b',0,none⟩) (n+1) c') ∧
  w'.heap[b']?=some (.cells xs' ty' (0,0))∧n+1≤c'∧c'*sz≤xs'.size∧xs'.toList.take ((n+1)*sz)=cs.take (i*sz)++vs++cs.drop (i*sz) ∧
  w'.os=w.os∧w'.tape=w.tape∧w'.output=w.output∧w.heap.size≤w'.heap.size∧(∀ k,k<w.heap.size→k≠b'→w'.heap[k]?=w.heap[k]?) ∧
  (b'=w.heap.size∨0<c∧base=some ⟨b',0,none⟩)
section
variable {P:Program} {inv:Nat→Option Nat} {w0:World} {M:Nat→Prop} {N:Nat} {σ:AS}
theorem zpV {j sz:Nat} (hg:∀ g,inv g=some j→InsC P g sz) (hsz:0<sz) {l l2 n i:Nat} {iz:Int} {cs cs2:List AV} {r:Bool} (h1:zax σ l=some (.cells cs r)) (h2:zax σ l2=some (.cells cs2 true)) (hne:l≠l2)
  (hn:cs.length=n*sz) (hn2:cs2.length=sz) (hiz:iz=(i:Int)) (hi:i≤n) (hN:n≤1000000) :
  AC P inv w0 M N j [.sm l (n*sz) 0 n sz,.i .i64 iz,.sm l2 sz 0 1 sz] σ fun r σ'=>r=.sm l ((n+1)*sz) 0 (n+1) sz∧σ'=zaQ σ l (.cells (cs.take (i*sz)++cs2++cs.drop (i*sz)) true):=by
 intro g hj β w vs hm ha
 subst hiz
 simp only[zbz]at ha
 obtain ⟨y1,ys1,e0,r1,y2,ys2,rfl,r2,y3,ys3,rfl,r3,rfl⟩:=ha
 have hvs:vs=#[y1,y2,y3]:=by cases vs;simp at e0;simp[e0]
 subst hvs
 simp only[rel]at r2
 subst r2
 have hl1:zbL σ l (n*sz):=by unfold zbL;rw[h1];exact hn
 have hl2:zbL σ l2 sz:=by unfold zbL;rw[h2];exact hn2
 obtain ⟨p,ad,cap,hp,hpv,_,rfl,hcap,hr⟩:=zcI hl1 r1
 obtain ⟨p2,ad2,cap2,hp2,hpv2,_,rfl,hcap2,hr2⟩:=zcI hl2 r3
 have hpe2:p2=⟨β l2,cs2.length,zaG w (β l2),true⟩:=by unfold zah at hp2;rw[h2]at hp2;cases hp2;rfl
 subst hpe2
 simp only[if_true]at hr2
 have had2:ad2=some ⟨β l2,0,none⟩:=hr2.1.resolve_left (by omega)
 subst had2
 obtain ⟨vxs,vty,q1,q2,q3⟩:=hm.cells l2 cs2 h2
 have hvl:=zav q3
 rw[hn2]at q2 q3 hvl
 have hown2:=hm.own l2 _ h2 rfl
 have hb2:=(zap σ l2 _ h2).2
 have hb1:=(zap σ l _ h1).2
 simp only[AO.bound]at hb1 hb2
 have hsN:=zal N (zaR σ)
 have key:∃ olds:List Value,olds.length=n*sz∧relCs (ctx inv M σ β w) cs olds∧(cap=0∨r=true∧∃ b xs ty,ad=some ⟨b,0,none⟩∧b=β l∧b≠β l2∧w.heap[b]?=some (.cells xs ty (0,0))∧cap*sz≤xs.size∧xs.toList.take (n*sz)=olds):=by
  cases r with
  |false =>
   have hc0:=hm.ghost l cs h1
   have hpe:p=⟨0,cs.length,0,false⟩:=by unfold zah at hp;rw[h1]at hp;cases hp;rfl
   subst hpe
   simp only[Bool.false_eq_true,if_false]at hr
   subst hc0
   exact ⟨[],by simpa using hn,za9,.inl hr⟩
  |true =>
   have hpe:p=⟨β l,cs.length,zaG w (β l),true⟩:=by unfold zah at hp;rw[h1]at hp;cases hp;rfl
   subst hpe
   simp only[if_true]at hr
   obtain ⟨xs,ty,e1,e2,e3⟩:=hm.cells l cs h1
   rw[hn]at e2 e3
   refine ⟨_, ?_,e3, ?_⟩
   ·rw[List.length_take];simp;omega
   ·by_cases hc:cap=0
    ·exact .inl hc
    ·have hbs:zaG w (β l)=xs.size:=by simp[zaG,e1]
     rw[hbs]at hr
     exact .inr ⟨rfl,β l,xs,ty,hr.1.resolve_left hc,rfl,fun he=>hne (hm.inj l l2 _ _ h1 h2 rfl rfl he),e1,by omega,rfl⟩
 obtain ⟨olds,hol,hor,hoc⟩:=key
 have hcall:=hg g hj w ad n cap i (β l2) cap2 olds (vxs.toList.take sz) vxs vty hi hN hcap hol (by rw[List.length_take];simp;omega) (zdv hor) (zdv q3)
  (hoc.imp id fun ⟨_,b,xs,ty,a1,_,a3,a4,a5,a6⟩=>⟨b,xs,ty,a1,a3,a4,a5,a6⟩) q1 q2 rfl hcap2
 refine hcall.mono ?_
 rintro e w' ⟨b',c',xs',ty',rfl,k1,k2,k3,k4,k5,k6,k7,k8,k9,k10⟩
 have hw0:=hm.below.size
 have hb':w.heap.size≤b'∨r=true∧β l=b':=by
  rcases k10 with k10|⟨k10,k11⟩
  ·exact .inl (by omega)
  ·rcases hoc with h0|⟨hr1,b,xs,ty,a1,a2,_⟩
   ·omega
   ·rw[a1]at k11
    simp only[Option.some.injEq,Addr.mk.injEq,and_true]at k11
    exact .inr ⟨hr1,by rw[←a2,k11]⟩
 have hb0:w0.heap.size≤b':=by
  rcases hb' with h|⟨hr1,h⟩
  ·omega
  ·subst hr1;rw[←h];exact (hm.own l _ h1 rfl).1
 have hnl:(cs.take (i*sz)++cs2++cs.drop (i*sz)).length=(n+1)*sz:=by
  have:i*sz≤n*sz:=Nat.mul_le_mul_right _ hi
  simp only[List.length_append,List.length_take,List.length_drop,hn,hn2,Nat.add_mul,Nat.one_mul]
  omega
 have hc'le:(n+1)*sz≤c'*sz:=Nat.mul_le_mul_right _ k2
 have hput:=Mem.put (l:=l) (b':=b') (cs':=cs.take (i*sz)++cs2++cs.drop (i*sz)) (xs':=xs') (ty:=ty') (N:=mx N (zaR σ)) (w':=w') hm
  (hm.below.trans ⟨k5,k6,k7,by omega,fun b hb=>k9 b (by omega) (by omega)⟩) k8 k9 k1 (by rw[hnl];omega) hb0
  (fun l' o' hne' e' hr' he=>by
   rcases hb' with h|⟨hr1,h⟩
   ·have:=(hm.own l' o' e' hr').2;omega
   ·exact hne' (hm.inj l' l o' _ e' h1 hr' hr1 (he.trans h.symm)))
  (hb'.imp id fun ⟨hr1,h⟩=>⟨_,h1,hr1,h⟩)
  (fun l' o' e' _=>Nat.le_trans (zap σ l' o' e').2 hsN)
  (zbZ (zbZ (zc1 fun x hx=>zcz (Nat.le_trans hb1 hsN) x (List.mem_of_mem_take hx)) (Nat.le_trans hb2 hsN)) (zc1 fun x hx=>zcz (Nat.le_trans hb1 hsN) x (List.mem_of_mem_drop hx)))
  (fun _ p' hp'=>⟨p,hp,by simp only[Option.some.injEq]at hp';subst hp';rw[hpv];simp only[hnl,Nat.add_mul];omega,fun ee=>by simp only[Option.some.injEq]at hp';subst hp';rw[hpv]at ee;simp only[hnl,Nat.add_mul,Nat.one_mul]at ee;omega⟩)
  (by rw[hnl,k4];exact zaT (zaT (zbT _ hor) q3) (zbU _ hor))
 have hpl:zah (upd β l b') w' (zaQ σ l (.cells (cs.take (i*sz)++cs2++cs.drop (i*sz)) true)) l=some ⟨b',(n+1)*sz,xs'.size,true⟩:=by
  unfold zah
  rw[zaf,if_pos rfl]
  simp only[zaZ,zaG,k1,hnl]
 refine ⟨_,_,_,_,rfl,⟨rfl,rfl⟩,hput.1,hput.2.mono (zaF _ _), ?_⟩
 exact zfq (inv:=inv) (M:=M) (off:=0) (m:=n+1) (sz:=sz) (cap:=c') (ver:=(n+1)*sz) hpl rfl (by omega) k2 rfl (by simpa using k3)
theorem ins_ac0 {j:Nat} (hg:∀ g,inv g=some j→InsC P g 1) {l l2 n:Nat} {cs cs2:List AV} {r:Bool} (h1:zax σ l=some (.cells cs r)) (h2:zax σ l2=some (.cells cs2 true)) (hne:l≠l2)
  (hn:cs.length=n) (hn2:cs2.length=1) (hN:n≤1000000) :
  AC P inv w0 M N j [.sm l n 0 n 1,.i .i64 0,.sm l2 1 0 1 1] σ fun r σ'=>r=.sm l (n+1) 0 (n+1) 1∧σ'=zaQ σ l (.cells (cs2++cs) true):=by
 have:=zpV (P:=P) (inv:=inv) (w0:=w0) (M:=M) (N:=N) (σ:=σ) hg (by omega) (n:=n) (i:=0) (iz:=0) h1 h2 hne (by rw[hn,Nat.mul_one]) hn2 rfl (Nat.zero_le _) hN
 simpa only[Nat.mul_one,Nat.zero_mul,List.take_zero,List.drop_zero,List.nil_append] using this
end
section
variable {P:Program}
end
section
variable {P:Program}
end
structure HasIns (P:Program) (inv:Nat→Option Nat):Prop where
 trn:∀ g,inv g=some 258→InsC P g 8
 int:∀ g,inv g=some 262→InsC P g 1
end Go.Eng
namespace Go.Eng
open Go.RowKit
section
variable {P:Program} {inv:Nat→Option Nat} {w0:World} {M:Nat→Prop} {N:Nat} {φ:AF} {σ:AS}
variable {K:AF→AS→Prop} {tk:Tok K}
theorem op_mksr (d sz len:Nat) (zero:List (Nat×AV)) (parts:List (Nat×Nat×Opd)):opT P inv w0 M N (.mksr d sz len zero parts) φ σ K tk=zcl (zc0 φ (List.replicate len (zcE zero)).flatten parts) fun cs =>
  K (za5 φ d (.sm (zas N φ σ) (len*sz) 0 len sz)) (zaQ σ (zas N φ σ) (.cells cs true)):=rfl
theorem od_mksr (d sz len:Nat) (zero:List (Nat×AV)) (parts:List (Nat×Nat×Opd)):opD P inv w0 M N (.mksr d sz len zero parts) φ σ K tk=opT P inv w0 M N (.mksr d sz len zero parts) φ σ K .mk:=rfl
theorem op_callA (d:Option Nat) (j:Nat) (args pts:List Opd):opT P inv w0 M N (.callA d j args pts) φ σ K tk=CallK P inv w0 M N φ σ j (args.map (ev φ)) fun r σ'=>ob (farP φ σ σ' pts) (K (zcn φ d r) σ'):=rfl
theorem od_callA (d:Option Nat) (j:Nat) (args pts:List Opd):opD P inv w0 M N (.callA d j args pts) φ σ K tk=opT P inv w0 M N (.callA d j args pts) φ σ K .mk:=rfl
def crT (σ:AS) (sz:Nat) (zs:List AV) (x:AV) (K:AS→Prop) (_:Tok K):Prop:=match x with
  |.s0 _=>K σ
  |.sm l ver off n sz'=>ob (sz'=sz) <| ob (off+n*sz≤ver) (match zax σ l with
   |some (.cells cs r)=>ob (cs.length=ver) (K (zaQ σ l (.cells (ovl cs off (List.replicate n zs).flatten) r)))
   |_=>False)
  |_=>False
theorem op_clr (s:Opd) (zero:List (Nat×AV)) (sz:Nat):opT P inv w0 M N (.clr s zero sz) φ σ K tk=crT σ sz (zcE zero) (ev φ s) (fun σ'=>K φ σ') .mk:=by unfold opT aop crT;rfl
theorem od_clr (s:Opd) (zero:List (Nat×AV)) (sz:Nat):opD P inv w0 M N (.clr s zero sz) φ σ K tk=opT P inv w0 M N (.clr s zero sz) φ σ K .mk:=rfl
end
theorem cr_0 (σ:AS) (sz sz0:Nat) (zs:List AV) (K:AS→Prop) (tk:Tok K):crT σ sz zs (.s0 sz0) K tk=K σ:=rfl
theorem cr_m (σ:AS) (sz l ver off n sz':Nat) (zs:List AV) (K:AS→Prop) (tk:Tok K):crT σ sz zs (.sm l ver off n sz') K tk=ob (sz'=sz) (ob (off+n*sz≤ver) (clT (zax σ l) (fun cs r=>ob (cs.length=ver) (K (zaQ σ l (.cells (ovl cs off (List.replicate n zs).flatten) r)))) .mk)):=by unfold crT clT;rfl
theorem fp_nil (φ:AF) (σ σ':AS):farP φ σ σ' []=True:=rfl
theorem fp_cons (φ:AF) (σ σ':AS) (p:Opd) (r:List Opd):farP φ σ σ' (p::r)=(zlO σ σ' (ev φ p)∧farP φ σ σ' r):=rfl
theorem kv_p (σ σ':AS) (l v o:Nat):zlO σ σ' (.ptr l v o)=(zax σ' l=zax σ l):=rfl
theorem kv_ip (σ σ':AS) (sz:Nat) (es:List (List AV)) (i k:Nat):zlO σ σ' (.ip sz es i k)=True:=rfl
theorem kv_u (σ σ':AS):zlO σ σ' .u=True:=rfl
attribute [go_sem] op_mksr od_mksr op_callA od_callA op_clr od_clr cr_0 cr_m fp_nil fp_cons kv_p kv_ip kv_u true_and
end Go.Eng
