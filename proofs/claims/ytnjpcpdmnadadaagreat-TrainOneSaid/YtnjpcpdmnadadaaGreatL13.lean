/-
  A part of the engine that walks the functions' codes, and of the functions' contracts. Conditions: those that each theorem names.
-/
import Derived.Test.YtnjpcpdmnadadaaGreatL12
import Derived.IntWalk
import Derived.Laws.IdiomCopy
set_option linter.unusedSimpArgs false
set_option linter.unusedVariables false
set_option linter.unusedSectionVars false
namespace Go.Lev
open Go.Eng
set_option maxRecDepth 10000
set_option maxHeartbeats 8000000
variable {P:Program} {inv:Nat→Option Nat} {w0:World} {M:Nat→Prop}
theorem zoO (f:Nat→Option (List AV)):∀ xs ys:List AV,zbn f (xs++ys)=zbn f xs++zbn f ys
 |[],ys=>by simp only[List.nil_append,zbn]
 |x::xs,ys=>by simp only[List.cons_append,zbn,zoO f xs ys]
theorem sns_app (k:Nat) (σ:AS) (xs ys:List AV):zby k σ (xs++ys)=zby k σ xs++zby k σ ys:=zoO _ xs ys
def zeroS:List AV:=[.n 0,.sl 1 [],.n 0,.n 0,.n 0,.n 0,.n 0,.n 0]
theorem sns_zero (k:Nat) (σ:AS):zby k σ zeroT=zeroS:=by unfold zeroT;simp only[go_sem];rfl
attribute [go_sem] sns_app sns_zero
theorem del31_pc (hH:HasAll P inv) (l:List TrainD) (hl:l.length≤1000) (m:MoveD):PC P inv 271 [.sl 8 (l.map TrainD.c),.fn 264 [.ip 4 [m.c] 0 0]] (·=.n (zcN l m.tr)) :=
 zlU hH (p:=fun t=>decide (t.id=m.tr)) l (fun x _=>zmY hH m x) (by omega)
theorem zlI (hH:HasAll P inv) (hI:HasIds P inv) (p:Pln) (hp:Sm p) (s:State) (hs:SmS s) (l:List TrainD) (hl:l.length≤1000) (hls:∀ t∈l,t.secs.length≤1000) (hc:ckC p s l=0) (tr se ed:Int) :
  PC P inv 210 [.agg p.c,.agg s.c,.agg (wld l),.agg [.i .u8 5,.n tr,.n se,.n ed]] (·=if zcN l tr<0 then zcm 6 [] [] else if goneC p (nth l (zcN l tr).toNat)=0 then zcm 0 (l.eraseIdx (zcN l tr).toNat) [(nth (nth l (zcN l tr).toNat).secs 0,0)] else zcm 2 [] []):=by
 have c0:=zbD hH hI p hp s hs l hl hls
 have c1:=zdn hH l (by omega) hls
 have c2:=zdB hH l hl tr
 have hT:=((zbr p s l).1 hc).2
 have ho:=zaH ((zbr p s l).1 hc).1
 have hen:∀ x∈p.sections,x.ends.length≤3:=fun x hx=>(zbd ho.sec x hx).2.2.2.2
 rw[hc]at c0
 unfold wld at *
 rcases zaV l tr with ⟨e,_⟩|⟨k,hk7,e,hid⟩<;>rw[e]at c2 ⊢
 ·rw[if_pos (by omega)]
  unfold zcm wld
  clear hT ho hen
  refine PC.fn hH cd210 fun w0 M Q hM hE hQ hR=>?_;dsimp only[cd210,qm,ql,qf,qi,qb,qc,qp,qv,qN,qT,qF,qt]at hQ ⊢
  skip
  (repeat' first|refine zaa [0,1,2,3,4,5,6,7,8,9,10,11,12,14,15,18,28,44,48,51] fun K hK=>?_|(refine hK.go ?_;clear hK K)|with_reducible exact wT|refine wA ?_|(refine wB (fun h=>?_) (fun h=>?_)<;>first|exact wN h|subst (h:(_:Bool)=_)|skip)|(refine wQ ?_;clear hQ hR)|refine wC c0 ?_|refine wO c1 ?_|(refine AC.callK 100 (by omega) (by first|omega|exact wF|((refine no_implicit_lambda% (st ?_);try with_reducible exact wT);omega)) (zac (F:=cd226) (hH.has _ _ rfl) (Nat.le_of_ble_eq_true rfl) fun Q hQ hR=>?_);dsimp only[cd226,qm,ql,qf,qi,qb,qc,qp,qv,qN,qT,qF,qt]at hQ ⊢;try (refine no_implicit_lambda% (st ?_);try with_reducible exact wT))|(refine AC.callK 200 (by omega) (by first|omega|exact wF|((refine no_implicit_lambda% (st ?_);try with_reducible exact wT);omega)) (zac (F:=cd234) (hH.has _ _ rfl) (Nat.le_of_ble_eq_true rfl) fun Q hQ hR=>?_);dsimp only[cd234,qm,ql,qf,qi,qb,qc,qp,qv,qN,qT,qF,qt]at hQ ⊢;try (refine no_implicit_lambda% (st ?_);try with_reducible exact wT))|(refine AC.callK 300 (by omega) (by first|omega|exact wF|((refine no_implicit_lambda% (st ?_);try with_reducible exact wT);omega)) (zac (F:=cd252) (hH.has _ _ rfl) (Nat.le_of_ble_eq_true rfl) fun Q hQ hR=>?_);dsimp only[cd252,qm,ql,qf,qi,qb,qc,qp,qv,qN,qT,qF,qt]at hQ ⊢;try (refine no_implicit_lambda% (st ?_);try with_reducible exact wT))|refine wS c2 ?_|fail)
  all_goals first|rfl|(exfalso;contradiction)|trace_state
 ·rw[if_neg (by omega),Int.toNat_natCast]
  have hk8:=(zb9.1 (hT.may _ (zae hk7))).one
  have hup:=hT.up
  have c3:=zlE hH p.sections (nth (nth l k).secs 0) (nth l k).ed (Nat.le_trans hp.sec (by omega)) (fun x hx=>Nat.le_trans (hen x hx) (by omega))
  have c4:=del31_pc hH l hl ⟨5,tr,se,ed⟩
  rw[e]at c4
  have c5:∀ j,j<l.length→PC P inv 264 ([.agg (nth l j).c]++[.ip 4 [[.i .u8 5,.n tr,.n se,.n ed]] 0 0]) (·=.b (decide ((nth l j).id=tr))):=fun j _=>zmY hH ⟨5,tr,se,ed⟩ (nth l j)
  have c6:=zdX hH (nth (nth l k).secs 0) 0 (by omega)
  have hno:∀ j,k<j→j<l.length→¬(nth l j).id=tr:=fun j h1 h2 h3=>by
   have:=zp5 hup h1 h2
   omega
  clear hT ho hen hup
  unfold MoveD.c at c4
  unfold goneC nxJ
  generalize zbf p.sections (nth (nth l k).secs 0) (nth l k).ed=J at *
  have y1:=tg1 hk7
  have y3:=tg3 hk7
  have x0:=zfA hk8
  by_cases h1:1<(nth l k).secs.length∨¬J.2=0∨¬J.1.to=0
  ·rw[if_pos h1,if_neg (by decide)]
   unfold zcm wld
   by_cases a1:1<(nth l k).secs.length
   ·refine PC.fn hH cd210 fun w0 M Q hM hE hQ hR=>?_;dsimp only[cd210,qm,ql,qf,qi,qb,qc,qp,qv,qN,qT,qF,qt]at hQ ⊢
    skip
    (have hX:=zA @y1 (zA @y3 (zA @x0 @a1));(repeat' first|refine zaa [0,1,2,3,4,5,6,7,8,9,10,11,12,14,15,18,28,44,48,51] fun K hK=>?_|(refine hK.go ?_;clear hK K)|with_reducible exact wT|refine wA ?_|(refine wB (fun h=>?_) (fun h=>?_)<;>first|exact wN h|subst (h:(_:Bool)=_)|skip)|(refine wQ ?_;clear hQ hR)|refine wC c0 ?_|refine wO c1 ?_|(refine AC.callK 100 (by omega) (by first|omega|exact wF|((refine no_implicit_lambda% (st ?_);try with_reducible exact wT);omega)) (zac (F:=cd226) (hH.has _ _ rfl) (Nat.le_of_ble_eq_true rfl) fun Q hQ hR=>?_);dsimp only[cd226,qm,ql,qf,qi,qb,qc,qp,qv,qN,qT,qF,qt]at hQ ⊢;try (refine no_implicit_lambda% (st ?_);try with_reducible exact wT))|(refine AC.callK 200 (by omega) (by first|omega|exact wF|((refine no_implicit_lambda% (st ?_);try with_reducible exact wT);omega)) (zac (F:=cd234) (hH.has _ _ rfl) (Nat.le_of_ble_eq_true rfl) fun Q hQ hR=>?_);dsimp only[cd234,qm,ql,qf,qi,qb,qc,qp,qv,qN,qT,qF,qt]at hQ ⊢;try (refine no_implicit_lambda% (st ?_);try with_reducible exact wT))|(refine AC.callK 300 (by omega) (by first|omega|exact wF|((refine no_implicit_lambda% (st ?_);try with_reducible exact wT);omega)) (zac (F:=cd252) (hH.has _ _ rfl) (Nat.le_of_ble_eq_true rfl) fun Q hQ hR=>?_);dsimp only[cd252,qm,ql,qf,qi,qb,qc,qp,qv,qN,qT,qF,qt]at hQ ⊢;try (refine no_implicit_lambda% (st ?_);try with_reducible exact wT))|refine wS c2 ?_|refine wU c3 ?_|fail);all_goals clear hX)
    all_goals first|rfl|(exfalso;contradiction)|(exfalso;omega)|trace_state
   ·by_cases a2:J.2=0
    ·have a3:¬J.1.to=0:=by
      rcases h1 with h1|h1|h1
      ·exact absurd h1 a1
      ·exact absurd a2 h1
      ·exact h1
     refine PC.fn hH cd210 fun w0 M Q hM hE hQ hR=>?_;dsimp only[cd210,qm,ql,qf,qi,qb,qc,qp,qv,qN,qT,qF,qt]at hQ ⊢
     skip
     (have hX:=zA @y1 (zA @y3 (zA @x0 @a2));(repeat' first|refine zaa [0,1,2,3,4,5,6,7,8,9,10,11,12,14,15,18,28,44,48,51] fun K hK=>?_|(refine hK.go ?_;clear hK K)|with_reducible exact wT|refine wA ?_|(refine wB (fun h=>?_) (fun h=>?_)<;>first|exact wN h|subst (h:(_:Bool)=_)|skip)|(refine wQ ?_;clear hQ hR)|refine wC c0 ?_|refine wO c1 ?_|(refine AC.callK 100 (by omega) (by first|omega|exact wF|((refine no_implicit_lambda% (st ?_);try with_reducible exact wT);omega)) (zac (F:=cd226) (hH.has _ _ rfl) (Nat.le_of_ble_eq_true rfl) fun Q hQ hR=>?_);dsimp only[cd226,qm,ql,qf,qi,qb,qc,qp,qv,qN,qT,qF,qt]at hQ ⊢;try (refine no_implicit_lambda% (st ?_);try with_reducible exact wT))|(refine AC.callK 200 (by omega) (by first|omega|exact wF|((refine no_implicit_lambda% (st ?_);try with_reducible exact wT);omega)) (zac (F:=cd234) (hH.has _ _ rfl) (Nat.le_of_ble_eq_true rfl) fun Q hQ hR=>?_);dsimp only[cd234,qm,ql,qf,qi,qb,qc,qp,qv,qN,qT,qF,qt]at hQ ⊢;try (refine no_implicit_lambda% (st ?_);try with_reducible exact wT))|(refine AC.callK 300 (by omega) (by first|omega|exact wF|((refine no_implicit_lambda% (st ?_);try with_reducible exact wT);omega)) (zac (F:=cd252) (hH.has _ _ rfl) (Nat.le_of_ble_eq_true rfl) fun Q hQ hR=>?_);dsimp only[cd252,qm,ql,qf,qi,qb,qc,qp,qv,qN,qT,qF,qt]at hQ ⊢;try (refine no_implicit_lambda% (st ?_);try with_reducible exact wT))|refine wS c2 ?_|refine wU c3 ?_|fail);all_goals clear hX)
     all_goals first|rfl|(exfalso;contradiction)|(exfalso;omega)|trace_state
    ·refine PC.fn hH cd210 fun w0 M Q hM hE hQ hR=>?_;dsimp only[cd210,qm,ql,qf,qi,qb,qc,qp,qv,qN,qT,qF,qt]at hQ ⊢
     skip
     (have hX:=zA @y1 (zA @y3 @x0);(repeat' first|refine zaa [0,1,2,3,4,5,6,7,8,9,10,11,12,14,15,18,28,44,48,51] fun K hK=>?_|(refine hK.go ?_;clear hK K)|with_reducible exact wT|refine wA ?_|(refine wB (fun h=>?_) (fun h=>?_)<;>first|exact wN h|subst (h:(_:Bool)=_)|skip)|(refine wQ ?_;clear hQ hR)|refine wC c0 ?_|refine wO c1 ?_|(refine AC.callK 100 (by omega) (by first|omega|exact wF|((refine no_implicit_lambda% (st ?_);try with_reducible exact wT);omega)) (zac (F:=cd226) (hH.has _ _ rfl) (Nat.le_of_ble_eq_true rfl) fun Q hQ hR=>?_);dsimp only[cd226,qm,ql,qf,qi,qb,qc,qp,qv,qN,qT,qF,qt]at hQ ⊢;try (refine no_implicit_lambda% (st ?_);try with_reducible exact wT))|(refine AC.callK 200 (by omega) (by first|omega|exact wF|((refine no_implicit_lambda% (st ?_);try with_reducible exact wT);omega)) (zac (F:=cd234) (hH.has _ _ rfl) (Nat.le_of_ble_eq_true rfl) fun Q hQ hR=>?_);dsimp only[cd234,qm,ql,qf,qi,qb,qc,qp,qv,qN,qT,qF,qt]at hQ ⊢;try (refine no_implicit_lambda% (st ?_);try with_reducible exact wT))|(refine AC.callK 300 (by omega) (by first|omega|exact wF|((refine no_implicit_lambda% (st ?_);try with_reducible exact wT);omega)) (zac (F:=cd252) (hH.has _ _ rfl) (Nat.le_of_ble_eq_true rfl) fun Q hQ hR=>?_);dsimp only[cd252,qm,ql,qf,qi,qb,qc,qp,qv,qN,qT,qF,qt]at hQ ⊢;try (refine no_implicit_lambda% (st ?_);try with_reducible exact wT))|refine wS c2 ?_|refine wU c3 ?_|fail);all_goals clear hX)
     all_goals first|rfl|(exfalso;contradiction)|(exfalso;omega)|trace_state
  ·rw[if_neg h1,if_pos rfl]
   unfold zcm wld
   have a1:¬1<(nth l k).secs.length:=fun h=>h1 (.inl h)
   have a2:J.2=0:=Decidable.byContradiction fun h=>h1 (.inr (.inl h))
   have a3:J.1.to=0:=Decidable.byContradiction fun h=>h1 (.inr (.inr h))
   clear h1
   refine PC.fn hH cd210 fun w0 M Q hM hE hQ hR=>?_;dsimp only[cd210,qm,ql,qf,qi,qb,qc,qp,qv,qN,qT,qF,qt]at hQ ⊢
   skip
   (have hX:=zA @y1 (zA @y3 (zA @x0 (zA @a2 @a3)));(repeat' first|refine zaa [0,1,2,3,4,5,6,7,8,9,10,11,12,14,15,18,19,28,29,44,48,51] fun K hK=>?_|(refine hK.go ?_;clear hK K)|with_reducible exact wT|refine wA ?_|(refine wB (fun h=>?_) (fun h=>?_)<;>first|exact wN h|subst (h:(_:Bool)=_)|skip)|(refine wQ ?_;clear hQ hR)|refine wC c0 ?_|refine wO c1 ?_|(refine AC.callK 100 (by omega) (by first|omega|exact wF|((refine no_implicit_lambda% (st ?_);try with_reducible exact wT);omega)) (zac (F:=cd226) (hH.has _ _ rfl) (Nat.le_of_ble_eq_true rfl) fun Q hQ hR=>?_);dsimp only[cd226,qm,ql,qf,qi,qb,qc,qp,qv,qN,qT,qF,qt]at hQ ⊢;try (refine no_implicit_lambda% (st ?_);try with_reducible exact wT))|(refine AC.callK 200 (by omega) (by first|omega|exact wF|((refine no_implicit_lambda% (st ?_);try with_reducible exact wT);omega)) (zac (F:=cd234) (hH.has _ _ rfl) (Nat.le_of_ble_eq_true rfl) fun Q hQ hR=>?_);dsimp only[cd234,qm,ql,qf,qi,qb,qc,qp,qv,qN,qT,qF,qt]at hQ ⊢;try (refine no_implicit_lambda% (st ?_);try with_reducible exact wT))|(refine AC.callK 300 (by omega) (by first|omega|exact wF|((refine no_implicit_lambda% (st ?_);try with_reducible exact wT);omega)) (zac (F:=cd252) (hH.has _ _ rfl) (Nat.le_of_ble_eq_true rfl) fun Q hQ hR=>?_);dsimp only[cd252,qm,ql,qf,qi,qb,qc,qp,qv,qN,qT,qF,qt]at hQ ⊢;try (refine no_implicit_lambda% (st ?_);try with_reducible exact wT))|(refine AC.callK 400 (by omega) (by first|omega|exact wF|((refine no_implicit_lambda% (st ?_);try with_reducible exact wT);omega)) (zac (F:=cd263) (hH.has _ _ rfl) (Nat.le_of_ble_eq_true rfl) fun Q hQ hR=>?_);dsimp only[cd263,qm,ql,qf,qi,qb,qc,qp,qv,qN,qT,qF,qt]at hQ ⊢;try (refine no_implicit_lambda% (st ?_);try with_reducible exact wT))|refine wS c2 ?_|refine wS c4 ?_|refine wU c3 ?_|fail);all_goals clear hX)
   all_goals first|(exfalso;contradiction)|(exfalso;omega)|skip
   skip
   refine zaz (ι:=Nat) [0,1,4,5,6] (fun z=>[(5,.n ((z:Int)-1)),(6,.n z)]) (fun z=>[(104,.cells ((zjV l k z).map TrainD.c).flatten (decide (0<l.length)))]) (fun z=>z) (l.length) (fun z=>(k<z)) (k+1) ?_ (hi:=by (try dsimp only);omega) (h2:=by (try dsimp only);rw[zn6 hk7];refine wD ?_;first|with_reducible exact wT|omega|(simp;done));rintro j ⟨hk,hj⟩;(try dsimp only at hk hj ⊢);rcases Nat.lt_or_ge j l.length with hlt|hge
   ·have d1:=zgT hk7 hj (by omega)
    have d2:=delL_at hk7 hj hlt
    have d3:=zqA hk7 hj hlt
    have d4:=c5 j hlt
    have d5:=hno j hj hlt
    have d6:((j:Int)-1).toNat=j-1:=by omega
    have d7:=zk7 (l:=zjV l k j) (k:=j-1) (by omega) (nth l j)
    rw[d3]at d7
    generalize zjV l k j=D at *
    (have hX:=zA @d1 (zA @d2 (zA @d6 @d7));(repeat' first|refine zaa [0,1,2,3,4,5,6,7,8,9,10,11,12,14,15,18,19,28,29,44,48,51] fun K hK=>?_|(refine hK.go ?_;clear hK K)|with_reducible exact wT|refine wA ?_|(refine wB (fun h=>?_) (fun h=>?_)<;>first|exact wN h|subst (h:(_:Bool)=_)|skip)|(refine wQ ?_;clear hQ hR)|refine wS d4 ?_|fail);all_goals clear hX)
    exact ⟨j+1,by omega,⟨by omega,by omega⟩,⟨by omega,by omega⟩,rfl⟩
   ·have hj2:j=l.length:=by omega
    subst hj2
    have d1:=zgT hk7 hj (Nat.le_refl _)
    have d6:((l.length:Int)-1).toNat=l.length-1:=by omega
    have d7:=trn_clr hk7 rfl
    have d8:=ziL zeroS (l.eraseIdx k)
    rw[List.length_eraseIdx_of_lt hk7]at d8
    have d9:(l.length-(l.length-1))=1:=by omega
    have d10:=List.length_eraseIdx_of_lt hk7
    have d11:zeroT.length=8:=rfl
    generalize zjV l k l.length=D at *
    have d12:((l.length-1)*8+8=l.length*8∧(l.length-1)*8≤l.length*8)=True:=by simp only[eq_iff_iff,iff_true];omega
    (have hX:=zA @d1 (zA @d6 (zA @d7 (zA @d8 (zA @d9 (zA @d10 (zA @d11 @d12))))));(repeat' first|refine zaa [0,1,2,3,4,5,6,7,8,9,10,11,12,14,15,18,19,28,29,44,48,51] fun K hK=>?_|(refine hK.go ?_;clear hK K)|with_reducible exact wT|refine wA ?_|(refine wB (fun h=>?_) (fun h=>?_)<;>first|exact wN h|subst (h:(_:Bool)=_)|skip)|(refine wQ ?_;clear hQ hR)|refine wC c6 ?_|fail);all_goals clear hX)
    all_goals first|rfl|trace_state
end Go.Lev
namespace Go.Lev
open Go.Eng
set_option maxRecDepth 10000
set_option maxHeartbeats 8000000
variable {P:Program} {inv:Nat→Option Nat} {w0:World} {M:Nat→Prop}
theorem bsT_le (l:List TrainD) (n:Int):∀ (m i j:Nat),j-i≤m→i≤j→i≤bsT l n i j∧bsT l n i j≤j:=by
 intro m
 induction m with
 |zero=>intro i j h hij;unfold bsT;rw[dif_neg (by omega)];omega
 |succ m ih =>
  intro i j h hij
  unfold bsT
  split
  ·split
   ·have:=ih ((i+j) / 2+1) j (by omega) (by omega);omega
   ·have:=ih i ((i+j) / 2) (by omega) (by omega);omega
  ·omega
def fndT (l:List TrainD) (n:Int):Bool:=decide (bsT l n 0 l.length<l.length)&&decide ((nth l (bsT l n 0 l.length)).id-n=0)
theorem bsT_pc (hH:HasAll P inv) (l:List TrainD) (n:Int) (hl:l.length≤1000000) (hid:∀ t∈l,0≤t.id∧t.id≤1000) (hn9:0≤n∧n≤1000):PC P inv 256 [.sl 8 (l.map TrainD.c),.n n,.fn 257 []] (·=.tup [.n (bsT l n 0 l.length),.b (fndT l n)]):=by
 have hb:=bsT_le l n l.length 0 l.length (by omega) (by omega)
 have cc:∀ k,k<l.length→PC P inv 257 [.agg (nth l k).c,.n n] (·=.n ((nth l k).id-n)):=fun k hk=>zqE hH (nth l k) n (hid _ (zae hk)) hn9
 refine PC.fn hH cd256 fun w0 M Q hM hE hQ hR=>?_;dsimp only[cd256,qm,ql,qf,qi,qb,qc,qp,qv,qN,qT,qF,qt]at hQ ⊢
 (repeat' first|refine zaa [0,1,2,6,7,8,9,10,11,17,31] fun K hK=>?_|(refine hK.go ?_;clear hK K)|with_reducible exact wT|refine wA ?_|(refine wB (fun h=>?_) (fun h=>?_)<;>first|exact wN h|subst (h:(_:Bool)=_)|skip)|(refine wQ ?_;clear hQ hR hE hM)|fail)
 refine zbP (ι:=Nat×Nat) (fun k=>[(0,.sl 8 (l.map TrainD.c)),(1,.n n),(2,.fn 257 []),(8,.n l.length),(9,.n k.1),(10,.n k.2)]) (fun _=>[]) (fun k=>k.1≤k.2∧k.2≤l.length∧bsT l n k.1 k.2=bsT l n 0 l.length) (fun k=>k.2-k.1) (0,l.length) ⟨by omega,by omega,rfl⟩ ?_ ?_ ?_
 ·(refine no_implicit_lambda% (st ?_);try with_reducible exact wT)
  rfl
 ·(refine no_implicit_lambda% (st ?_);try with_reducible exact wT)
 rintro ⟨i,j⟩ ⟨h1,h2,hg⟩
 dsimp only at h1 h2 hg ⊢
 rcases Nat.lt_or_ge i j with hlt|hge
 ·rw[znh hlt]at hg
  have e1:(((i:Int)+j) / 2).toNat=(i+j) / 2:=by omega
  have d1:=cc ((i+j) / 2) (by omega)
  (have hX:=@e1;(repeat' first|refine zaa [0,1,2,6,7,8,9,10,11,17,31] fun K hK=>?_|(refine hK.go ?_;clear hK K)|with_reducible exact wT|refine wA ?_|(refine wB (fun h=>?_) (fun h=>?_)<;>first|exact wN h|subst (h:(_:Bool)=_)|skip)|(refine wQ ?_;clear hQ hR hE hM)|refine wC d1 ?_|fail);all_goals clear hX)
  ·rw[if_pos h]at hg
   exact ⟨((i+j) / 2+1,j),by dsimp only;omega,⟨by dsimp only;omega,h2,hg⟩,(by (try dsimp only);(first|omega|(simp;done)|(simp;omega)))⟩
  ·rw[if_neg (by omega)]at hg
   exact ⟨(i,(i+j) / 2),by dsimp only;omega,⟨by dsimp only;omega,by dsimp only;omega,hg⟩,(by (try dsimp only);(first|omega|(simp;done)|(simp;omega)))⟩
 ·obtain rfl:i=j:=by omega
  rw[zjL]at hg
  have hF:fndT l n=(decide (i<l.length)&&decide ((nth l i).id-n=0)):=by unfold fndT;rw[←hg]
  by_cases h7:i<l.length
  ·have d1:=cc i h7
   (repeat' first|refine zaa [0,1,2,6,7,8,9,10,11,17,31] fun K hK=>?_|(refine hK.go ?_;clear hK K)|with_reducible exact wT|refine wA ?_|(refine wB (fun h=>?_) (fun h=>?_)<;>first|exact wN h|subst (h:(_:Bool)=_)|skip)|(refine wQ ?_;clear hQ hR hE hM)|refine wC d1 ?_|fail)
   all_goals first|(rw[hF,←hg];simp[h7];done)|(exfalso;contradiction)|trace_state
  ·(repeat' first|refine zaa [0,1,2,6,7,8,9,10,11,17,31] fun K hK=>?_|(refine hK.go ?_;clear hK K)|with_reducible exact wT|refine wA ?_|(refine wB (fun h=>?_) (fun h=>?_)<;>first|exact wN h|subst (h:(_:Bool)=_)|skip)|(refine wQ ?_;clear hQ hR hE hM)|fail)
   all_goals first|(rw[hF,←hg];simp[h7];done)|(exfalso;contradiction)|trace_state
end Go.Lev
namespace Go.Lev
open Go.Eng
abbrev MvR:=Int×List TrainD×List (Int×Int)
def stdT (l:List TrainD) (n:Int):Bool:=l.any fun t=>t.secs.any fun x=>decide (x=n)
def putR (p:Pln) (s:State) (l:List TrainD) (m:MoveD):MvR :=
 if 8≤l.length then (9,[],[]) else if m.tr<1∨99<m.tr∨0≤zcN l m.tr then (2,[],[]) else
 if (zaw p.sections m.sec).2=0 then
  (if 0<(zaw p.sections m.sec).1.pt∨m.ed<0∨1<m.ed then (2,[],[]) else
   if ¬nth (zaW p s).1 (zaw p.sections m.sec).1.id.toNat=0∨stdT l (zaw p.sections m.sec).1.id=true∨¬zdj s (zaw p.sections m.sec).1.id=0 then (182,[],[]) else
   (0,zge l (zop m (zaw p.sections m.sec).1),[((zaw p.sections m.sec).1.id,1)]))
 else ((zaw p.sections m.sec).2,[],[])
def zig (p:Pln) (s:State) (l:List TrainD) (k:Nat) (t:TrainD):MvR :=
 if 4≤t.secs.length then (9,[],[]) else if (goT p s t).2.2=false∨¬(nxJ p t).2=0∨(nxJ p t).1.to=0 then (310,[],[]) else
 if (nxS p t).2=0 then (if (nxE p s t).2=0 then (0,l.set k (zgF p s t),[((nxS p t).1.id,1)]) else (310,[],[])) else ((nxS p t).2,[],[])
def zoG (l:List TrainD) (k:Nat) (t:TrainD):MvR:=if t.secs.length=1 then (2,[],[]) else (0,l.set k (znu t),[(nth t.secs (t.secs.length-1),0)])
def ziX (l:List TrainD) (k:Nat) (t:TrainD):MvR:=if 1<t.secs.length then (2,[],[]) else (0,l.set k (zbk t),[])
def zl0 (p:Pln) (l:List TrainD) (k:Nat) (t:TrainD):MvR:=if goneC p t=0 then (0,l.eraseIdx k,[(nth t.secs 0,0)]) else (2,[],[])
def ze8 (p:Pln) (s:State) (l:List TrainD) (n:Int) (f:Nat→TrainD→MvR):MvR:=if zcN l n<0 then (6,[],[]) else f (zcN l n).toNat (nth l (zcN l n).toNat)
def mvR (p:Pln) (s:State) (l:List TrainD) (m:MoveD):MvR :=
 if ckC p s l=0 then
  (if m.kind=1 then putR p s l m else if m.kind=2 then ze8 p s l m.tr (zig p s l) else if m.kind=3 then ze8 p s l m.tr (zoG l) else if m.kind=4 then ze8 p s l m.tr (ziX l) else if m.kind=5 then ze8 p s l m.tr (zl0 p l) else (2,[],[]))
 else (ckC p s l,[],[])
theorem mvR_no (p:Pln) (s:State) (l:List TrainD) (m:MoveD) (h:¬(mvR p s l m).1=0):(mvR p s l m).2=([],[]):=by
 revert h
 unfold mvR
 split
 ·split
  ·unfold putR;repeat' split
   all_goals first|(intro _;rfl)|(intro h;exact absurd rfl h)
  ·split
   ·unfold ze8 zig;repeat' split
    all_goals first|(intro _;rfl)|(intro h;exact absurd rfl h)
   ·split
    ·unfold ze8 zoG;repeat' split
     all_goals first|(intro _;rfl)|(intro h;exact absurd rfl h)
    ·split
     ·unfold ze8 ziX;repeat' split
      all_goals first|(intro _;rfl)|(intro h;exact absurd rfl h)
     ·split
      ·unfold ze8 zl0;repeat' split
       all_goals first|(intro _;rfl)|(intro h;exact absurd rfl h)
      ·intro _;rfl
 ·intro _;rfl
end Go.Lev
namespace Go.Lev
open Go.Eng
set_option maxRecDepth 10000
set_option maxHeartbeats 8000000
variable {P:Program} {inv:Nat→Option Nat} {w0:World} {M:Nat→Prop}
def putG (p:Pln) (s:State) (l:List TrainD) (m:MoveD) (S:Section):AV :=
 cond (decide (0<S.pt)) (zcm 2 [] []) (cond (decide (m.ed<0)) (zcm 2 [] []) (cond (decide (1<m.ed)) (zcm 2 [] [])
  (cond (!decide (nth (zaW p s).1 S.id.toNat=0)) (zcm 182 [] []) (cond (stdT l S.id) (zcm 182 [] []) (cond (!decide (zdj s S.id=0)) (zcm 182 [] [])
   (zcm 0 (zge l (zop m S)) [(S.id,1)]))))))
def putF (p:Pln) (s:State) (l:List TrainD) (m:MoveD):AV :=
 cond (decide ((8:Int)≤(l.length:Int))) (zcm 9 [] []) (cond (decide (m.tr<1)) (zcm 2 [] []) (cond (decide (99<m.tr)) (zcm 2 [] []) (cond (decide (zcN l m.tr<0))
  (cond (!decide ((zaw p.sections m.sec).2=0)) (zcm (zaw p.sections m.sec).2 [] []) (putG p s l m (zaw p.sections m.sec).1)) (zcm 2 [] []))))
theorem zg5 (hH:HasAll P inv) (l:List TrainD) (hl:l.length≤1000) (hls:∀ t∈l,t.secs.length≤1000) (S:Section):PC P inv 253 [.sl 8 (l.map TrainD.c),.fn 254 [.ip 3 [S.c] 0 0]] (·=.b (stdT l S.id)) :=
 any_trn hH (p:=fun t=>t.secs.any fun x=>decide (x=S.id)) l (fun x hx=>is254_pc hH S x (hls x hx)) (by omega)
theorem ins_row {l:List TrainD} (hup:(l.map (·.id)).Pairwise (· < ·)) (t:TrainD):((l.map TrainD.c).flatten.take (bsT l t.id 0 l.length*8)++t.c++(l.map TrainD.c).flatten.drop (bsT l t.id 0 l.length*8))=((zge l t).map TrainD.c).flatten:=by
 obtain ⟨h1,h2⟩:=zpW hup t
 rw[h2,List.map_append,List.map_cons,List.flatten_append,List.flatten_cons,zfF (c:=TrainD.c) l _ h1]
 generalize bsT l t.id 0 l.length=j at *
 have h3:(l.map TrainD.c).flatten.take (j*8)=((l.take j).map TrainD.c).flatten:=by
  have h:=zbm (c:=TrainD.c) (l.take j)
  rw[List.length_take,Nat.min_eq_left h1]at h
  have e:(l.map TrainD.c).flatten=((l.take j).map TrainD.c).flatten++((l.drop j).map TrainD.c).flatten:=by rw[←List.flatten_append,←List.map_append,List.take_append_drop]
  rw[e]
  exact List.take_left' h
 rw[h3,List.append_assoc]
theorem ins_len {l:List TrainD} (hup:(l.map (·.id)).Pairwise (· < ·)) (t:TrainD):(zge l t).length=l.length+1:=by
 obtain ⟨h1,h2⟩:=zpW hup t
 rw[h2,List.length_append,List.length_cons,List.length_take,List.length_drop]
 omega
theorem znQ (hH:HasAll P inv) (hI:HasIds P inv) (hIn:HasIns P inv) (p:Pln) (hp:Sm p) (s:State) (hs:SmS s) (l:List TrainD) (hl:l.length≤1000) (hls:∀ t∈l,t.secs.length≤1000) (hc:ckC p s l=0) (tr se ed:Int) :
  PC P inv 210 [.agg p.c,.agg s.c,.agg (wld l),.agg [.i .u8 1,.n tr,.n se,.n ed]] (·=putF p s l ⟨1,tr,se,ed⟩):=by
 have c0:=zbD hH hI p hp s hs l hl hls
 have c1:=zdn hH l (by omega) hls
 have c2:=zdB hH l hl tr
 have hst:=((zbr p s l).1 hc).1
 have hT:=((zbr p s l).1 hc).2
 have ho:=zaH hst
 have hen:∀ x∈p.sections,x.ends.length≤3:=fun x hx=>(zbd ho.sec x hx).2.2.2.2
 have c3:=zez hH p.sections se (Nat.le_trans hp.sec (by omega)) (fun x hx=>Nat.le_trans (hen x hx) (by omega))
 rw[hc]at c0
 have hup:=hT.up
 have hid:∀ t∈l,0≤t.id∧t.id≤1000:=fun t ht=>by have:=hT.id t ht;omega
 obtain ⟨X,hF⟩:∃ X,putF p s l ⟨1,tr,se,ed⟩=X:=⟨_,rfl⟩
 rw[hF]
 unfold putF putG zcm at hF
 dsimp only at hF
 unfold wld at *
 have hat:zcN l tr<l.length:=by
  rcases zaV l tr with ⟨e,_⟩|⟨k,hk,e,_⟩<;>rw[e]<;>omega
 by_cases hf:(zaw p.sections se).2=0
 ·have hm:=zkh hf
  have hsm:zlQ p (zaw p.sections se).1.id=true:=List.any_eq_true.2 ⟨_,hm.1,by simp⟩
  have c4:=zkz hH hI p hp s hs (zaw p.sections se).1.id
  have c5:=zg5 hH l hl hls (zaw p.sections se).1
  have c6:=zgd hH p s hs hst (zaw p.sections se).1.id
  have c8:=zdX hH (zaw p.sections se).1.id 1 (by omega)
  unfold zhH at c4
  rw[if_pos hst,if_pos hsm]at c4
  unfold stn at c6
  have hz:decide ((zaw p.sections se).2=0)=true:=decide_eq_true hf
  rw[hz]at hF
  have yi:((l.map TrainD.c).flatten.take (bsT l tr 0 l.length*8)++[.n tr,.sl 1 [[.n (zaw p.sections se).1.id]],.n (1-ed),.n ed,.n 0,.n 0,.n 0,.n 0]++(l.map TrainD.c).flatten.drop (bsT l tr 0 l.length*8))=_:=ins_row hup (zop ⟨1,tr,se,ed⟩ (zaw p.sections se).1)
  have hD:=ins_len hup (zop ⟨1,tr,se,ed⟩ (zaw p.sections se).1)
  generalize zge l (zop ⟨1,tr,se,ed⟩ (zaw p.sections se).1)=D at *
  clear hT hst ho hen hsm hm
  generalize (zaw p.sections se).1=S at *
  generalize nth (zaW p s).1 S.id.toNat=G at *
  generalize stdT l S.id=sd at *
  have hcl:(l.map TrainD.c).flatten.length=l.length*8:=zbm (c:=TrainD.c) l
  have hq:=(bsT_le l tr l.length 0 l.length (by omega) (by omega)).2
  by_cases htr:1≤tr∧tr≤99
  ·have c7:=bsT_pc hH l tr (by omega) hid (by omega)
   clear hid hup
   refine PC.fn hH cd210 fun w0 M Q hM hE hQ hR=>?_;dsimp only[cd210,qm,ql,qf,qi,qb,qc,qp,qv,qN,qT,qF,qt]at hQ ⊢
   skip
   skip
   (have hX:=zA @hf (zA @yi @hD);(repeat' first|refine zaa [0,1,2,3,4,5,6,7,8,9,10,11,12,14,18,28,33,44,47,48,61,75,101,103,112,133,134] fun K hK=>?_|(refine hK.go ?_;clear hK K)|with_reducible exact wT|refine wA ?_|(refine wE (fun h0 h=>?_) (fun h0 h=>?_)<;>first|exact wN h|((try replace hF:=wX hF);clear h0;first|exact hF.elim|((try subst (h:(_:Bool)=_));try replace hF:=wX hF)))|(refine wQ ?_;clear hQ hR)|refine wC c0 ?_|refine wO c1 ?_|(refine AC.callK 100 (by omega) (by first|omega|exact wF|((refine no_implicit_lambda% (st ?_);try with_reducible exact wT);omega)) (zac (F:=cd226) (hH.has _ _ rfl) (Nat.le_of_ble_eq_true rfl) fun Q hQ hR=>?_);dsimp only[cd226,qm,ql,qf,qi,qb,qc,qp,qv,qN,qT,qF,qt]at hQ ⊢;try (refine no_implicit_lambda% (st ?_);try with_reducible exact wT))|(refine AC.callK 200 (by omega) (by first|omega|exact wF|((refine no_implicit_lambda% (st ?_);try with_reducible exact wT);omega)) (zac (F:=cd230) (hH.has _ _ rfl) (Nat.le_of_ble_eq_true rfl) fun Q hQ hR=>?_);dsimp only[cd230,qm,ql,qf,qi,qb,qc,qp,qv,qN,qT,qF,qt]at hQ ⊢;try (refine no_implicit_lambda% (st ?_);try with_reducible exact wT))|(refine AC.callK 300 (by omega) (by first|omega|exact wF|((refine no_implicit_lambda% (st ?_);try with_reducible exact wT);omega)) (zac (F:=cd252) (hH.has _ _ rfl) (Nat.le_of_ble_eq_true rfl) fun Q hQ hR=>?_);dsimp only[cd252,qm,ql,qf,qi,qb,qc,qp,qv,qN,qT,qF,qt]at hQ ⊢;try (refine no_implicit_lambda% (st ?_);try with_reducible exact wT))|refine wS c2 ?_|refine wU c3 ?_|refine wC c4 ?_|refine wS c5 ?_|refine wC c6 ?_|refine wS c7 ?_|refine wC c8 ?_|(refine zb1 500 ((zpV (n:=l.length) (i:=bsT l tr 0 l.length) hIn.trn (by omega) rfl rfl (by decide) hcl rfl rfl hq (by omega))) (by omega) (by first|omega|exact wF|((refine no_implicit_lambda% (st ?_);try with_reducible exact wT);omega)) ?_;try (refine no_implicit_lambda% (st ?_);try with_reducible exact wT))|fail);all_goals clear hX)
   all_goals first|exact hF|(rw[←hF];exact congrArg (fun z=>AV.tup [AV.agg [AV.sl 8 z],_,_]) (zfL hD))|(exfalso;contradiction)|(exfalso;omega)|trace_state
  ·clear hid hup
   refine PC.fn hH cd210 fun w0 M Q hM hE hQ hR=>?_;dsimp only[cd210,qm,ql,qf,qi,qb,qc,qp,qv,qN,qT,qF,qt]at hQ ⊢
   skip
   skip
   (have hX:=@hf;(repeat' first|refine zaa [0,1,2,3,4,5,6,7,8,9,10,11,12,14,18,28,33,44,47,48,61,75,101,103,112,133,134] fun K hK=>?_|(refine hK.go ?_;clear hK K)|with_reducible exact wT|refine wA ?_|(refine wE (fun h0 h=>?_) (fun h0 h=>?_)<;>first|exact wN h|((try replace hF:=wX hF);clear h0;first|exact hF.elim|((try subst (h:(_:Bool)=_));try replace hF:=wX hF)))|(refine wQ ?_;clear hQ hR)|refine wC c0 ?_|refine wO c1 ?_|(refine AC.callK 100 (by omega) (by first|omega|exact wF|((refine no_implicit_lambda% (st ?_);try with_reducible exact wT);omega)) (zac (F:=cd226) (hH.has _ _ rfl) (Nat.le_of_ble_eq_true rfl) fun Q hQ hR=>?_);dsimp only[cd226,qm,ql,qf,qi,qb,qc,qp,qv,qN,qT,qF,qt]at hQ ⊢;try (refine no_implicit_lambda% (st ?_);try with_reducible exact wT))|(refine AC.callK 200 (by omega) (by first|omega|exact wF|((refine no_implicit_lambda% (st ?_);try with_reducible exact wT);omega)) (zac (F:=cd230) (hH.has _ _ rfl) (Nat.le_of_ble_eq_true rfl) fun Q hQ hR=>?_);dsimp only[cd230,qm,ql,qf,qi,qb,qc,qp,qv,qN,qT,qF,qt]at hQ ⊢;try (refine no_implicit_lambda% (st ?_);try with_reducible exact wT))|(refine AC.callK 300 (by omega) (by first|omega|exact wF|((refine no_implicit_lambda% (st ?_);try with_reducible exact wT);omega)) (zac (F:=cd252) (hH.has _ _ rfl) (Nat.le_of_ble_eq_true rfl) fun Q hQ hR=>?_);dsimp only[cd252,qm,ql,qf,qi,qb,qc,qp,qv,qN,qT,qF,qt]at hQ ⊢;try (refine no_implicit_lambda% (st ?_);try with_reducible exact wT))|refine wS c2 ?_|fail);all_goals clear hX)
   all_goals first|exact hF|(exfalso;contradiction)|(exfalso;omega)|trace_state
 ·have hz:decide ((zaw p.sections se).2=0)=false:=decide_eq_false hf
  rw[hz]at hF
  clear hT hst ho hen hup hid
  generalize zaw p.sections se=S at *
  refine PC.fn hH cd210 fun w0 M Q hM hE hQ hR=>?_;dsimp only[cd210,qm,ql,qf,qi,qb,qc,qp,qv,qN,qT,qF,qt]at hQ ⊢
  skip
  skip
  (repeat' first|refine zaa [0,1,2,3,4,5,6,7,8,9,10,11,12,14,18,28,33,44,47,48,61,75,101,103,112,133,134] fun K hK=>?_|(refine hK.go ?_;clear hK K)|with_reducible exact wT|refine wA ?_|(refine wE (fun h0 h=>?_) (fun h0 h=>?_)<;>first|exact wN h|((try replace hF:=wX hF);clear h0;first|exact hF.elim|((try subst (h:(_:Bool)=_));try replace hF:=wX hF)))|(refine wQ ?_;clear hQ hR)|refine wC c0 ?_|refine wO c1 ?_|(refine AC.callK 100 (by omega) (by first|omega|exact wF|((refine no_implicit_lambda% (st ?_);try with_reducible exact wT);omega)) (zac (F:=cd226) (hH.has _ _ rfl) (Nat.le_of_ble_eq_true rfl) fun Q hQ hR=>?_);dsimp only[cd226,qm,ql,qf,qi,qb,qc,qp,qv,qN,qT,qF,qt]at hQ ⊢;try (refine no_implicit_lambda% (st ?_);try with_reducible exact wT))|(refine AC.callK 200 (by omega) (by first|omega|exact wF|((refine no_implicit_lambda% (st ?_);try with_reducible exact wT);omega)) (zac (F:=cd230) (hH.has _ _ rfl) (Nat.le_of_ble_eq_true rfl) fun Q hQ hR=>?_);dsimp only[cd230,qm,ql,qf,qi,qb,qc,qp,qv,qN,qT,qF,qt]at hQ ⊢;try (refine no_implicit_lambda% (st ?_);try with_reducible exact wT))|(refine AC.callK 300 (by omega) (by first|omega|exact wF|((refine no_implicit_lambda% (st ?_);try with_reducible exact wT);omega)) (zac (F:=cd252) (hH.has _ _ rfl) (Nat.le_of_ble_eq_true rfl) fun Q hQ hR=>?_);dsimp only[cd252,qm,ql,qf,qi,qb,qc,qp,qv,qN,qT,qF,qt]at hQ ⊢;try (refine no_implicit_lambda% (st ?_);try with_reducible exact wT))|refine wS c2 ?_|refine wU c3 ?_|fail)
  all_goals first|exact hF|(exfalso;contradiction)|(exfalso;omega)|trace_state
end Go.Lev
namespace Go.Lev
open Go.Eng
set_option maxRecDepth 10000
set_option maxHeartbeats 8000000
variable {P:Program} {inv:Nat→Option Nat} {w0:World} {M:Nat→Prop}
def zp6 (p:Pln) (s:State) (l:List TrainD) (k:Nat) (t:TrainD):AV :=
 cond (decide ((4:Int)≤(t.secs.length:Int))) (zcm 9 [] []) (cond (!(goT p s t).2.2) (zcm 310 [] []) (cond (!decide ((nxJ p t).2=0)) (zcm 310 [] []) (cond (decide ((nxJ p t).1.to=0)) (zcm 310 [] [])
  (cond (!decide ((nxS p t).2=0)) (zcm (nxS p t).2 [] []) (cond (!decide ((nxE p s t).2=0)) (zcm 310 [] []) (zcm 0 (l.set k (zgF p s t)) [((nxS p t).1.id,1)]))))))
theorem chunks1 (x:Int) (a:List Int):zbv 1 (a.length+1) (AV.i .i64 x::(a.map zck).flatten)=(x::a).map zck:=by
 have:=za6 (c:=zck) (x::a)
 simpa only[List.map_cons,List.flatten_cons,List.length_cons,zck,List.singleton_append] using this
theorem zlH (hH:HasAll P inv) (hI:HasIds P inv) (hIn:HasIns P inv) (p:Pln) (hp:Sm p) (s:State) (hs:SmS s) (l:List TrainD) (hl:l.length≤1000) (hls:∀ t∈l,t.secs.length≤1000) (hc:ckC p s l=0) (tr se ed:Int) :
  PC P inv 210 [.agg p.c,.agg s.c,.agg (wld l),.agg [.i .u8 2,.n tr,.n se,.n ed]] (·=if zcN l tr<0 then zcm 6 [] [] else zp6 p s l (zcN l tr).toNat (nth l (zcN l tr).toNat)):=by
 have c0:=zbD hH hI p hp s hs l hl hls
 have c2:=zdB hH l hl tr
 have hst:=((zbr p s l).1 hc).1
 have hT:=((zbr p s l).1 hc).2
 have ho:=zaH hst
 have hen:∀ x∈p.sections,x.ends.length≤3:=fun x hx=>(zbd ho.sec x hx).2.2.2.2
 rw[hc]at c0
 rcases zaV l tr with ⟨e,_⟩|⟨k,hk7,e,hid⟩<;>rw[e]at c2 ⊢
 ·have c1:=zdn hH l (by omega) hls
  rw[if_pos (by omega)]
  unfold zcm
  unfold wld at *
  clear hT ho hen hst
  refine PC.fn hH cd210 fun w0 M Q hM hE hQ hR=>?_;dsimp only[cd210,qm,ql,qf,qi,qb,qc,qp,qv,qN,qT,qF,qt]at hQ ⊢
  skip
  (repeat' first|refine zaa [0,1,2,3,4,5,6,7,8,9,10,11,12,13,14,18,21,28,44,48,65,79,92,96,108,109] fun K hK=>?_|(refine hK.go ?_;clear hK K)|with_reducible exact wT|refine wA ?_|(refine wB (fun h=>?_) (fun h=>?_)<;>first|exact wN h|subst (h:(_:Bool)=_)|skip)|(refine wQ ?_;clear hQ hR)|refine wC c0 ?_|refine wO c1 ?_|(refine AC.callK 100 (by omega) (by first|omega|exact wF|((refine no_implicit_lambda% (st ?_);try with_reducible exact wT);omega)) (zac (F:=cd226) (hH.has _ _ rfl) (Nat.le_of_ble_eq_true rfl) fun Q hQ hR=>?_);dsimp only[cd226,qm,ql,qf,qi,qb,qc,qp,qv,qN,qT,qF,qt]at hQ ⊢;try (refine no_implicit_lambda% (st ?_);try with_reducible exact wT))|(refine AC.callK 200 (by omega) (by first|omega|exact wF|((refine no_implicit_lambda% (st ?_);try with_reducible exact wT);omega)) (zac (F:=cd231) (hH.has _ _ rfl) (Nat.le_of_ble_eq_true rfl) fun Q hQ hR=>?_);dsimp only[cd231,qm,ql,qf,qi,qb,qc,qp,qv,qN,qT,qF,qt]at hQ ⊢;try (refine no_implicit_lambda% (st ?_);try with_reducible exact wT))|(refine AC.callK 300 (by omega) (by first|omega|exact wF|((refine no_implicit_lambda% (st ?_);try with_reducible exact wT);omega)) (zac (F:=cd252) (hH.has _ _ rfl) (Nat.le_of_ble_eq_true rfl) fun Q hQ hR=>?_);dsimp only[cd252,qm,ql,qf,qi,qb,qc,qp,qv,qN,qT,qF,qt]at hQ ⊢;try (refine no_implicit_lambda% (st ?_);try with_reducible exact wT))|refine wS c2 ?_|fail)
  all_goals first|rfl|(exfalso;contradiction)|trace_state
 ·rw[if_neg (by omega),Int.toNat_natCast]
  have ht:=zb9.1 (hT.may _ (zae hk7))
  have hk8:=ht.one
  have hk9:=hls _ (zae hk7)
  have hpl:0≤(nth l k).pl:=by
   rcases ht.rt with h|h
   ·exact h.2.1
   ·omega
  have c1:=znq hH l k hk7 hk8 hl hls
  have c3:=zqf hH hI p hp s hs hst l k hk7 hk8 hl hpl
  have c4:=zlE hH p.sections (nth (nth l k).secs 0) (nth l k).ed (Nat.le_trans hp.sec (by omega)) (fun x hx=>Nat.le_trans (hen x hx) (by omega))
  have c5:=zez hH p.sections (nxJ p (nth l k)).1.to (Nat.le_trans hp.sec (by omega)) (fun x hx=>Nat.le_trans (hen x hx) (by omega))
  have c6:=lie31_pc hH p s hs (nxS p (nth l k)).1.pt
  have c7:=out_pc5 hH (nxS p (nth l k)).1 (nxJ p (nth l k)).1.ed (zpF s (nxS p (nth l k)).1.pt)
  have c8:=zdX hH (nxS p (nth l k)).1.id 1 (by omega)
  have yp:=zk7 hk7 (zgF p s (nth l k))
  obtain ⟨X,hF⟩:∃ X,zp6 p s l k (nth l k)=X:=⟨_,rfl⟩
  rw[hF]
  unfold zp6 zcm at hF
  unfold zgF at yp hF
  dsimp only at yp
  have hcl:((nth l k).secs.map zck).flatten.length=(nth l k).secs.length:=by rw[zbm (c:=zck),Nat.mul_one]
  have f1:(l.map TrainD.c).flatten.set (k*8+1) (.sl 1 ((nth l k).secs.map zck))=(l.map TrainD.c).flatten:=by
   have:=zey (c:=TrainD.c) (l:=l) (k:=k) (i:=1) hk7 (by omega) (.sl 1 ((nth l k).secs.map zck)) (nth l k) rfl
   rw[this,zay hk7,List.set_getElem_self]
  have g0:∀ v,((l.map TrainD.c).flatten.set (k*8+1) v)[k*8]?=some (.n (nth l k).id):=fun v=>by rw[List.getElem?_set_ne (by omega)];exact tg0 hk7
  have g1:∀ v,((l.map TrainD.c).flatten.set (k*8+1) v)[k*8+1]?=some v:=fun v=>by rw[List.getElem?_set_self (by rw[zbm (c:=TrainD.c)];omega)]
  have g3:∀ v,((l.map TrainD.c).flatten.set (k*8+1) v)[k*8+3]?=some (.n (nth l k).ed):=fun v=>by rw[List.getElem?_set_ne (by omega)];exact tg3 hk7
  have x0:((nth l k).secs.map zck).flatten[0]?=some (.n (nth (nth l k).secs 0)):=zfA hk8
  have l8:0<l.length*8:=by omega
  have yq:∀ v w a:AV,(((l.map TrainD.c).flatten.set (k*8+1) v).set (k*8) a).set (k*8+1) w=((l.map TrainD.c).flatten.set (k*8) a).set (k*8+1) w:=fun v w a=>by rw[List.set_comm _ _ (by omega),List.set_set,List.set_comm _ _ (by omega)]
  have yz:=congrArg (zbv 8 l.length) yp
  rw[zfL (l:=l.set k _) List.length_set]at yz
  have yc:=chunks1 (nxS p (nth l k)).1.id (nth l k).secs
  change PC P inv 24 _ (·=.tup [.agg (nxJ p (nth l k)).1.c,.n (nxJ p (nth l k)).2]) at c4
  change PC P inv 22 _ (·=.tup [.agg (nxS p (nth l k)).1.c,.n (nxS p (nth l k)).2]) at c5
  change PC P inv 18 _ (·=.tup [.n (nxE p s (nth l k)).1,.n (nxE p s (nth l k)).2]) at c7
  generalize goT p s (nth l k)=G at *
  obtain ⟨g5,g6,g7⟩:=G
  generalize zpF s (nxS p (nth l k)).1.pt=li at *
  generalize nxE p s (nth l k)=E5 at *
  generalize nxS p (nth l k)=S5 at *
  generalize nxJ p (nth l k)=J5 at *
  unfold stn at c3 c6
  unfold wld at *
  dsimp only at hF c3 yp yz
  clear hT ho hen hst ht hpl
  refine PC.fn hH cd210 fun w0 M Q hM hE hQ hR=>?_;dsimp only[cd210,qm,ql,qf,qi,qb,qc,qp,qv,qN,qT,qF,qt]at hQ ⊢
  skip
  skip
  (have hX:=zA @g0 (zA @g1 (zA @g3 (zA @x0 (zA @f1 (zA @yp (zA @yc @l8))))));(repeat' first|refine zaa [0,1,2,3,4,5,6,7,8,9,10,11,12,13,14,18,21,28,44,48,65,79,92,96,108,109] fun K hK=>?_|(refine hK.go ?_;clear hK K)|with_reducible exact wT|refine wA ?_|(refine wE (fun h0 h=>?_) (fun h0 h=>?_)<;>first|exact wN h|((try replace hF:=wX hF);clear h0;first|exact hF.elim|((try subst (h:(_:Bool)=_));try replace hF:=wX hF)))|(refine wQ ?_;clear hQ hR)|refine wC c0 ?_|refine wO c1 ?_|(refine AC.callK 100 (by omega) (by first|omega|exact wF|((refine no_implicit_lambda% (st ?_);try with_reducible exact wT);omega)) (zac (F:=cd226) (hH.has _ _ rfl) (Nat.le_of_ble_eq_true rfl) fun Q hQ hR=>?_);dsimp only[cd226,qm,ql,qf,qi,qb,qc,qp,qv,qN,qT,qF,qt]at hQ ⊢;try (refine no_implicit_lambda% (st ?_);try with_reducible exact wT))|(refine AC.callK 200 (by omega) (by first|omega|exact wF|((refine no_implicit_lambda% (st ?_);try with_reducible exact wT);omega)) (zac (F:=cd231) (hH.has _ _ rfl) (Nat.le_of_ble_eq_true rfl) fun Q hQ hR=>?_);dsimp only[cd231,qm,ql,qf,qi,qb,qc,qp,qv,qN,qT,qF,qt]at hQ ⊢;try (refine no_implicit_lambda% (st ?_);try with_reducible exact wT))|(refine AC.callK 300 (by omega) (by first|omega|exact wF|((refine no_implicit_lambda% (st ?_);try with_reducible exact wT);omega)) (zac (F:=cd252) (hH.has _ _ rfl) (Nat.le_of_ble_eq_true rfl) fun Q hQ hR=>?_);dsimp only[cd252,qm,ql,qf,qi,qb,qc,qp,qv,qN,qT,qF,qt]at hQ ⊢;try (refine no_implicit_lambda% (st ?_);try with_reducible exact wT))|refine wS c2 ?_|refine wS c3 ?_|refine wU c4 ?_|refine wU c5 ?_|refine wC c6 ?_|refine wC c7 ?_|refine wC c8 ?_|(refine zb1 500 ((ins_ac0 hIn.int rfl rfl (by decide) hcl rfl (by omega))) (by omega) (by first|omega|exact wF|((refine no_implicit_lambda% (st ?_);try with_reducible exact wT);omega)) ?_;try (refine no_implicit_lambda% (st ?_);try with_reducible exact wT))|fail);all_goals clear hX)
  all_goals first|exact hF|(exfalso;contradiction)|(exfalso;omega)|(rw[yq,←hF];exact congrArg (fun z=>AV.tup [AV.agg [AV.sl 8 z],_,_]) yz)|trace_state
end Go.Lev
namespace Go.Lev
open Go.Eng
def zoj (r:MvR):AV:=zcm r.1 r.2.1 r.2.2
theorem putF_eq (p:Pln) (s:State) (l:List TrainD) (m:MoveD):putF p s l m=zoj (putR p s l m):=by
 unfold putF putG putR zoj
 by_cases h8:8≤l.length
 ·rw[if_pos h8,decide_eq_true (by omega)];rfl
 rw[if_neg h8,decide_eq_false (by omega)]
 by_cases h1:m.tr<1
 ·rw[if_pos (Or.inl h1),decide_eq_true h1];rfl
 by_cases h2:99<m.tr
 ·rw[if_pos (Or.inr (Or.inl h2)),decide_eq_false h1,decide_eq_true h2];rfl
 by_cases h3:zcN l m.tr<0
 ·rw[if_neg (by omega),decide_eq_false h1,decide_eq_false h2,decide_eq_true h3]
  by_cases h4:(zaw p.sections m.sec).2=0
  ·rw[if_pos h4,decide_eq_true h4]
   generalize (zaw p.sections m.sec).1=S
   by_cases h5:0<S.pt
   ·rw[if_pos (Or.inl h5),decide_eq_true h5];rfl
   by_cases h6:m.ed<0
   ·rw[if_pos (Or.inr (Or.inl h6)),decide_eq_false h5,decide_eq_true h6];rfl
   by_cases h7:1<m.ed
   ·rw[if_pos (Or.inr (Or.inr h7)),decide_eq_false h5,decide_eq_false h6,decide_eq_true h7];rfl
   rw[if_neg (by omega),decide_eq_false h5,decide_eq_false h6,decide_eq_false h7]
   by_cases a1:nth (zaW p s).1 S.id.toNat=0
   ·by_cases a2:stdT l S.id=true
    ·rw[if_pos (Or.inr (Or.inl a2)),decide_eq_true a1,a2];rfl
    ·by_cases a3:zdj s S.id=0
     ·rw[if_neg (fun h=>h.elim (fun h=>h a1) fun h=>h.elim (fun h=>a2 h) (fun h=>h a3)),decide_eq_true a1,eq_false_of_ne_true a2,decide_eq_true a3];rfl
     ·rw[if_pos (Or.inr (Or.inr a3)),decide_eq_true a1,eq_false_of_ne_true a2,decide_eq_false a3];rfl
   ·rw[if_pos (Or.inl a1),decide_eq_false a1];rfl
  ·rw[if_neg h4,decide_eq_false h4];rfl
 ·rw[if_pos (Or.inr (Or.inr (by omega))),decide_eq_false h1,decide_eq_false h2,decide_eq_false h3];rfl
theorem headF_eq (p:Pln) (s:State) (l:List TrainD) (k:Nat) (t:TrainD):zp6 p s l k t=zoj (zig p s l k t):=by
 unfold zp6 zig zoj
 by_cases h4:4≤t.secs.length
 ·rw[if_pos h4,decide_eq_true (by omega)];rfl
 rw[if_neg h4,decide_eq_false (by omega)]
 cases h1:(goT p s t).2.2 with
 |false=>rw[if_pos (Or.inl rfl)];rfl
 |true =>
  by_cases h2:(nxJ p t).2=0
  ·by_cases h3:(nxJ p t).1.to=0
   ·rw[if_pos (Or.inr (Or.inr h3)),decide_eq_true h2,decide_eq_true h3];rfl
   ·rw[if_neg (fun h=>h.elim (fun h=>absurd h (by decide)) fun h=>h.elim (fun h=>h h2) (fun h=>h3 h)),decide_eq_true h2,decide_eq_false h3]
    by_cases h5:(nxS p t).2=0
    ·rw[if_pos h5,decide_eq_true h5]
     by_cases h6:(nxE p s t).2=0
     ·rw[if_pos h6,decide_eq_true h6];rfl
     ·rw[if_neg h6,decide_eq_false h6];rfl
    ·rw[if_neg h5,decide_eq_false h5];rfl
  ·rw[if_pos (Or.inr (Or.inl h2)),decide_eq_false h2];rfl
end Go.Lev
namespace Go.Lev
open Go.Eng
set_option maxRecDepth 10000
set_option maxHeartbeats 8000000
variable {P:Program} {inv:Nat→Option Nat} {w0:World} {M:Nat→Prop}
theorem znR (hH:HasAll P inv) (hI:HasIds P inv) (p:Pln) (hp:Sm p) (s:State) (hs:SmS s) (l:List TrainD) (hl:l.length≤1000) (hls:∀ t∈l,t.secs.length≤1000) (hc:¬ckC p s l=0) (kd tr se ed:Int) :
  PC P inv 210 [.agg p.c,.agg s.c,.agg (wld l),.agg [.i .u8 kd,.n tr,.n se,.n ed]] (·=zcm (ckC p s l) [] []):=by
 have c0:=zbD hH hI p hp s hs l hl hls
 generalize ckC p s l=e at *
 unfold zcm
 unfold wld at *
 refine PC.fn hH cd210 fun w0 M Q hM hE hQ hR=>?_;dsimp only[cd210,qm,ql,qf,qi,qb,qc,qp,qv,qN,qT,qF,qt]at hQ ⊢
 (repeat' first|refine zaa [0,1,2,3,4,5,6,7,8,9,10,11,12,18,28,44,48] fun K hK=>?_|(refine hK.go ?_;clear hK K)|with_reducible exact wT|refine wA ?_|(refine wB (fun h=>?_) (fun h=>?_)<;>first|exact wN h|subst (h:(_:Bool)=_)|skip)|(refine wQ ?_;clear hQ hR hE hM)|refine wC c0 ?_|fail)
 all_goals first|rfl|(exfalso;contradiction)|trace_state
theorem znS (hH:HasAll P inv) (hI:HasIds P inv) (p:Pln) (hp:Sm p) (s:State) (hs:SmS s) (l:List TrainD) (hl:l.length≤1000) (hls:∀ t∈l,t.secs.length≤1000) (hc:ckC p s l=0) (kd tr se ed:Int) (hk:0≤kd∧kd≤255) (hk2:kd<1∨6≤kd) :
  PC P inv 210 [.agg p.c,.agg s.c,.agg (wld l),.agg [.i .u8 kd,.n tr,.n se,.n ed]] (·=zcm 2 [] []):=by
 have c0:=zbD hH hI p hp s hs l hl hls
 rw[hc]at c0
 unfold zcm
 unfold wld at *
 refine PC.fn hH cd210 fun w0 M Q hM hE hQ hR=>?_;dsimp only[cd210,qm,ql,qf,qi,qb,qc,qp,qv,qN,qT,qF,qt]at hQ ⊢
 skip
 (repeat' first|refine zaa [0,1,2,3,4,5,6,7,8,9,10,11,12,18,28,44,48] fun K hK=>?_|(refine hK.go ?_;clear hK K)|with_reducible exact wT|refine wA ?_|(refine wB (fun h=>?_) (fun h=>?_)<;>first|exact wN h|subst (h:(_:Bool)=_)|skip)|(refine wQ ?_;clear hQ hR)|refine wC c0 ?_|(refine AC.callK 100 (by omega) (by first|omega|exact wF|((refine no_implicit_lambda% (st ?_);try with_reducible exact wT);omega)) (zac (F:=cd226) (hH.has _ _ rfl) (Nat.le_of_ble_eq_true rfl) fun Q hQ hR=>?_);dsimp only[cd226,qm,ql,qf,qi,qb,qc,qp,qv,qN,qT,qF,qt]at hQ ⊢;try (refine no_implicit_lambda% (st ?_);try with_reducible exact wT))|fail)
 all_goals first|rfl|(exfalso;contradiction)|(exfalso;omega)|trace_state
theorem zbK (hH:HasAll P inv) (hI:HasIds P inv) (hIn:HasIns P inv) (p:Pln) (hp:Sm p) (s:State) (hs:SmS s) (l:List TrainD) (hl:l.length≤1000) (hls:∀ t∈l,t.secs.length≤1000) (m:MoveD) (hk:0≤m.kind∧m.kind≤255) :
  PC P inv 210 [.agg p.c,.agg s.c,.agg (wld l),.agg m.c] (·=zoj (mvR p s l m)):=by
 obtain ⟨kd,tr,se,ed⟩:=m
 dsimp only at hk
 unfold MoveD.c mvR
 dsimp only
 by_cases hc:ckC p s l=0
 ·rw[if_pos hc]
  by_cases h1:kd=1
  ·subst h1
   rw[if_pos rfl,←putF_eq]
   exact znQ hH hI hIn p hp s hs l hl hls hc tr se ed
  rw[if_neg h1]
  by_cases h2:kd=2
  ·subst h2
   rw[if_pos rfl]
   unfold ze8
   have:=zlH hH hI hIn p hp s hs l hl hls hc tr se ed
   split
   ·rw[if_pos (by assumption)]at this;exact this
   ·rw[if_neg (by assumption),headF_eq]at this;exact this
  rw[if_neg h2]
  by_cases h3:kd=3
  ·subst h3
   rw[if_pos rfl]
   unfold ze8 zoG
   have:=zlG hH hI p hp s hs l hl hls hc tr se ed
   split
   ·rw[if_pos (by assumption)]at this;exact this
   ·rw[if_neg (by assumption)]at this
    split
    ·rw[if_pos (by assumption)]at this;exact this
    ·rw[if_neg (by assumption)]at this;exact this
  rw[if_neg h3]
  by_cases h4:kd=4
  ·subst h4
   rw[if_pos rfl]
   unfold ze8 ziX
   have:=zlF hH hI p hp s hs l hl hls hc tr se ed
   split
   ·rw[if_pos (by assumption)]at this;exact this
   ·rw[if_neg (by assumption)]at this
    split
    ·rw[if_pos (by assumption)]at this;exact this
    ·rw[if_neg (by assumption)]at this;exact this
  rw[if_neg h4]
  by_cases h5:kd=5
  ·subst h5
   rw[if_pos rfl]
   unfold ze8 zl0
   have:=zlI hH hI p hp s hs l hl hls hc tr se ed
   split
   ·rw[if_pos (by assumption)]at this;exact this
   ·rw[if_neg (by assumption)]at this
    split
    ·rw[if_pos (by assumption)]at this;exact this
    ·rw[if_neg (by assumption)]at this;exact this
  rw[if_neg h5]
  exact znS hH hI p hp s hs l hl hls hc kd tr se ed hk (by omega)
 ·rw[if_neg hc]
  exact znR hH hI p hp s hs l hl hls hc kd tr se ed
end Go.Lev
namespace Go.Lev
open Go.Eng
set_option maxRecDepth 10000
set_option maxHeartbeats 4000000
variable {P:Program} {inv:Nat→Option Nat}
theorem zqa (hH:HasAll P inv) (l:List Section):PC P inv 21 [.sl 3 (l.map Section.c)] (·=.b (zgv l)):=by
 refine PC.fn hH cd21 fun w0 M Q hM hE hQ hR=>?_;dsimp only[cd21,qm,ql,qf,qi,qb,qc,qp,qv,qN,qT,qF,qt]at hQ ⊢
 (repeat' first|refine zaa [0,2,3,11,20] fun K hK=>?_|(refine hK.go ?_;clear hK K)|with_reducible exact wT|refine wA ?_|(refine wB (fun h=>?_) (fun h=>?_)<;>first|exact wN h|subst (h:(_:Bool)=_)|skip)|(refine wQ ?_;clear hQ hR hE hM)|fail)
 refine zbP (fun k:Nat=>[(0,.sl 3 (l.map Section.c)),(3,.n k)]) (fun _=>[]) (fun k=>k≤l.length∧k≤40∧((l.take 40).drop k).any (fun s=>decide (20<(s.ends.length:Int)))=(l.take 40).any (fun s=>decide (20<(s.ends.length:Int)))) (fun k=>l.length-k) 0 ⟨Nat.zero_le _,Nat.zero_le _,rfl⟩ (by (try dsimp only);(refine no_implicit_lambda% (st ?_);try with_reducible exact wT)<;>omega) (by (try dsimp only);(refine no_implicit_lambda% (st ?_);try with_reducible exact wT)<;>omega) ?_
 rintro k ⟨hk,hk40,hg⟩
 rcases Nat.lt_or_ge k (l.take 40).length with hlt|hge
 ·rw[zag hlt]at hg
  rw[List.any_cons,zgK (by rw[List.length_take]at hlt;omega)]at hg
  rw[List.length_take]at hlt
  (repeat' first|refine zaa [0,2,3,11,20] fun K hK=>?_|(refine hK.go ?_;clear hK K)|with_reducible exact wT|refine wA ?_|(refine wB (fun h=>?_) (fun h=>?_)<;>first|exact wN h|subst (h:(_:Bool)=_)|skip)|(refine wQ ?_;clear hQ hR hE hM)|fail)
  ·simp only[zgv,←hg];simp[h]
  ·have h':¬(20<((nth l k).ends.length:Int)):=by omega
   rw[decide_eq_false h',Bool.false_or]at hg
   exact ⟨k+1,by omega,⟨by omega,by omega,hg⟩,(by (try dsimp only);(first|omega|(simp;done)|(simp;omega)))⟩
 ·rw[List.drop_eq_nil_of_le hge]at hg
  rw[List.length_take]at hge
  (repeat' first|refine zaa [0,2,3,11,20] fun K hK=>?_|(refine hK.go ?_;clear hK K)|with_reducible exact wT|refine wA ?_|(refine wB (fun h=>?_) (fun h=>?_)<;>first|exact wN h|subst (h:(_:Bool)=_)|skip)|(refine wQ ?_;clear hQ hR hE hM)|fail)
  all_goals (simp only[zgv,←hg];simp)
def LedOk (l:List Section) (i e:Nat) (led:List Join):Prop:=∀ x∈led,∃ i' e',(i'<i∨i'=i∧e'<e)∧i'<l.length∧e'<(nth l i').ends.length∧nth (nth l i').ends e'=x
end Go.Lev
namespace Go.Lev
open Go.Eng
set_option maxRecDepth 10000
set_option maxHeartbeats 4000000
variable {P:Program} {inv:Nat→Option Nat}
def bigR (r:Rte):Bool:=decide (20<(r.path.length:Int))||decide (20<(r.over.length:Int))||decide (20<(r.flanks.length:Int))
def gRF:List Rte→Nat→Bool
 |[],_=>false
 |_::_,0=>false
 |r::l,n+1=>bigR r||gRF l n
def gPl (p:Pln):Bool:=gRF p.routes 40||(zgv p.sections||(decide (40<(p.points.length:Int))||(decide (40<(p.signals.length:Int))||decide (40<(p.routes.length:Int)))))
theorem gRF_some {r:Rte} {l:List Rte} {n:Nat} (h:0<n):gRF (r::l) n=(bigR r||gRF l (n-1)):=by
 cases n with
 |zero=>omega
 |succ n=>rfl
theorem gRF_end (l:List Rte) {n:Nat} (h:n=0):gRF l n=false:=by
 subst h;cases l<;>rfl
theorem zn3 (hH:HasAll P inv) (p:Pln):PC P inv 393 [.agg p.c] (·=.b (gPl p)):=by
 have c0:=zqa hH p.sections
 refine PC.fn hH cd393 fun w0 M Q hM hE hQ hR=>?_;dsimp only[cd393,qm,ql,qf,qi,qb,qc,qp,qv,qN,qT,qF,qt]at hQ ⊢
 (repeat' first|refine zaa [0,1,2,3,12,42] fun K hK=>?_|(refine hK.go ?_;clear hK K)|with_reducible exact wT|refine wA ?_|(refine wB (fun h=>?_) (fun h=>?_)<;>first|exact wN h|subst (h:(_:Bool)=_)|skip)|(refine wQ ?_;clear hQ hR hE hM)|fail)
 refine zaz (ι:=Nat) [1,2,3] (fun z=>[(3,.n z)]) (fun _=>[]) (fun z=>z) (p.routes.length) (fun z=>(z≤40)∧(gRF (p.routes.drop z) (40-z)=gRF p.routes 40)) (0) ?_;rintro k ⟨hk,h40,hg⟩;(try dsimp only at hk h40 hg ⊢);rcases Nat.lt_or_ge k p.routes.length with hlt|hge
 ·rcases Nat.lt_or_ge k 40 with h4|h4
  ·rw[zag hlt]at hg
   rw[gRF_some (by omega),bigR,Nat.sub_sub]at hg
   (repeat' first|refine zaa [0,1,2,3,12,42] fun K hK=>?_|(refine hK.go ?_;clear hK K)|with_reducible exact wT|refine wA ?_|(refine wB (fun h=>?_) (fun h=>?_)<;>first|exact wN h|subst (h:(_:Bool)=_)|skip)|(refine wQ ?_;clear hQ hR hE hM)|refine wC c0 ?_|fail)
   ·simp only[gPl,←hg];simp[*]
   ·simp only[gPl,←hg];simp[*]
   ·simp only[gPl,←hg];simp[*]
   ·refine ⟨k+1,by omega,⟨by omega,by omega, ?_⟩,(by (try dsimp only);(first|omega|(simp;done)|(simp;omega)))⟩
    rw[←hg];simp;omega
  ·rw[gRF_end _ (by omega)]at hg
   (repeat' first|refine zaa [0,1,2,3,12,42] fun K hK=>?_|(refine hK.go ?_;clear hK K)|with_reducible exact wT|refine wA ?_|(refine wB (fun h=>?_) (fun h=>?_)<;>first|exact wN h|subst (h:(_:Bool)=_)|skip)|(refine wQ ?_;clear hQ hR hE hM)|refine wC c0 ?_|fail)
   all_goals first|(simp only[gPl,←hg];simp[*];done)|(exfalso;omega)|(simp only[gPl,←hg];simp[*];omega)
 ·rw[List.drop_eq_nil_of_le hge,gRF]at hg
  (repeat' first|refine zaa [0,1,2,3,12,42] fun K hK=>?_|(refine hK.go ?_;clear hK K)|with_reducible exact wT|refine wA ?_|(refine wB (fun h=>?_) (fun h=>?_)<;>first|exact wN h|subst (h:(_:Bool)=_)|skip)|(refine wQ ?_;clear hQ hR hE hM)|refine wC c0 ?_|fail)
  all_goals (unfold gPl;rw[←hg,Bool.false_or])
  ·rw[h,Bool.true_or]
  ·rw[show zgv p.sections=false by assumption,decide_eq_true h];rfl
  ·rw[show zgv p.sections=false by assumption,decide_eq_true h,Bool.false_or,Bool.true_or,Bool.or_true]
  ·rw[show zgv p.sections=false by assumption,decide_eq_false h,decide_eq_false (p:=40<(p.points.length:Int)) (by assumption)];rfl
def gTrF:List TrainD→Nat→Bool
 |[],_=>false
 |_::_,0=>false
 |t::l,n+1=>decide (30<(t.secs.length:Int))||gTrF l n
def gTr (l:List TrainD):Bool:=gTrF l 30||decide (30<(l.length:Int))
theorem zqk {r:TrainD} {l:List TrainD} {n:Nat} (h:0<n):gTrF (r::l) n=(decide (30<(r.secs.length:Int))||gTrF l (n-1)):=by
 cases n with
 |zero=>omega
 |succ n=>rfl
theorem gTrF_end (l:List TrainD) {n:Nat} (h:n=0):gTrF l n=false:=by
 subst h;cases l<;>rfl
theorem zlY (hH:HasAll P inv) (l:List TrainD):PC P inv 394 [.agg (wld l)] (·=.b (gTr l)):=by
 unfold wld
 refine PC.fn hH cd394 fun w0 M Q hM hE hQ hR=>?_;dsimp only[cd394,qm,ql,qf,qi,qb,qc,qp,qv,qN,qT,qF,qt]at hQ ⊢
 (repeat' first|refine zaa [0,1,2,3,12,22] fun K hK=>?_|(refine hK.go ?_;clear hK K)|with_reducible exact wT|refine wA ?_|(refine wB (fun h=>?_) (fun h=>?_)<;>first|exact wN h|subst (h:(_:Bool)=_)|skip)|(refine wQ ?_;clear hQ hR hE hM)|fail)
 refine zaz (ι:=Nat) [1,2,3] (fun z=>[(3,.n z)]) (fun _=>[]) (fun z=>z) (l.length) (fun z=>(z≤30)∧(gTrF (l.drop z) (30-z)=gTrF l 30)) (0) ?_;rintro k ⟨hk,h40,hg⟩;(try dsimp only at hk h40 hg ⊢);rcases Nat.lt_or_ge k l.length with hlt|hge
 ·rcases Nat.lt_or_ge k 30 with h4|h4
  ·rw[zag hlt]at hg
   rw[zqk (by omega),Nat.sub_sub]at hg
   (repeat' first|refine zaa [0,1,2,3,12,22] fun K hK=>?_|(refine hK.go ?_;clear hK K)|with_reducible exact wT|refine wA ?_|(refine wB (fun h=>?_) (fun h=>?_)<;>first|exact wN h|subst (h:(_:Bool)=_)|skip)|(refine wQ ?_;clear hQ hR hE hM)|fail)
   ·simp only[gTr,←hg];simp[*]
   ·refine ⟨k+1,by omega,⟨by omega,by omega, ?_⟩,(by (try dsimp only);(first|omega|(simp;done)|(simp;omega)))⟩
    rw[←hg];simp;omega
  ·rw[gTrF_end _ (by omega)]at hg
   (repeat' first|refine zaa [0,1,2,3,12,22] fun K hK=>?_|(refine hK.go ?_;clear hK K)|with_reducible exact wT|refine wA ?_|(refine wB (fun h=>?_) (fun h=>?_)<;>first|exact wN h|subst (h:(_:Bool)=_)|skip)|(refine wQ ?_;clear hQ hR hE hM)|fail)
   all_goals first|(simp only[gTr,←hg];simp[*];done)|(exfalso;omega)|(simp only[gTr,←hg];simp[*];omega)
 ·rw[List.drop_eq_nil_of_le hge,gTrF]at hg
  (repeat' first|refine zaa [0,1,2,3,12,22] fun K hK=>?_|(refine hK.go ?_;clear hK K)|with_reducible exact wT|refine wA ?_|(refine wB (fun h=>?_) (fun h=>?_)<;>first|exact wN h|subst (h:(_:Bool)=_)|skip)|(refine wQ ?_;clear hQ hR hE hM)|fail)
  all_goals (unfold gTr;rw[←hg,Bool.false_or])
theorem zex (hH:HasAll P inv) (p:Pln) (s:State) (l:List TrainD):PC P inv 385 [.agg p.c,.agg s.c,.agg (wld l)] (·=.b (gPl p||(zgG s||gTr l))):=by
 have c0:=zn3 hH p
 have c1:=zoW hH s
 have c2:=zlY hH l
 unfold wld at *
 refine PC.fn hH cd385 fun w0 M Q hM hE hQ hR=>?_;dsimp only[cd385,qm,ql,qf,qi,qb,qc,qp,qv,qN,qT,qF,qt]at hQ ⊢
 (repeat' first|refine zaa [0,1,2,3,4,5,6] fun K hK=>?_|(refine hK.go ?_;clear hK K)|with_reducible exact wT|refine wA ?_|(refine wB (fun h=>?_) (fun h=>?_)<;>first|exact wN h|subst (h:(_:Bool)=_)|skip)|(refine wQ ?_;clear hQ hR hE hM)|refine wC c0 ?_|refine wC c1 ?_|refine wC c2 ?_|fail)
 all_goals simp[*]
theorem zfP (hH:HasAll P inv) (l:List TrainD) (hl:l.length≤1000000000) (n:Int):PC P inv 391 [.agg (wld l),.n n] (·=.n (zcN l n)):=by
 unfold wld
 refine PC.fn hH cd391 fun w0 M Q hM hE hQ hR=>?_;dsimp only[cd391,qm,ql,qf,qi,qb,qc,qp,qv,qN,qT,qF,qt]at hQ ⊢
 (repeat' first|refine zaa [0,1,2,4,5,10,20] fun K hK=>?_|(refine hK.go ?_;clear hK K)|with_reducible exact wT|refine wA ?_|(refine wB (fun h=>?_) (fun h=>?_)<;>first|exact wN h|subst (h:(_:Bool)=_)|skip)|(refine wQ ?_;clear hQ hR hE hM)|fail)
 refine zaz (ι:=Nat) [1,2,4,5] (fun z=>[(5,.n z)]) (fun _=>[]) (fun z=>z) (l.length) (fun z=>(zbu (fun t=>decide (t.id=n)) z (l.drop z)=zcN l n)) (0) ?_;rintro k ⟨hk,hg⟩;(try dsimp only at hk hg ⊢);rcases Nat.lt_or_ge k l.length with hlt|hge
 ·rw[zag hlt]at hg
  rw[zbu]at hg
  (repeat' first|refine zaa [0,1,2,4,5,10,20] fun K hK=>?_|(refine hK.go ?_;clear hK K)|with_reducible exact wT|refine wA ?_|(refine wB (fun h=>?_) (fun h=>?_)<;>first|exact wN h|subst (h:(_:Bool)=_)|skip)|(refine wQ ?_;clear hQ hR hE hM)|fail)
  ·rw[←hg,if_pos (decide_eq_true (by assumption))]
  ·refine ⟨k+1,by omega,⟨by omega, ?_⟩,(by (try dsimp only);(first|omega|(simp;done)|(simp;omega)))⟩
   rw[if_neg (by simp[*])]at hg
   exact_mod_cast hg
 ·rw[List.drop_eq_nil_of_le hge,zbu]at hg
  (repeat' first|refine zaa [0,1,2,4,5,10,20] fun K hK=>?_|(refine hK.go ?_;clear hK K)|with_reducible exact wT|refine wA ?_|(refine wB (fun h=>?_) (fun h=>?_)<;>first|exact wN h|subst (h:(_:Bool)=_)|skip)|(refine wQ ?_;clear hQ hR hE hM)|fail)
  all_goals first|(rw[hg];done)|trace_state
theorem zpU (hH:HasAll P inv) (a b:List Int) (hl:b.length≤1000000000):PC P inv 399 [.sl 1 (a.map zck),.sl 1 (b.map zck)] (·=.b (decide (a=b))):=by
 refine PC.fn hH cd399 fun w0 M Q hM hE hQ hR=>?_;dsimp only[cd399,qm,ql,qf,qi,qb,qc,qp,qv,qN,qT,qF,qt]at hQ ⊢
 (repeat' first|refine zaa [0,1,4,5,10,14,25] fun K hK=>?_|(refine hK.go ?_;clear hK K)|with_reducible exact wT|refine wA ?_|(refine wB (fun h=>?_) (fun h=>?_)<;>first|exact wN h|subst (h:(_:Bool)=_)|skip)|(refine wQ ?_;clear hQ hR hE hM)|fail)
 ·have:¬a=b:=fun e=>h (by rw[e])
  simp[this]
 have hab:a.length=b.length:=by omega
 refine zcH (fun k=>[(0,.sl 1 (a.map zck)),(1,.sl 1 (b.map zck)),(5,.n k)]) (fun k=>[]) (a.length) (fun k=>((a.drop k=b.drop k)↔a=b)) ?_;rintro k ⟨hk,hg⟩;rcases Nat.lt_or_ge k a.length with hlt|hge
 ·rw[zag hlt,zag (l:=b) (i:=k) (by omega),List.cons.injEq]at hg
  (repeat' first|refine zaa [0,1,4,5,10,14,25] fun K hK=>?_|(refine hK.go ?_;clear hK K)|with_reducible exact wT|refine wA ?_|(refine wB (fun h=>?_) (fun h=>?_)<;>first|exact wN h|subst (h:(_:Bool)=_)|skip)|(refine wQ ?_;clear hQ hR hE hM)|fail)
  ·have:¬a=b:=by rw[←hg];grind
   simp[this]
  ·exact ⟨k+1,by omega,⟨by omega,by rw[←hg];grind⟩,(by (try dsimp only);(first|omega|(simp;done)|(simp;omega)))⟩
 ·rw[List.drop_eq_nil_of_le hge,List.drop_eq_nil_of_le (by omega)]at hg
  (repeat' first|refine zaa [0,1,4,5,10,14,25] fun K hK=>?_|(refine hK.go ?_;clear hK K)|with_reducible exact wT|refine wA ?_|(refine wB (fun h=>?_) (fun h=>?_)<;>first|exact wN h|subst (h:(_:Bool)=_)|skip)|(refine wQ ?_;clear hQ hR hE hM)|fail)
  simp[←hg]
theorem zjS (a b:TrainD):a=b↔a.id=b.id∧a.secs=b.secs∧a.fr=b.fr∧a.ed=b.ed∧a.rt=b.rt∧a.pl=b.pl∧a.may=b.may∧a.nx=b.nx:=by cases a;cases b;simp
theorem zis (hH:HasAll P inv) (a b:TrainD) (hl:b.secs.length≤1000000000):PC P inv 392 [.agg a.c,.agg b.c] (·=.b (decide (a=b))):=by
 have c0:=zpU hH a.secs b.secs hl
 have e:=zjS a b
 refine PC.fn hH cd392 fun w0 M Q hM hE hQ hR=>?_;dsimp only[cd392,qm,ql,qf,qi,qb,qc,qp,qv,qN,qT,qF,qt]at hQ ⊢
 (repeat' first|refine zaa [0,1,2,3,4] fun K hK=>?_|(refine hK.go ?_;clear hK K)|with_reducible exact wT|refine wA ?_|(refine wB (fun h=>?_) (fun h=>?_)<;>first|exact wN h|subst (h:(_:Bool)=_)|skip)|(refine wQ ?_;clear hQ hR hE hM)|refine wC c0 ?_|fail)
 all_goals first|rfl|(simp[e, *];done)|trace_state
end Go.Lev
