/-
  A part of the engine that walks the functions' codes, and of the functions' contracts. Conditions: those that each theorem names.
-/
import Derived.Test.YtnjpcpdmnadadaaGreatL3
import Derived.IntWalk
import Derived.Laws.IdiomCopy
set_option linter.unusedSimpArgs false
set_option linter.unusedVariables false
set_option linter.unusedSectionVars false
namespace Go.Lev
open Go.Eng
set_option maxRecDepth 10000
set_option maxHeartbeats 4000000
variable {P:Program} {inv:Nat→Option Nat}
def zbb (pt f t:Int):Int:=if pt=0 then (if f=0∧t=1∨f=1∧t=0 then 3 else 0) else if f=0∧(t=1∨t=2) then t else if t=0∧(f=1∨f=2) then f else 0
theorem zb2 {f:Int} (h:0≤f∧f≤2):f=0∨f=1∨f=2:=by omega
theorem seg_ways {pt f t:Int} (h:0≤f∧f≤2) (h':0≤t∧t≤2):(((((zfX pt).map AV.n).drop (f.toNat*3)).take 3))[t.toNat]?=some (.n (zbb pt f t)):=by
 rcases zb2 h with rfl|rfl|rfl<;>rcases zb2 h' with rfl|rfl|rfl<;>by_cases hp:pt=0<;>simp[zfX,zbb,hp]
theorem zo6 (pt:Int):(((zfX pt).map AV.n).take 3)=[zbb pt 0 0,zbb pt 0 1,zbb pt 0 2].map AV.n:=by by_cases hp:pt=0<;>simp[zfX,zbb,hp]
theorem zo5 (pt:Int):((((zfX pt).map AV.n).drop 3).take 3)=[zbb pt 1 0,zbb pt 1 1,zbb pt 1 2].map AV.n:=by by_cases hp:pt=0<;>simp[zfX,zbb,hp]
theorem zo4 (pt:Int):((((zfX pt).map AV.n).drop 6).take 3)=[zbb pt 2 0,zbb pt 2 1,zbb pt 2 2].map AV.n:=by by_cases hp:pt=0<;>simp[zfX,zbb,hp]
attribute [local go_sem] seg_ways zo6 zo5 zo4
def zi1 (s:Section) (f t:Int):AV:=if zca s=true then (if f<0∨2<f∨t<0∨2<t∨zbb s.pt f t=0 then .tup [.n 0,.n 2] else .tup [.n ((zbb s.pt f t).tmod 3),.n 0]) else .tup [.n 0,.n 8]
theorem zns (hH:HasAll P inv) (s:Section) (f t:Int):PC P inv 16 [.agg s.c,.n f,.n t] (·=zi1 s f t):=by
 refine PC.fn hH cd16 fun w0 M Q hM hE hQ hR=>?_;dsimp only[cd16,qm,ql,qf,qi,qb,qc,qp,qv,qN,qT,qF,qt]at hQ ⊢
 (repeat' first|refine zaa [0,1,2,3,6,7,10,33] fun K hK=>?_|(refine hK.go ?_;clear hK K)|with_reducible exact wT|refine wA ?_|(refine wB (fun h=>?_) (fun h=>?_)<;>first|exact wN h|subst (h:(_:Bool)=_)|skip)|(refine wQ ?_;clear hQ hR hE hM)|(refine zaj hM (zdr hH _) ?_;try (refine no_implicit_lambda% (st ?_);try with_reducible exact wT))|(refine zaj hM (zgX hH _) ?_;try (refine no_implicit_lambda% (st ?_);try with_reducible exact wT))|fail)
 all_goals (unfold zi1;simp only[*,if_true,if_false,true_or,or_true,reduceCtorEq,Bool.false_eq_true])
 rw[if_neg (by rintro (a|a|a|a|a)<;>first|omega|contradiction)]
def zk2 (s:Section) (f lie:Int):Int:=zif (if s.pt=0∧lie=0 then 3 else lie) 0 [zbb s.pt f 0,zbb s.pt f 1,zbb s.pt f 2]
def zjk (s:Section) (f lie:Int):AV:=if zca s=true then (if f<0∨2<f∨lie<0∨2<lie then .tup [.n 0,.n 2] else if (¬s.pt=0∧lie=0)∨zk2 s f lie<0 then .tup [.n 0,.n 2] else .tup [.n (zk2 s f lie),.n 0]) else .tup [.n 0,.n 8]
theorem out_pc0 (hH:HasAll P inv) (s:Section) (f t:Int) (hf:¬(0≤f∧f≤2)):PC P inv 18 [.agg s.c,.n f,.n t] (·=zjk s f t):=by
 refine PC.fn hH cd18 fun w0 M Q hM hE hQ hR=>?_;dsimp only[cd18,qm,ql,qf,qi,qb,qc,qp,qv,qN,qT,qF,qt]at hQ ⊢
 (repeat' first|refine zaa [0,1,2,3,6,7,8,9,13,34,47] fun K hK=>?_|(refine hK.go ?_;clear hK K)|with_reducible exact wT|refine wA ?_|(refine wB (fun h=>?_) (fun h=>?_)<;>first|exact wN h|subst (h:(_:Bool)=_)|skip)|(refine wQ ?_;clear hQ hR hE hM)|(refine zaj hM (zdr hH _) ?_;try (refine no_implicit_lambda% (st ?_);try with_reducible exact wT))|(refine zaj hM (zgX hH _) ?_;try (refine no_implicit_lambda% (st ?_);try with_reducible exact wT))|fail)
 all_goals (unfold zjk;simp only[*,if_true,if_false,true_or,or_true,reduceCtorEq,Bool.false_eq_true])
theorem out_pc1 (hH:HasAll P inv) (s:Section) (t:Int):PC P inv 18 [.agg s.c,.n 0,.n t] (·=zjk s 0 t):=by
 refine PC.fn hH cd18 fun w0 M Q hM hE hQ hR=>?_;dsimp only[cd18,qm,ql,qf,qi,qb,qc,qp,qv,qN,qT,qF,qt]at hQ ⊢
 (repeat' first|refine zaa [0,1,2,3,6,7,8,9,13,34,47] fun K hK=>?_|(refine hK.go ?_;clear hK K)|with_reducible exact wT|refine wA ?_|(refine wB (fun h=>?_) (fun h=>?_)<;>first|exact wN h|subst (h:(_:Bool)=_)|skip)|(refine wQ ?_;clear hQ hR hE hM)|(refine zaj hM (zdr hH _) ?_;try (refine no_implicit_lambda% (st ?_);try with_reducible exact wT))|(refine zaj hM (zgX hH _) ?_;try (refine no_implicit_lambda% (st ?_);try with_reducible exact wT))|(refine zcj hM 4 (zdN hH [zbb s.pt 0 0,zbb s.pt 0 1,zbb s.pt 0 2] 3 (by simp)) ?_ rfl ?_;(focus exact wF);try (refine no_implicit_lambda% (st ?_);try with_reducible exact wT))|(refine zcj hM 4 (zdN hH [zbb s.pt 0 0,zbb s.pt 0 1,zbb s.pt 0 2] t (by simp)) ?_ rfl ?_;(focus exact wF);try (refine no_implicit_lambda% (st ?_);try with_reducible exact wT))|fail)
 all_goals (first|rfl|(grind[zjk,zk2])|(simp[zjk,zk2, *];done)|(simp_all [zjk,zk2];done)|(simp_all [zjk,zk2]<;>first|omega|((repeat' split)<;>first|rfl|(exfalso;omega))))
theorem out_pc2 (hH:HasAll P inv) (s:Section) (t:Int):PC P inv 18 [.agg s.c,.n 1,.n t] (·=zjk s 1 t):=by
 refine PC.fn hH cd18 fun w0 M Q hM hE hQ hR=>?_;dsimp only[cd18,qm,ql,qf,qi,qb,qc,qp,qv,qN,qT,qF,qt]at hQ ⊢
 (repeat' first|refine zaa [0,1,2,3,6,7,8,9,13,34,47] fun K hK=>?_|(refine hK.go ?_;clear hK K)|with_reducible exact wT|refine wA ?_|(refine wB (fun h=>?_) (fun h=>?_)<;>first|exact wN h|subst (h:(_:Bool)=_)|skip)|(refine wQ ?_;clear hQ hR hE hM)|(refine zaj hM (zdr hH _) ?_;try (refine no_implicit_lambda% (st ?_);try with_reducible exact wT))|(refine zaj hM (zgX hH _) ?_;try (refine no_implicit_lambda% (st ?_);try with_reducible exact wT))|(refine zcj hM 4 (zdN hH [zbb s.pt 1 0,zbb s.pt 1 1,zbb s.pt 1 2] 3 (by simp)) ?_ rfl ?_;(focus exact wF);try (refine no_implicit_lambda% (st ?_);try with_reducible exact wT))|(refine zcj hM 4 (zdN hH [zbb s.pt 1 0,zbb s.pt 1 1,zbb s.pt 1 2] t (by simp)) ?_ rfl ?_;(focus exact wF);try (refine no_implicit_lambda% (st ?_);try with_reducible exact wT))|fail)
 all_goals (first|rfl|(grind[zjk,zk2])|(simp[zjk,zk2, *];done)|(simp_all [zjk,zk2];done)|(simp_all [zjk,zk2]<;>first|omega|((repeat' split)<;>first|rfl|(exfalso;omega))))
theorem out_pc3 (hH:HasAll P inv) (s:Section) (t:Int):PC P inv 18 [.agg s.c,.n 2,.n t] (·=zjk s 2 t):=by
 refine PC.fn hH cd18 fun w0 M Q hM hE hQ hR=>?_;dsimp only[cd18,qm,ql,qf,qi,qb,qc,qp,qv,qN,qT,qF,qt]at hQ ⊢
 (repeat' first|refine zaa [0,1,2,3,6,7,8,9,13,34,47] fun K hK=>?_|(refine hK.go ?_;clear hK K)|with_reducible exact wT|refine wA ?_|(refine wB (fun h=>?_) (fun h=>?_)<;>first|exact wN h|subst (h:(_:Bool)=_)|skip)|(refine wQ ?_;clear hQ hR hE hM)|(refine zaj hM (zdr hH _) ?_;try (refine no_implicit_lambda% (st ?_);try with_reducible exact wT))|(refine zaj hM (zgX hH _) ?_;try (refine no_implicit_lambda% (st ?_);try with_reducible exact wT))|(refine zcj hM 4 (zdN hH [zbb s.pt 2 0,zbb s.pt 2 1,zbb s.pt 2 2] 3 (by simp)) ?_ rfl ?_;(focus exact wF);try (refine no_implicit_lambda% (st ?_);try with_reducible exact wT))|(refine zcj hM 4 (zdN hH [zbb s.pt 2 0,zbb s.pt 2 1,zbb s.pt 2 2] t (by simp)) ?_ rfl ?_;(focus exact wF);try (refine no_implicit_lambda% (st ?_);try with_reducible exact wT))|fail)
 all_goals (first|rfl|(grind[zjk,zk2])|(simp[zjk,zk2, *];done)|(simp_all [zjk,zk2];done)|(simp_all [zjk,zk2]<;>first|omega|((repeat' split)<;>first|rfl|(exfalso;omega))))
theorem out_pc (hH:HasAll P inv) (s:Section) (f t:Int):PC P inv 18 [.agg s.c,.n f,.n t] (·=zjk s f t):=by
 by_cases h:0≤f∧f≤2
 ·rcases zb2 h with rfl|rfl|rfl
  ·exact out_pc1 hH s t
  ·exact out_pc2 hH s t
  ·exact out_pc3 hH s t
 ·exact out_pc0 hH s f t h
end Go.Lev
namespace Go.Lev
open Go.Eng
set_option maxRecDepth 10000
set_option maxHeartbeats 4000000
variable {P:Program} {inv:Nat→Option Nat}
theorem zmf (id:Int):∀ (r:List Section) (k:Nat),ze9 id k r=-1∨((k:Int)≤ze9 id k r∧ze9 id k r<k+r.length)
 |[],k=>.inl rfl
 |x::r,k=>by
  unfold ze9
  split
  ·right;simp only[List.length_cons];omega
  ·have:=zmf id r (k+1)
   simp only[List.length_cons]
   omega
def zcs (l:List Section) (s:Section) (e:Nat):Bool :=
 if (nth s.ends e).to=0∧(nth s.ends e).ed=0 then true
 else if ze9 (nth s.ends e).to 0 l<0∨(nth s.ends e).ed<0∨((nth l (ze9 (nth s.ends e).to 0 l).toNat).ends.length:Int)≤(nth s.ends e).ed∨((nth s.ends e).to=s.id∧(nth s.ends e).ed=(e:Int)) then false
 else decide ((nth (nth l (ze9 (nth s.ends e).to 0 l).toNat).ends (nth s.ends e).ed.toNat).to=s.id)&&decide ((nth (nth l (ze9 (nth s.ends e).to 0 l).toNat).ends (nth s.ends e).ed.toNat).ed=(e:Int))
theorem znE (hH:HasAll P inv) (l:List Section) (s:Section) (e:Nat) (he:e<s.ends.length) (hl:l.length≤1000000000):PC P inv 54 [.sl 3 (l.map Section.c),.agg s.c,.n e] (·=.b (zcs l s e)):=by
 have hb:=zmf (nth s.ends e).to l 0
 refine PC.fn hH cd54 fun w0 M Q hM hE hQ hR=>?_;dsimp only[cd54,qm,ql,qf,qi,qb,qc,qp,qv,qN,qT,qF,qt]at hQ ⊢
 (repeat' first|refine zaa [0,1,2,4,6,7,8,9,22,57] fun K hK=>?_|(refine hK.go ?_;clear hK K)|with_reducible exact wT|refine wA ?_|(refine wB (fun h=>?_) (fun h=>?_)<;>first|exact wN h|subst (h:(_:Bool)=_)|skip)|(refine wQ ?_;clear hQ hR hE hM)|(refine zaj hM (at_pc hH _ _ hl) ?_;try (refine no_implicit_lambda% (st ?_);try with_reducible exact wT))|fail)
 all_goals (first|rfl|(grind[zcs])|(simp[zcs, *];done)|(simp_all [zcs];done)|(simp_all [zcs]<;>first|omega|((repeat' split)<;>first|rfl|(exfalso;omega))))
end Go.Lev
namespace Go.Lev
open Go.Eng
set_option maxRecDepth 10000
set_option maxHeartbeats 4000000
variable {P:Program} {inv:Nat→Option Nat}
def ziv (s x:Section):Bool:=decide (s.id≤x.id)||(!decide (s.pt=0)&&decide (x.pt=s.pt))
def rOk (pre:List Section) (s:Section):Bool:=!(decide (s.id<1)||decide (99<s.id)||!zbp s)&&pre.all fun x=>!ziv s x
def zgE (pre:List Section):List Section→Bool
 |[]=>true
 |s::r=>rOk pre s&&zgE (pre++[s]) r
def znK (l:List Section):Bool:=l.all fun s=>zbO (zcs l s) 0 s.ends.length
def zep (l:List Section):Bool:=!decide (16<(l.length:Int))&&zgE [] l&&znK l
theorem zpb (hH:HasAll P inv) (l:List Section) (hl:l.length≤1000000000) (he:∀ s∈l,s.ends.length≤1000000000):PC P inv 48 [.sl 3 (l.map Section.c)] (·=.b (zep l)):=by
 refine PC.fn hH cd48 fun w0 M Q hM hE hQ hR=>?_;dsimp only[cd48,qm,ql,qf,qi,qb,qc,qp,qv,qN,qT,qF,qt]at hQ ⊢
 (repeat' first|refine zaa [0,2,3,4,5,6,7,10,14,33,36,61,65,75,85] fun K hK=>?_|(refine hK.go ?_;clear hK K)|with_reducible exact wT|refine wA ?_|(refine wB (fun h=>?_) (fun h=>?_)<;>first|exact wN h|subst (h:(_:Bool)=_)|skip)|(refine wQ ?_;clear hQ hR hE hM)|fail)
 ·simp[zep,h]
 refine zcH (fun k=>[(0,.sl 3 (l.map Section.c)),(3,.n k)]) (fun k=>[]) (l.length) (fun k=>zgE (l.take k) (l.drop k)=zgE [] l) ?_;rintro k ⟨hk,hg⟩;rcases Nat.lt_or_ge k l.length with hlt|hge
 ·rw[zag hlt]at hg
  rw[zgE,zoF hlt]at hg
  have hs:=he _ (zae hlt)
  (repeat' first|refine zaa [0,2,3,4,5,6,7,10,14,33,36,61,65,75,85] fun K hK=>?_|(refine hK.go ?_;clear hK K)|with_reducible exact wT|refine wA ?_|(refine wB (fun h=>?_) (fun h=>?_)<;>first|exact wN h|subst (h:(_:Bool)=_)|skip)|(refine wQ ?_;clear hQ hR hE hM)|(refine zaj hM (znD hH _) ?_;try (refine no_implicit_lambda% (st ?_);try with_reducible exact wT))|fail)
  iterate 3 (grind[zep,rOk])
  have h1:¬(nth l k).id<1:=by assumption
  have h2:¬99<(nth l k).id:=by assumption
  have h3:zbp (nth l k)=true:=by assumption
  refine zbP (fun j:Nat=>[(0,.sl 3 (l.map Section.c)),(3,.n k),(4,.ptr 0 3 0),(5,.n j)]) (fun _=>[(0,.cells (nth l k).c true)]) (fun j=>j≤k∧((l.take k).drop j).all (fun x=>!ziv (nth l k) x)=(l.take k).all fun x=>!ziv (nth l k) x) (fun j=>k-j) 0 ⟨Nat.zero_le _,rfl⟩ (by (try dsimp only);(refine no_implicit_lambda% (st ?_);try with_reducible exact wT)<;>omega) (by (try dsimp only);(refine no_implicit_lambda% (st ?_);try with_reducible exact wT)<;>omega) ?_
  rintro j ⟨hj,hi⟩
  have hkl:(l.take k).length=k:=by simp;omega
  rcases Nat.lt_or_ge j k with hjk|hjk
  ·rw[zag (by omega),List.all_cons,zgK hjk]at hi
   have hs:=he _ (zae (Nat.lt_trans hjk hlt))
   (repeat' first|refine zaa [0,2,3,4,5,6,7,10,14,33,36,61,65,75,85] fun K hK=>?_|(refine hK.go ?_;clear hK K)|with_reducible exact wT|refine wA ?_|(refine wB (fun h=>?_) (fun h=>?_)<;>first|exact wN h|subst (h:(_:Bool)=_)|skip)|(refine wQ ?_;clear hQ hR hE hM)|fail)
   all_goals (first|(refine ⟨j+1,by omega,⟨by omega,by grind[zep,rOk,ziv]⟩,(by (try dsimp only);(first|omega|(simp;done)|(simp;omega)))⟩)|(grind[zep,rOk,ziv]))
  ·rw[List.drop_eq_nil_of_le (by omega),List.all_nil]at hi
   (repeat' first|refine zaa [0,2,3,4,5,6,7,10,14,33,36,61,65,75,85] fun K hK=>?_|(refine hK.go ?_;clear hK K)|with_reducible exact wT|refine wA ?_|(refine wB (fun h=>?_) (fun h=>?_)<;>first|exact wN h|subst (h:(_:Bool)=_)|skip)|(refine wQ ?_;clear hQ hR hE hM)|fail)
   all_goals (first|(refine ⟨k+1,by omega,⟨by omega,by grind[zep,rOk]⟩,(by (try dsimp only);(first|omega|(simp;done)|(simp;omega)))⟩)|(grind[zep,rOk]))
 ·rw[List.drop_eq_nil_of_le hge,zgE]at hg
  (repeat' first|refine zaa [0,2,3,4,5,6,7,10,14,33,36,61,65,75,85] fun K hK=>?_|(refine hK.go ?_;clear hK K)|with_reducible exact wT|refine wA ?_|(refine wB (fun h=>?_) (fun h=>?_)<;>first|exact wN h|subst (h:(_:Bool)=_)|skip)|(refine wQ ?_;clear hQ hR hE hM)|fail)
  refine zcH (fun k=>[(0,.sl 3 (l.map Section.c)),(6,.n k)]) (fun k=>[]) (l.length) (fun k=>(l.drop k).all (fun s=>zbO (zcs l s) 0 s.ends.length)=znK l) ?_;rintro k ⟨hk,hg⟩;rcases Nat.lt_or_ge k l.length with hlt|hge
  ·rw[zag hlt]at hg
   rw[List.all_cons]at hg
   have hs:=he _ (zae hlt)
   (repeat' first|refine zaa [0,2,3,4,5,6,7,10,14,33,36,61,65,75,85] fun K hK=>?_|(refine hK.go ?_;clear hK K)|with_reducible exact wT|refine wA ?_|(refine wB (fun h=>?_) (fun h=>?_)<;>first|exact wN h|subst (h:(_:Bool)=_)|skip)|(refine wQ ?_;clear hQ hR hE hM)|fail)
   refine zbP (fun j:Nat=>[(0,.sl 3 (l.map Section.c)),(6,.n k),(7,.n j)]) (fun _=>[]) (fun j=>j≤(nth l k).ends.length∧zbO (zcs l (nth l k)) j ((nth l k).ends.length-j)=zbO (zcs l (nth l k)) 0 (nth l k).ends.length) (fun j=>(nth l k).ends.length-j) 0 ⟨Nat.zero_le _,rfl⟩ (by (try dsimp only);(refine no_implicit_lambda% (st ?_);try with_reducible exact wT)<;>omega) (by (try dsimp only);(refine no_implicit_lambda% (st ?_);try with_reducible exact wT)<;>omega) ?_
   rintro j ⟨hj,hi⟩
   rcases Nat.lt_or_ge j (nth l k).ends.length with hjk|hjk
   ·rw[zgC hjk]at hi
    (repeat' first|refine zaa [0,2,3,4,5,6,7,10,14,33,36,61,65,75,85] fun K hK=>?_|(refine hK.go ?_;clear hK K)|with_reducible exact wT|refine wA ?_|(refine wB (fun h=>?_) (fun h=>?_)<;>first|exact wN h|subst (h:(_:Bool)=_)|skip)|(refine wQ ?_;clear hQ hR hE hM)|refine wC (znE hH l (nth l k) j hjk hl) ?_|fail)
    all_goals (first|(refine ⟨j+1,by omega,⟨by omega,by grind[zep]⟩,(by (try dsimp only);(first|omega|(simp;done)|(simp;omega)))⟩)|(grind[zep]))
   ·rw[zh5 hjk]at hi
    (repeat' first|refine zaa [0,2,3,4,5,6,7,10,14,33,36,61,65,75,85] fun K hK=>?_|(refine hK.go ?_;clear hK K)|with_reducible exact wT|refine wA ?_|(refine wB (fun h=>?_) (fun h=>?_)<;>first|exact wN h|subst (h:(_:Bool)=_)|skip)|(refine wQ ?_;clear hQ hR hE hM)|fail)
    all_goals (first|(refine ⟨k+1,by omega,⟨by omega,by grind[zep]⟩,(by (try dsimp only);(first|omega|(simp;done)|(simp;omega)))⟩)|(grind[zep]))
  ·rw[List.drop_eq_nil_of_le hge,List.all_nil]at hg
   (repeat' first|refine zaa [0,2,3,4,5,6,7,10,14,33,36,61,65,75,85] fun K hK=>?_|(refine hK.go ?_;clear hK K)|with_reducible exact wT|refine wA ?_|(refine wB (fun h=>?_) (fun h=>?_)<;>first|exact wN h|subst (h:(_:Bool)=_)|skip)|(refine wQ ?_;clear hQ hR hE hM)|fail)
   all_goals (first|rfl|(grind[zep])|(simp[zep, *];done)|(simp_all [zep];done)|(simp_all [zep]<;>first|omega|((repeat' split)<;>first|rfl|(exfalso;omega))))
end Go.Lev
namespace Go.Lev
open Go.Eng
set_option maxRecDepth 10000
set_option maxHeartbeats 4000000
variable {P:Program} {inv:Nat→Option Nat}
theorem zfg {s:Section} (h:zca s=true):0≤s.pt∧s.pt≤99∧s.ends.length≤3:=by
 unfold zca zcc at h
 simp at h
 omega
theorem zji {l:List Section} {id:Int} (h:(zah l id).2=true):(zah l id).1<l.length:=by
 unfold zah at h ⊢
 simp at h
 exact h.1
def ziK (l:List Section) (k:Nat) (pts:List Bool) (s:Section):Bool:=!zcc s.id||!zca s||(decide (0<(k:Int))&&decide (s.id≤(nth l ((k:Int)-1).toNat).id))||nth pts s.pt.toNat
def ck1 (l:List Section) (k:Nat) (pts:List Bool):List Section→Bool
 |[]=>true
 |s::r=>!ziK l k pts s&&ck1 l (k+1) (pts.set s.pt.toNat (decide (0<s.pt))) r
def zij (l:List Section) (s:Section) (e:Nat):Bool :=
 if (nth s.ends e).to=0∧(nth s.ends e).ed=0 then true
 else !(!(zah l (nth s.ends e).to).2||(decide ((nth s.ends e).to=s.id)&&decide ((nth s.ends e).ed=(e:Int)))||decide ((nth s.ends e).ed<0)||decide (((nth l (zah l (nth s.ends e).to).1).ends.length:Int)≤(nth s.ends e).ed)
  || !(decide ((nth (nth l (zah l (nth s.ends e).to).1).ends (nth s.ends e).ed.toNat).to=s.id)&&decide ((nth (nth l (zah l (nth s.ends e).to).1).ends (nth s.ends e).ed.toNat).ed=(e:Int))))
def ck2 (l:List Section):Bool:=l.all fun s=>zbO (zij l s) 0 s.ends.length
def zdV (l:List Section):Int:=if 16<(l.length:Int) then 8 else if ck1 l 0 (List.replicate 100 false) l&&ck2 l then 0 else 8
theorem zjJ (hH:HasAll P inv) (l:List Section) (hl:l.length≤1000000000) (he:∀ s∈l,s.ends.length≤9223372036854775807):PC P inv 26 [.sl 3 (l.map Section.c)] (·=.n (zdV l)):=by
 refine PC.fn hH cd26 fun w0 M Q hM hE hQ hR=>?_;dsimp only[cd26,qm,ql,qf,qi,qb,qc,qp,qv,qN,qT,qF,qt]at hQ ⊢
 (repeat' first|refine zaa [0,2,3,4,5,7,8,9,10,11,12,15,16,17,18,19,25,29,52,60,61,62,63,67,68,69,70,76,123] fun K hK=>?_|(refine hK.go ?_;clear hK K)|with_reducible exact wT|refine wA ?_|(refine wB (fun h=>?_) (fun h=>?_)<;>first|exact wN h|subst (h:(_:Bool)=_)|skip)|(refine wQ ?_;clear hQ hR hE hM)|fail)
 ·simp[zdV,h]
 refine zbP (ι:=Nat×List Bool) (fun k=>[(0,.sl 3 (l.map Section.c)),(3,.ptr 0 100 0),(16,.sl 3 (l.map Section.c)),(17,.n l.length),(18,.n k.1)]) (fun k=>[(0,.cells (k.2.map .b) true)]) (fun k=>k.1≤l.length∧k.2.length=100∧ck1 l k.1 k.2 (l.drop k.1)=ck1 l 0 (List.replicate 100 false) l) (fun k=>l.length-k.1) (0,List.replicate 100 false) ⟨Nat.zero_le _,by simp,rfl⟩ (by (try dsimp only);(refine no_implicit_lambda% (st ?_);try with_reducible exact wT)<;>omega) ?_ ?_
 ·(refine no_implicit_lambda% (st ?_);try with_reducible exact wT)
  simp
 ·rintro ⟨k,pts⟩ ⟨hk,hp,hg⟩
  dsimp only at hk hp hg ⊢
  rcases Nat.lt_or_ge k l.length with hlt|hge
  ·rw[zag hlt]at hg
   rw[ck1]at hg
   have hs:=he _ (zae hlt)
   have c:=zdr hH (nth l k)
   cases hsh:zca (nth l k)<;>rw[hsh]at c
   ·(repeat' first|refine zaa [0,2,3,4,5,7,8,9,10,11,12,15,16,17,18,19,25,29,52,60,61,62,63,67,68,69,70,76,123] fun K hK=>?_|(refine hK.go ?_;clear hK K)|with_reducible exact wT|refine wA ?_|(refine wB (fun h=>?_) (fun h=>?_)<;>first|exact wN h|subst (h:(_:Bool)=_)|skip)|(refine wQ ?_;clear hQ hR hE hM)|(refine zaj hM (zeX hH _) ?_;try (refine no_implicit_lambda% (st ?_);try with_reducible exact wT))|refine wC c ?_|fail)
    all_goals (grind[zdV,ziK])
   ·have hbd:=zfg hsh
    (have hX:=@hp;(repeat' first|refine zaa [0,2,3,4,5,7,8,9,10,11,12,15,16,17,18,19,25,29,52,60,61,62,63,67,68,69,70,76,123] fun K hK=>?_|(refine hK.go ?_;clear hK K)|with_reducible exact wT|refine wA ?_|(refine wB (fun h=>?_) (fun h=>?_)<;>first|exact wN h|subst (h:(_:Bool)=_)|skip)|(refine wQ ?_;clear hQ hR hE hM)|(refine zaj hM (zeX hH _) ?_;try (refine no_implicit_lambda% (st ?_);try with_reducible exact wT))|refine wC c ?_|fail);all_goals clear hX)
    all_goals (first
     |(refine ⟨(k+1,pts.set (nth l k).pt.toNat (decide (0<(nth l k).pt))),by dsimp only;omega,⟨by dsimp only;omega,by simp[hp],by grind[ziK]⟩,by simp,by simp[List.map_set]⟩)
     |(grind[zdV,ziK]))
  ·rw[List.drop_eq_nil_of_le hge,ck1]at hg
   (repeat' first|refine zaa [0,2,3,4,5,7,8,9,10,11,12,15,16,17,18,19,25,29,52,60,61,62,63,67,68,69,70,76,123] fun K hK=>?_|(refine hK.go ?_;clear hK K)|with_reducible exact wT|refine wA ?_|(refine wB (fun h=>?_) (fun h=>?_)<;>first|exact wN h|subst (h:(_:Bool)=_)|skip)|(refine wQ ?_;clear hQ hR hE hM)|fail)
   refine zcH (fun k=>[(0,.sl 3 (l.map Section.c)),(60,.sl 3 (l.map Section.c)),(61,.n l.length),(62,.n k)]) (fun k=>[]) (l.length) (fun k=>(l.drop k).all (fun s=>zbO (zij l s) 0 s.ends.length)=ck2 l) ?_;rintro k ⟨hk,hg⟩;rcases Nat.lt_or_ge k l.length with hlt|hge
   ·rw[zag hlt]at hg
    rw[List.all_cons]at hg
    have hs:=he _ (zae hlt)
    (repeat' first|refine zaa [0,2,3,4,5,7,8,9,10,11,12,15,16,17,18,19,25,29,52,60,61,62,63,67,68,69,70,76,123] fun K hK=>?_|(refine hK.go ?_;clear hK K)|with_reducible exact wT|refine wA ?_|(refine wB (fun h=>?_) (fun h=>?_)<;>first|exact wN h|subst (h:(_:Bool)=_)|skip)|(refine wQ ?_;clear hQ hR hE hM)|fail)
    refine zbP (fun j:Nat=>[(0,.sl 3 (l.map Section.c)),(60,.sl 3 (l.map Section.c)),(61,.n l.length),(62,.n k),(7,.ptr 0 3 0),(67,.sl 2 ((nth l k).ends.map Join.c)),(68,.n (nth l k).ends.length),(69,.n j)]) (fun _=>[(0,.cells (nth l k).c true)]) (fun j=>j≤(nth l k).ends.length∧zbO (zij l (nth l k)) j ((nth l k).ends.length-j)=zbO (zij l (nth l k)) 0 (nth l k).ends.length) (fun j=>(nth l k).ends.length-j) 0 ⟨Nat.zero_le _,rfl⟩ (by (try dsimp only);(refine no_implicit_lambda% (st ?_);try with_reducible exact wT)<;>omega) (by (try dsimp only);(refine no_implicit_lambda% (st ?_);try with_reducible exact wT)<;>omega) ?_
    rintro j ⟨hj,hi⟩
    rcases Nat.lt_or_ge j (nth l k).ends.length with hjk|hjk
    ·rw[zgC hjk]at hi
     have c:=zmR hH l (nth (nth l k).ends j).to hl
     cases hpl:(zah l (nth (nth l k).ends j).to).2<;>rw[hpl]at c
     ·(repeat' first|refine zaa [0,2,3,4,5,7,8,9,10,11,12,15,16,17,18,19,25,29,52,60,61,62,63,67,68,69,70,76,123] fun K hK=>?_|(refine hK.go ?_;clear hK K)|with_reducible exact wT|refine wA ?_|(refine wB (fun h=>?_) (fun h=>?_)<;>first|exact wN h|subst (h:(_:Bool)=_)|skip)|(refine wQ ?_;clear hQ hR hE hM)|refine wC c ?_|fail)
      all_goals (first|(refine ⟨j+1,by omega,⟨by omega,by grind[zdV,zij]⟩,(by (try dsimp only);(first|omega|(simp;done)|(simp;omega)))⟩)|(grind[zdV,zij]))
     ·have hpt:=zji hpl
      have hs2:=he _ (zae hpt)
      (repeat' first|refine zaa [0,2,3,4,5,7,8,9,10,11,12,15,16,17,18,19,25,29,52,60,61,62,63,67,68,69,70,76,123] fun K hK=>?_|(refine hK.go ?_;clear hK K)|with_reducible exact wT|refine wA ?_|(refine wB (fun h=>?_) (fun h=>?_)<;>first|exact wN h|subst (h:(_:Bool)=_)|skip)|(refine wQ ?_;clear hQ hR hE hM)|refine wC c ?_|fail)
      all_goals (first|(refine ⟨j+1,by omega,⟨by omega,by grind[zdV,zij]⟩,(by (try dsimp only);(first|omega|(simp;done)|(simp;omega)))⟩)|(grind[zdV,zij]))
    ·rw[zh5 hjk]at hi
     (repeat' first|refine zaa [0,2,3,4,5,7,8,9,10,11,12,15,16,17,18,19,25,29,52,60,61,62,63,67,68,69,70,76,123] fun K hK=>?_|(refine hK.go ?_;clear hK K)|with_reducible exact wT|refine wA ?_|(refine wB (fun h=>?_) (fun h=>?_)<;>first|exact wN h|subst (h:(_:Bool)=_)|skip)|(refine wQ ?_;clear hQ hR hE hM)|fail)
     all_goals (first|(refine ⟨k+1,by omega,⟨by omega,by grind[zdV]⟩,(by (try dsimp only);(first|omega|(simp;done)|(simp;omega)))⟩)|(grind[zdV]))
   ·rw[List.drop_eq_nil_of_le hge,List.all_nil]at hg
    (repeat' first|refine zaa [0,2,3,4,5,7,8,9,10,11,12,15,16,17,18,19,25,29,52,60,61,62,63,67,68,69,70,76,123] fun K hK=>?_|(refine hK.go ?_;clear hK K)|with_reducible exact wT|refine wA ?_|(refine wB (fun h=>?_) (fun h=>?_)<;>first|exact wN h|subst (h:(_:Bool)=_)|skip)|(refine wQ ?_;clear hQ hR hE hM)|fail)
    all_goals (first|rfl|(grind[zdV])|(simp[zdV, *];done)|(simp_all [zdV];done)|(simp_all [zdV]<;>first|omega|((repeat' split)<;>first|rfl|(exfalso;omega))))
end Go.Lev
namespace Go.Lev
open Go.Eng
set_option maxRecDepth 10000
set_option maxHeartbeats 4000000
variable {P:Program} {inv:Nat→Option Nat}
def zdx (l:List Section):Int:=if zep l=true then 0 else 8
theorem rcheck_pc (hH:HasAll P inv) (l:List Section) (hl:l.length≤1000000000) (he:∀ s∈l,s.ends.length≤1000000000):PC P inv 27 [.sl 3 (l.map Section.c)] (·=.n (zdx l)):=by
 refine PC.fn hH cd27 fun w0 M Q hM hE hQ hR=>?_;dsimp only[cd27,qm,ql,qf,qi,qb,qc,qp,qv,qN,qT,qF,qt]at hQ ⊢
 (repeat' first|refine zaa [0,2,5] fun K hK=>?_|(refine hK.go ?_;clear hK K)|with_reducible exact wT|refine wA ?_|(refine wB (fun h=>?_) (fun h=>?_)<;>first|exact wN h|subst (h:(_:Bool)=_)|skip)|(refine wQ ?_;clear hQ hR hE hM)|refine wC (zpb hH l hl he) ?_|fail)
 all_goals (first|rfl|(grind[zdx])|(simp[zdx, *];done)|(simp_all [zdx];done)|(simp_all [zdx]<;>first|omega|((repeat' split)<;>first|rfl|(exfalso;omega))))
def za0:Section:=⟨0,0,[]⟩
def zaw (l:List Section) (id:Int):Section×Int:=if zep l=true then (if ze9 id 0 l<0 then (za0,6) else (nth l (ze9 id 0 l).toNat,0)) else (za0,8)
theorem rfind_pc (hH:HasAll P inv) (l:List Section) (id:Int) (hl:l.length≤1000000000) (he:∀ s∈l,s.ends.length≤1000000):PC P inv 23 [.sl 3 (l.map Section.c),.n id] (·=.tup [.agg (zaw l id).1.c,.n (zaw l id).2]):=by
 have hb:=zmf id l 0
 have he':∀ s∈l,s.ends.length≤1000000000:=fun s hs=>Nat.le_trans (he s hs) (by omega)
 have hx:∀ i:Nat,i<l.length→(nth l i).ends.length≤1000000:=fun i hi=>he _ (zae hi)
 refine PC.fn hH cd23 fun w0 M Q hM hE hQ hR=>?_;dsimp only[cd23,qm,ql,qf,qi,qb,qc,qp,qv,qN,qT,qF,qt]at hQ ⊢
 (repeat' first|refine zaa [0,1,4,5,6,9,15] fun K hK=>?_|(refine hK.go ?_;clear hK K)|with_reducible exact wT|refine wA ?_|(refine wB (fun h=>?_) (fun h=>?_)<;>first|exact wN h|subst (h:(_:Bool)=_)|skip)|(refine wQ ?_;clear hQ hR hE hM)|refine wC (zpb hH l hl he') ?_|(refine zaj hM (at_pc hH _ _ hl) ?_;try (refine no_implicit_lambda% (st ?_);try with_reducible exact wT))|(refine zaj hM (twin_pc hH _ (hx _ (by omega))) ?_;try (refine no_implicit_lambda% (st ?_);try with_reducible exact wT))|fail)
 all_goals (first|rfl|(grind[zaw,za0])|(simp[zaw,za0, *];done)|(simp_all [zaw,za0];done)|(simp_all [zaw,za0]<;>first|omega|((repeat' split)<;>first|rfl|(exfalso;omega))))
theorem znf (hH:HasAll P inv) (l:List Join) (h:l.length≤1000000):PC P inv 47 [.sl 2 (l.map Join.c)] (·=.sl 2 (l.map Join.c)):=by
 refine PC.fn hH cd47 fun w0 M Q hM hE hQ hR=>?_;dsimp only[cd47,qm,ql,qf,qi,qb,qc,qp,qv,qN,qT,qF,qt]at hQ ⊢
 (repeat' first|refine zaa [0,2,4] fun K hK=>?_|(refine hK.go ?_;clear hK K)|with_reducible exact wT|refine wA ?_|(refine wB (fun h=>?_) (fun h=>?_)<;>first|exact wN h|subst (h:(_:Bool)=_)|skip)|(refine wQ ?_;clear hQ hR hE hM)|fail)
 all_goals (first|rfl|(grind[])|(simp[ *];done)|(simp_all [];done)|(simp_all []<;>first|omega|((repeat' split)<;>first|rfl|(exfalso;omega))))
def zot (l:List Section) (id:Int):Section×Int:=if zdV l=0 then (if (zah l id).2=true then (nth l (zah l id).1,0) else (za0,6)) else (za0,zdV l)
theorem find_pc (hH:HasAll P inv) (l:List Section) (id:Int) (hl:l.length≤1000000000) (he:∀ s∈l,s.ends.length≤1000000):PC P inv 22 [.sl 3 (l.map Section.c),.n id] (·=.tup [.agg (zot l id).1.c,.n (zot l id).2]):=by
 have he':∀ s∈l,s.ends.length≤1000000000:=fun s hs=>Nat.le_trans (he s hs) (by omega)
 have hx:∀ i:Nat,i<l.length→(nth l i).ends.length≤1000000:=fun i hi=>he _ (zae hi)
 have c:=zmR hH l id hl
 cases hpl:(zah l id).2<;>rw[hpl]at c
 ·refine PC.fn hH cd22 fun w0 M Q hM hE hQ hR=>?_;dsimp only[cd22,qm,ql,qf,qi,qb,qc,qp,qv,qN,qT,qF,qt]at hQ ⊢
  (repeat' first|refine zaa [0,1,4,5,6,7,8,9,13,23] fun K hK=>?_|(refine hK.go ?_;clear hK K)|with_reducible exact wT|refine wA ?_|(refine wB (fun h=>?_) (fun h=>?_)<;>first|exact wN h|subst (h:(_:Bool)=_)|skip)|(refine wQ ?_;clear hQ hR hE hM)|(refine zaj hM (zjJ hH l hl (fun s hs=>Nat.le_trans (he' s hs) (by omega))) ?_;try (refine no_implicit_lambda% (st ?_);try with_reducible exact wT))|refine wC c ?_|(refine zaj hM (znf hH _ (hx _ (by omega))) ?_;try (refine no_implicit_lambda% (st ?_);try with_reducible exact wT))|fail)
  all_goals (first|rfl|(grind[zot,za0])|(simp[zot,za0, *];done)|(simp_all [zot,za0];done)|(simp_all [zot,za0]<;>first|omega|((repeat' split)<;>first|rfl|(exfalso;omega))))
 ·have hpt:=zji hpl
  refine PC.fn hH cd22 fun w0 M Q hM hE hQ hR=>?_;dsimp only[cd22,qm,ql,qf,qi,qb,qc,qp,qv,qN,qT,qF,qt]at hQ ⊢
  (repeat' first|refine zaa [0,1,4,5,6,7,8,9,13,23] fun K hK=>?_|(refine hK.go ?_;clear hK K)|with_reducible exact wT|refine wA ?_|(refine wB (fun h=>?_) (fun h=>?_)<;>first|exact wN h|subst (h:(_:Bool)=_)|skip)|(refine wQ ?_;clear hQ hR hE hM)|(refine zaj hM (zjJ hH l hl (fun s hs=>Nat.le_trans (he' s hs) (by omega))) ?_;try (refine no_implicit_lambda% (st ?_);try with_reducible exact wT))|refine wC c ?_|(refine zaj hM (znf hH _ (hx _ (by omega))) ?_;try (refine no_implicit_lambda% (st ?_);try with_reducible exact wT))|fail)
  all_goals (first|rfl|(grind[zot,za0])|(simp[zot,za0, *];done)|(simp_all [zot,za0];done)|(simp_all [zot,za0]<;>first|omega|((repeat' split)<;>first|rfl|(exfalso;omega))))
end Go.Lev
namespace Go.Lev
open Go.Eng
def okAt (l:List Section) (j:Nat):Prop:=1≤(nth l j).id∧(nth l j).id≤99∧zbp (nth l j)=true∧(0<j→(nth l (j-1)).id<(nth l j).id)∧∀ i,i<j→(nth l j).pt≠0→(nth l i).pt≠(nth l j).pt
def okAt' (l:List Section) (j:Nat):Prop:=1≤(nth l j).id∧(nth l j).id≤99∧zbp (nth l j)=true∧∀ i,i<j→(nth l i).id<(nth l j).id∧((nth l j).pt≠0→(nth l i).pt≠(nth l j).pt)
theorem zcT (s:Section):zca s=zbp s:=by
 unfold zca zbp zcc
 by_cases h:s.pt=0<;>simp[h]
def Marks (l:List Section) (pts:List Bool) (k:Nat):Prop:=pts.length=100∧∀ p,p<100→(nth pts p=true↔0<p∧∃ i,i<k∧(nth l i).pt=(p:Int))
theorem zbg {α:Type} [Inhabited α] (l:List α) (i j:Nat) (x:α) (h:i<l.length):nth (l.set i x) j=if j=i then x else nth l j:=by
 unfold nth
 by_cases e:j=i
 ·subst e;simp[h]
 ·simp[e,List.getElem?_set,Ne.symm e]
theorem zjI (l:List Section):∀ (r:List Section) (k:Nat) (pts:List Bool),l.drop k=r→Marks l pts k→(ck1 l k pts r=true↔∀ j,k≤j→j<l.length→okAt l j)
 |[],k,pts,hr,_=>by
  have:l.length≤k:=by simpa using hr
  simp[ck1];intro j h1 h2;omega
 |s::r,k,pts,hr,hm=>by
  have hk:k<l.length:=by
   rcases Nat.lt_or_ge k l.length with h|h
   ·exact h
   ·rw[List.drop_eq_nil_of_le h]at hr;cases hr
  rw[zag hk,List.cons.injEq]at hr
  obtain ⟨rfl,hr⟩:=hr
  simp only[ck1,Bool.and_eq_true,Bool.not_eq_true']
  have hb:ziK l k pts (nth l k)=false↔okAt l k:=by
   unfold ziK okAt zcc
   rw[zcT]
   cases hs:zbp (nth l k) with
   |false=>simp
   |true =>
    have hbd:=zfg (by rw[zcT];exact hs)
    have hp:=hm.2 (nth l k).pt.toNat (by omega)
    have e1:(((k:Int)-1).toNat)=k-1:=by omega
    rw[e1]
    have hpf:nth pts (nth l k).pt.toNat=false↔∀ i,i<k→(nth l k).pt≠0→(nth l i).pt≠(nth l k).pt:=by
     rw[←Bool.not_eq_true,hp]
     constructor
     ·intro h i hi h0 he
      exact h ⟨by omega,i,hi,by omega⟩
     ·rintro h ⟨h0,i,hi,he⟩
      exact h i hi (by omega) (by omega)
    simp only[Bool.or_eq_false_iff,Bool.and_eq_false_iff,Bool.not_eq_false',Bool.and_eq_true,decide_eq_true_eq,decide_eq_false_iff_not,hpf]
    constructor
    ·rintro ⟨⟨⟨⟨h1,h2⟩,_⟩,h3⟩,h4⟩
     exact ⟨h1,h2,trivial,fun h0=>by rcases h3 with h3|h3<;>omega,h4⟩
    ·rintro ⟨h1,h2,_,h3,h4⟩
     refine ⟨⟨⟨⟨h1,h2⟩,trivial⟩, ?_⟩,h4⟩
     rcases Nat.eq_zero_or_pos k with h0|h0
     ·left;omega
     ·right;have:=h3 h0;omega
  rw[hb]
  constructor
  ·rintro ⟨h1,h2⟩ j hj hlt
   have hbd:=zfg (by rw[zcT];exact h1.2.2.1)
   have hm':Marks l (pts.set (nth l k).pt.toNat (decide (0<(nth l k).pt))) (k+1):=by
    refine ⟨by simp[hm.1],fun p hp=>?_⟩
    rw[zbg _ _ _ _ (by rw[hm.1];omega)]
    split
    ·rename_i e
     constructor
     ·intro h;simp at h;exact ⟨by omega,k,by omega,by omega⟩
     ·rintro ⟨h0,_⟩;simp;omega
    ·rename_i e
     rw[hm.2 p hp]
     constructor
     ·rintro ⟨h0,i,hi,he⟩;exact ⟨h0,i,by omega,he⟩
     ·rintro ⟨h0,i,hi,he⟩
      refine ⟨h0,i, ?_,he⟩
      rcases Nat.lt_or_ge i k with h|h
      ·exact h
      ·obtain rfl:i=k:=by omega
       omega
   rcases Nat.lt_or_ge k j with h|h
   ·exact (zjI l r (k+1) _ hr hm').1 h2 j (by omega) hlt
   ·obtain rfl:j=k:=by omega
    exact h1
  ·intro h
   have h1:=h k (Nat.le_refl _) hk
   refine ⟨h1, ?_⟩
   have hbd:=zfg (by rw[zcT];exact h1.2.2.1)
   have hm':Marks l (pts.set (nth l k).pt.toNat (decide (0<(nth l k).pt))) (k+1):=by
    refine ⟨by simp[hm.1],fun p hp=>?_⟩
    rw[zbg _ _ _ _ (by rw[hm.1];omega)]
    split
    ·rename_i e
     constructor
     ·intro h;simp at h;exact ⟨by omega,k,by omega,by omega⟩
     ·rintro ⟨h0,_⟩;simp;omega
    ·rename_i e
     rw[hm.2 p hp]
     constructor
     ·rintro ⟨h0,i,hi,he⟩;exact ⟨h0,i,by omega,he⟩
     ·rintro ⟨h0,i,hi,he⟩
      refine ⟨h0,i, ?_,he⟩
      rcases Nat.lt_or_ge i k with h|h
      ·exact h
      ·obtain rfl:i=k:=by omega
       omega
   exact (zjI l r (k+1) _ hr hm').2 fun j hj hlt=>h j (by omega) hlt
theorem marks0 (l:List Section):Marks l (List.replicate 100 false) 0:=by
 refine ⟨by simp,fun p hp=>?_⟩
 rw[zay (by simpa using hp),List.getElem_replicate]
 constructor
 ·intro h;cases h
 ·rintro ⟨_,i,h,_⟩;exact absurd h (Nat.not_lt_zero _)
theorem zhs (l:List Section):∀ (r:List Section) (k:Nat),l.drop k=r→(zgE (l.take k) r=true↔∀ j,k≤j→j<l.length→okAt' l j)
 |[],k,hr=>by
  have:l.length≤k:=by simpa using hr
  simp[zgE];intro j h1 h2;omega
 |s::r,k,hr=>by
  have hk:k<l.length:=by
   rcases Nat.lt_or_ge k l.length with h|h
   ·exact h
   ·rw[List.drop_eq_nil_of_le h]at hr;cases hr
  rw[zag hk,List.cons.injEq]at hr
  obtain ⟨rfl,hr⟩:=hr
  rw[zgE,zoF hk,Bool.and_eq_true,zhs l r (k+1) hr]
  have hb:rOk (l.take k) (nth l k)=true↔okAt' l k:=by
   unfold rOk okAt' ziv
   simp only[Bool.and_eq_true,Bool.not_eq_true',Bool.or_eq_false_iff,decide_eq_false_iff_not,Bool.not_eq_false',List.all_eq_true,Bool.and_eq_false_iff,decide_eq_true_eq]
   constructor
   ·rintro ⟨⟨⟨h1,h2⟩,h3⟩,h4⟩
    refine ⟨by omega,by omega,h3,fun i hi=>?_⟩
    have:=h4 (nth l i) (by rw[←zgK hi];exact zae (by simp;omega))
    refine ⟨by omega,fun h0 he=>?_⟩
    rcases this.2 with h|h
    ·exact h0 h
    ·exact h he
   ·rintro ⟨h1,h2,h3,h4⟩
    refine ⟨⟨⟨by omega,by omega⟩,h3⟩,fun x hx=>?_⟩
    obtain ⟨i,hi,rfl⟩:=List.mem_iff_getElem.1 hx
    have hik:i<k:=by simp at hi;omega
    have:=h4 i hik
    have e:(l.take k)[i]=nth l i:=by rw[←zay hi,zgK hik]
    rw[e]
    refine ⟨by omega, ?_⟩
    by_cases h0:(nth l k).pt=0
    ·exact .inl h0
    ·exact .inr (this.2 h0)
  rw[hb]
  constructor
  ·rintro ⟨h1,h2⟩ j hj hlt
   rcases Nat.lt_or_ge k j with h|h
   ·exact h2 j (by omega) hlt
   ·obtain rfl:j=k:=by omega
    exact h1
  ·intro h
   exact ⟨h k (Nat.le_refl _) hk,fun j hj hlt=>h j (by omega) hlt⟩
def zfS (l:List Section):Prop:=∀ i j,i<j→j<l.length→(nth l i).id<(nth l j).id
theorem zhC {l:List Section} (h:∀ j,j<l.length→okAt l j):zfS l:=by
 intro i j hij hj
 obtain ⟨d,rfl⟩:=Nat.exists_eq_add_of_lt hij
 clear hij
 induction d with
 |zero=>exact (h (i+0+1) hj).2.2.2.1 (by omega)
 |succ d ih =>
  have h1:=ih (by omega)
  have h2:=(h (i+(d+1)+1) hj).2.2.2.1 (by omega)
  have e:i+(d+1)+1-1=i+d+1:=by omega
  rw[e]at h2
  omega
theorem zgS (l:List Section):ck1 l 0 (List.replicate 100 false) l=zgE [] l:=by
 have h1:=zjI l l 0 _ rfl (marks0 l)
 have h2:=zhs l l 0 rfl
 rw[List.take_zero]at h2
 rw[Bool.eq_iff_iff,h1,h2]
 constructor
 ·intro h j _ hj
  have hs:=zhC fun j hj=>h j (Nat.zero_le _) hj
  have:=h j (Nat.zero_le _) hj
  exact ⟨this.1,this.2.1,this.2.2.1,fun i hi=>⟨hs i j hi hj,this.2.2.2.2 i hi⟩⟩
 ·intro h j _ hj
  have:=h j (Nat.zero_le _) hj
  exact ⟨this.1,this.2.1,this.2.2.1,fun h0=>(this.2.2.2 (j-1) (by omega)).1,fun i hi=>(this.2.2.2 i hi).2⟩
theorem zg6 {l:List Section} (h:ck1 l 0 (List.replicate 100 false) l=true):zfS l :=
 zhC fun j hj=>(zjI l l 0 _ rfl (marks0 l)).1 h j (Nat.zero_le _) hj
theorem zqC {a b:Int}:zkO a b<0↔a<b:=by unfold zkO;split<;>(try split)<;>omega
theorem zqD {a b:Int}:zkO a b=0↔a=b:=by unfold zkO;split<;>(try split)<;>omega
theorem zhW {l:List Section} {id:Int} (hs:zfS l):∀ (n i j:Nat),j-i≤n→i≤j→j≤l.length→(∀ x,x<i→(nth l x).id<id)→(∀ x,j≤x→x<l.length→id≤(nth l x).id) →
  (∀ x,x<zgV l id i j→(nth l x).id<id)∧(∀ x,zgV l id i j≤x→x<l.length→id≤(nth l x).id)
 |0,i,j,hn,hij,hj,h1,h2=>by
  obtain rfl:i=j:=by omega
  rw[zjM];exact ⟨h1,h2⟩
 |n+1,i,j,hn,hij,hj,h1,h2=>by
  rcases Nat.lt_or_ge i j with hlt|hge
  ·rw[zkS hlt]
   split
   ·rename_i hc
    rw[zqC]at hc
    refine zhW hs n _ _ (by omega) (by omega) hj (fun x hx=>?_) h2
    rcases Nat.lt_or_ge x ((i+j) / 2) with h|h
    ·have:=hs x ((i+j) / 2) h (by omega);omega
    ·obtain rfl:x=(i+j) / 2:=by omega
     exact hc
   ·rename_i hc
    rw[zqC]at hc
    refine zhW hs n _ _ (by omega) (by omega) (by omega) h1 (fun x hx hxl=>?_)
    rcases Nat.lt_or_ge ((i+j) / 2) x with h|h
    ·have:=hs ((i+j) / 2) x h hxl;omega
    ·obtain rfl:x=(i+j) / 2:=by omega
     omega
  ·obtain rfl:i=j:=by omega
   rw[zjM];exact ⟨h1,h2⟩
theorem zeg (id:Int):∀ (l:List Section) (k:Nat),(ze9 id k l=-1∧∀ i,i<l.length→(nth l i).id≠id)∨∃ p,p<l.length∧ze9 id k l=(k:Int)+p∧(nth l p).id=id
 |[],k=>.inl ⟨rfl,fun i h=>by simp at h⟩
 |x::r,k=>by
  unfold ze9
  split
  ·rename_i h
   exact .inr ⟨0,by simp,by simp,by simpa [nth] using h⟩
  ·rename_i h
   rcases zeg id r (k+1) with ⟨h1,h2⟩|⟨p,h1,h2,h3⟩
   ·refine .inl ⟨h1,fun i hi=>?_⟩
    cases i with
    |zero=>simpa [nth] using h
    |succ i=>simpa [nth] using h2 i (by simpa using hi)
   ·exact .inr ⟨p+1,by simpa using h1,by rw[h2];omega,by simpa [nth] using h3⟩
theorem zmS {l:List Section} (hs:zfS l) (id:Int):((zah l id).2=false∧ze9 id 0 l=-1)∨((zah l id).2=true∧ze9 id 0 l=(zah l id).1):=by
 have hb:=zhW (id:=id) hs l.length 0 l.length (by omega) (by omega) (Nat.le_refl _) (fun x h=>absurd h (Nat.not_lt_zero _)) (fun x h1 h2=>absurd h1 (by omega))
 have hle:=zqK l id l.length 0 l.length (by omega) (by omega)
 unfold zah
 rcases zeg id l 0 with ⟨h1,h2⟩|⟨p,h1,h2,h3⟩
 ·left
  refine ⟨?_,h1⟩
  simp only[Bool.and_eq_false_iff,decide_eq_false_iff_not]
  rcases Nat.lt_or_ge (zgV l id 0 l.length) l.length with h|h
  ·right;rw[zqD];exact h2 _ h
  ·left;omega
 ·right
  have hp:zgV l id 0 l.length=p:=by
   rcases Nat.lt_trichotomy (zgV l id 0 l.length) p with h|h|h
   ·have a:=hb.2 _ (Nat.le_refl _) (by omega)
    have b:=hs _ _ h h1
    omega
   ·exact h
   ·have:=hb.1 p h;omega
  rw[hp]
  refine ⟨?_,by rw[h2];omega⟩
  simp only[Bool.and_eq_true,decide_eq_true_eq,zqD]
  exact ⟨h1,h3⟩
theorem end_eq {l:List Section} (hs:zfS l) (s:Section) (e:Nat):zij l s e=zcs l s e:=by
 unfold zij zcs
 split
 ·rfl
 ·rcases zmS hs (nth s.ends e).to with ⟨h1,h2⟩|⟨h1,h2⟩
  ·rw[h1,h2];simp
  ·have h3:=zji h1
   rw[h1,h2]
   simp only[Int.toNat_natCast]
   split
   ·rename_i h
    rcases h with h|h|h|h
    ·omega
    ·simp[h]
    ·simp[h]
    ·simp[h.1,h.2]
   ·rename_i h
    simp only[not_or]at h
    obtain ⟨_,h4,h5,h6⟩:=h
    simp only[h4,h5,decide_false,Bool.not_true,Bool.false_or,Bool.or_false]
    by_cases h7:(nth s.ends e).to=s.id
    ·by_cases h8:(nth s.ends e).ed=(e:Int)
     ·exact absurd ⟨h7,h8⟩ h6
     ·simp[h8]
    ·simp[h7]
theorem zng (l:List Section):zdV l=zdx l:=by
 unfold zdV zdx zep
 by_cases h16:16<(l.length:Int)
 ·simp[h16]
 ·rw[if_neg h16,zgS]
  cases h1:zgE [] l with
  |false=>simp
  |true =>
   have hs:=zg6 ((zgS l).trans h1)
   have e2:ck2 l=znK l:=by
    unfold ck2 znK
    congr 1
    funext s
    congr 1
    funext e
    exact end_eq hs s e
   simp[h16,e2]
theorem zio {l:List Section} (h:zep l=true):zfS l:=by
 unfold zep at h
 simp only[Bool.and_eq_true]at h
 exact zg6 ((zgS l).trans h.1.2)
theorem find_eq (l:List Section) (id:Int):zot l id=zaw l id:=by
 unfold zot zaw
 rw[zng]
 unfold zdx
 cases hm:zep l with
 |false=>simp
 |true =>
  rcases zmS (zio hm) id with ⟨h1,h2⟩|⟨h1,h2⟩
  ·simp[h1,h2]
  ·rw[h1,h2]
   simp
end Go.Lev
namespace Go.Lev
open Go.Eng
set_option maxRecDepth 10000
set_option maxHeartbeats 4000000
variable {P:Program} {inv:Nat→Option Nat}
def SecOK (l:List Section):Prop:=∀ s∈l,1≤s.id∧s.id≤99∧0≤s.pt∧s.pt≤99∧s.ends.length≤3
theorem zqn {φ:AF} {σ:AS} {t l ver:Nat} {cs:List AV} {b:Bool} (hf:za3 φ t=.ptr l ver 0) (hs:zax σ l=some (.cells cs b)) (hl:cs.length=ver) (hv:0<ver):zdP φ σ [.cell t (some ver)]=some (.agg cs):=by
 subst hl
 have h:zbY cs 0 (some cs.length)=some (.agg cs):=by
  rw[al_s,if_pos (by omega)]
  simp[seg]
 simp[zdP,zh0,ares,hf,zc2,hs,h]
def zhP:List Int→List Section→List Int
 |a,[]=>a
 |a,s::r=>zhP (a.set s.id.toNat s.ends.length) r
theorem zkI:∀ (l:List Section) (a:List Int),(zhP a l).length=a.length
 |[],a=>rfl
 |s::r,a=>by rw[zhP,zkI r];simp
def ends (l:List Section):List Int:=zhP (List.replicate 100 0) l
theorem znb (l:List Section):(ends l).length=100:=by rw[ends,zkI];simp
theorem ends_pc (hH:HasAll P inv) (l:List Section) (hl:l.length≤1000000000) (hs:SecOK l):PC P inv 122 [.sl 3 (l.map Section.c)] (·=.agg ((ends l).map AV.n)):=by
 refine PC.fn hH cd122 fun w0 M Q hM hE hQ hR=>?_;dsimp only[cd122,qm,ql,qf,qi,qb,qc,qp,qv,qN,qT,qF,qt]at hQ ⊢
 (repeat' first|refine zaa [0,2,4,5,6,7,8] fun K hK=>?_|(refine hK.go ?_;clear hK K)|with_reducible exact wT|refine wA ?_|(refine wB (fun h=>?_) (fun h=>?_)<;>first|exact wN h|subst (h:(_:Bool)=_)|skip)|(refine wQ ?_;clear hQ hR hE hM)|fail)
 refine zaz (ι:=Nat×(List Int)) [2,5,6,7] (fun z=>[(7,.n z.1)]) (fun z=>[(0,.cells (z.2.map AV.n) true)]) (fun z=>z.1) (l.length) (fun z=>(z.2.length=100)∧(zhP z.2 (l.drop z.1)=ends l)) (0,List.replicate 100 0) ?_;rintro ⟨k,a⟩ ⟨hk,hp,hg⟩;(try dsimp only at hk hp hg ⊢);rcases Nat.lt_or_ge k l.length with hlt|hge
 ·rw[zag hlt]at hg
  rw[zhP]at hg
  have hb:=hs _ (zae hlt)
  (have hX:=@hp;(repeat' first|refine zaa [0,2,4,5,6,7,8] fun K hK=>?_|(refine hK.go ?_;clear hK K)|with_reducible exact wT|refine wA ?_|(refine wB (fun h=>?_) (fun h=>?_)<;>first|exact wN h|subst (h:(_:Bool)=_)|skip)|(refine wQ ?_;clear hQ hR hE hM)|fail);all_goals clear hX)
  exact nY (k+1,a.set (nth l k).id.toNat (nth l k).ends.length) ⟨by (try dsimp only);omega,by (try dsimp only);simp[hp],hg⟩
 ·rw[List.drop_eq_nil_of_le hge,zhP]at hg
  (have hX:=@hp;(repeat' first|refine zaa [0,2,4,5,6,7,8] fun K hK=>?_|(refine hK.go ?_;clear hK K)|with_reducible exact wT|refine wA ?_|(refine wB (fun h=>?_) (fun h=>?_)<;>first|exact wN h|subst (h:(_:Bool)=_)|skip)|(refine wQ ?_;clear hQ hR hE hM)|fail);all_goals clear hX)
  subst hg
  refine hQ _ _ (.agg ((ends l).map AV.n)) (zqn (l:=0) (b:=true) rfl rfl (by simp[hp]) (by omega)) ?_
  simp only[zff,zi2]
def zoq:List Int→Int→List Section→List Int×Int
 |a,m,[]=>(a,m)
 |a,m,s::r=>if 0<s.pt then zoq (a.set s.pt.toNat s.id) (m+1) r else zoq a m r
def zlt (a:List Int) (x:Pnt):Bool:=decide (x.sec=0)||!decide (nth a x.id.toNat=x.sec)
def pts (l:List Section):List Int×Int:=zoq (List.replicate 100 0) 0 l
def points (p:Pln):Bool:=rise (p.points.map Pnt.id) 6&&(decide ((pts p.sections).2=p.points.length)&&!p.points.any (zlt (pts p.sections).1))
theorem ptBad_pc (hH:HasAll P inv) (a:List Int) (ha:a.length=100) (x:Pnt) (hx:0≤x.id∧x.id≤99):PC P inv 132 ([.agg x.c]++[.ip 100 [a.map AV.n] 0 0]) (·=.b (zlt a x)):=by
 refine PC.fn hH cd132 fun w0 M Q hM hE hQ hR=>?_;dsimp only[cd132,qm,ql,qf,qi,qb,qc,qp,qv,qN,qT,qF,qt]at hQ ⊢
 (have hX:=@ha;(repeat' first|refine zaa [0,1,2,3] fun K hK=>?_|(refine hK.go ?_;clear hK K)|with_reducible exact wT|refine wA ?_|(refine wB (fun h=>?_) (fun h=>?_)<;>first|exact wN h|subst (h:(_:Bool)=_)|skip)|(refine wQ ?_;clear hQ hR hE hM)|fail);all_goals clear hX)
 all_goals (first|rfl|(grind[zlt])|(simp[zlt, *];done)|(simp_all [zlt];done)|(simp_all [zlt]<;>first|omega|((repeat' split)<;>first|rfl|(exfalso;omega))))
theorem zmJ:∀ {l:List Int} {p:Option Int},zdH p l=true→∀ x∈l,1≤x∧x≤99
 |[],_,_,_,h=>by cases h
 |y::r,p,hr,x,hx=>by
  simp only[zdH,Bool.and_eq_true,Bool.not_eq_true',decide_eq_false_iff_not]at hr
  rcases List.mem_cons.1 hx with rfl|hx
  ·omega
  ·exact zmJ hr.2 x hx
theorem zpn (hH:HasAll P inv) (hI:HasIds P inv) (p:Pln) (h1:p.sections.length≤1000000000) (h2:p.points.length≤1000000000) (hs:SecOK p.sections):PC P inv 123 [.agg p.c] (·=.b (points p)):=by
 have c1:=znH hH hI p.points 6 h2
 cases hr:rise (p.points.map Pnt.id) 6 with
 |false =>
  rw[hr]at c1
  refine PC.fn hH cd123 fun w0 M Q hM hE hQ hR=>?_;dsimp only[cd123,qm,ql,qf,qi,qb,qc,qp,qv,qN,qT,qF,qt]at hQ ⊢
  (repeat' first|refine zaa [0,1,2,3,4,6,10,12,13,14,15,20] fun K hK=>?_|(refine hK.go ?_;clear hK K)|with_reducible exact wT|refine wA ?_|(refine wB (fun h=>?_) (fun h=>?_)<;>first|exact wN h|subst (h:(_:Bool)=_)|skip)|(refine wQ ?_;clear hQ hR hE hM)|refine wC c1 ?_|fail)
  all_goals simp[points,hr]
 |true =>
  rw[hr]at c1
  have hid:∀ x∈p.points,0≤x.id∧x.id≤99:=fun x hx=>by
   simp only[rise,Bool.and_eq_true]at hr
   have:=zmJ hr.1 x.id (List.mem_map_of_mem hx)
   omega
  refine PC.fn hH cd123 fun w0 M Q hM hE hQ hR=>?_;dsimp only[cd123,qm,ql,qf,qi,qb,qc,qp,qv,qN,qT,qF,qt]at hQ ⊢
  (repeat' first|refine zaa [0,1,2,3,4,6,10,12,13,14,15,20] fun K hK=>?_|(refine hK.go ?_;clear hK K)|with_reducible exact wT|refine wA ?_|(refine wB (fun h=>?_) (fun h=>?_)<;>first|exact wN h|subst (h:(_:Bool)=_)|skip)|(refine wQ ?_;clear hQ hR hE hM)|refine wC c1 ?_|fail)
  refine zaz (ι:=Nat×(List Int)×Int) [1,2,3,4,12,13,14] (fun z=>[(4,.n z.2.2),(14,.n z.1)]) (fun z=>[(1,.cells (z.2.1.map AV.n) true)]) (fun z=>z.1) (p.sections.length) (fun z=>(z.2.1.length=100)∧(0≤z.2.2∧z.2.2≤z.1)∧(zoq z.2.1 z.2.2 (p.sections.drop z.1)=pts p.sections)) (0,List.replicate 100 0,0) ?_;rintro ⟨k,a,m⟩ ⟨hk,hp,hm,hg⟩;(try dsimp only at hk hp hm hg ⊢);rcases Nat.lt_or_ge k p.sections.length with hlt|hge
  ·rw[zag hlt]at hg
   rw[zoq]at hg
   have hb:=hs _ (zae hlt)
   (have hX:=@hp;(repeat' first|refine zaa [0,1,2,3,4,6,10,12,13,14,15,20] fun K hK=>?_|(refine hK.go ?_;clear hK K)|with_reducible exact wT|refine wA ?_|(refine wB (fun h=>?_) (fun h=>?_)<;>first|exact wN h|subst (h:(_:Bool)=_)|skip)|(refine wQ ?_;clear hQ hR hE hM)|fail);all_goals clear hX)
   ·rw[if_pos (by assumption)]at hg
    exact nY (k+1,a.set (nth p.sections k).pt.toNat (nth p.sections k).id,m+1) ⟨by (try dsimp only);omega,by (try dsimp only);simp[hp],by (try dsimp only);omega,hg⟩
   ·rw[if_neg (by assumption)]at hg
    exact nY (k+1,a,m) ⟨by (try dsimp only);omega,hp,by (try dsimp only);omega,hg⟩
  ·rw[List.drop_eq_nil_of_le hge,zoq]at hg
   have c2:=any_pnt hH p.points (fun x hx=>ptBad_pc hH a hp x (hid x hx)) h2
   (have hX:=@hp;(repeat' first|refine zaa [0,1,2,3,4,6,10,12,13,14,15,20] fun K hK=>?_|(refine hK.go ?_;clear hK K)|with_reducible exact wT|refine wA ?_|(refine wB (fun h=>?_) (fun h=>?_)<;>first|exact wN h|subst (h:(_:Bool)=_)|skip)|(refine wQ ?_;clear hQ hR hE hM)|refine wS c2 ?_|fail);all_goals clear hX)
   all_goals (simp only[points,hr,←hg];clear hg hr;simp[*])
end Go.Lev
namespace Go.Lev
open Go.Eng
set_option maxRecDepth 10000
set_option maxHeartbeats 4000000
variable {P:Program} {inv:Nat→Option Nat}
theorem runs300:zcE ((3,.b false)::(3,.b false)::(3,.b false)::(3,.b false)::(3,.b false)::(3,.b false)::(3,.b false)::(3,.b false)::(3,.b false)::(3,.b false)::(3,.b false)::(3,.b false)::(3,.b false)::(3,.b false)::(3,.b false)::(3,.b false)::(3,.b false)::(3,.b false)::(3,.b false)::(3,.b false)::(3,.b false)::(3,.b false)::(3,.b false)::(3,.b false)::(3,.b false)::(3,.b false)::(3,.b false)::(3,.b false)::(3,.b false)::(3,.b false)::(3,.b false)::(3,.b false)::(3,.b false)::(3,.b false)::(3,.b false)::(3,.b false)::(3,.b false)::(3,.b false)::(3,.b false)::(3,.b false)::(3,.b false)::(3,.b false)::(3,.b false)::(3,.b false)::(3,.b false)::(3,.b false)::(3,.b false)::(3,.b false)::(3,.b false)::(3,.b false)::(3,.b false)::(3,.b false)::(3,.b false)::(3,.b false)::(3,.b false)::(3,.b false)::(3,.b false)::(3,.b false)::(3,.b false)::(3,.b false)::(3,.b false)::(3,.b false)::(3,.b false)::(3,.b false)::(3,.b false)::(3,.b false)::(3,.b false)::(3,.b false)::(3,.b false)::(3,.b false)::(3,.b false)::(3,.b false)::(3,.b false)::(3,.b false)::(3,.b false)::(3,.b false)::(3,.b false)::(3,.b false)::(3,.b false)::(3,.b false)::(3,.b false)::(3,.b false)::(3,.b false)::(3,.b false)::(3,.b false)::(3,.b false)::(3,.b false)::(3,.b false)::(3,.b false)::(3,.b false)::(3,.b false)::(3,.b false)::(3,.b false)::(3,.b false)::(3,.b false)::(3,.b false)::(3,.b false)::(3,.b false)::(3,.b false)::(3,.b false)::[])=(List.replicate 300 false).map AV.b:=rfl
attribute [go_sem high] runs300
def zha (x:Sgn):Nat:=x.sec.toNat*3+x.ed.toNat
def zdT (sec:List Int) (at_:List Bool) (x:Sgn):Bool:=!zc3 sec x.sec||(decide (x.ed<0)||(decide (nth sec x.sec.toNat≤x.ed)||nth at_ (zha x)))
def zj3 (sec:List Int):List Bool→List Sgn→Bool
 |_,[]=>true
 |a,x::r=>!zdT sec a x&&zj3 sec (a.set (zha x) true) r
def signals (p:Pln) (sec:List Int):Bool:=rise (p.signals.map Sgn.id) 10&&zj3 sec (List.replicate 300 false) p.signals
theorem zny (hH:HasAll P inv) (hI:HasIds P inv) (p:Pln) (h2:p.signals.length≤1000000000) (sec:List Int) (hs:sec.length=100) (hs3:∀ i,nth sec i≤3):PC P inv 124 [.agg p.c,.agg (sec.map AV.n)] (·=.b (signals p sec)):=by
 have c1:=znF hH hI p.signals 10 h2
 have ht:(sec.map AV.n).take 100=sec.map AV.n:=List.take_of_length_le (by simp[hs])
 cases hr:rise (p.signals.map Sgn.id) 10 with
 |false =>
  rw[hr]at c1
  refine PC.fn hH cd124 fun w0 M Q hM hE hQ hR=>?_;dsimp only[cd124,qm,ql,qf,qi,qb,qc,qp,qv,qN,qT,qF,qt]at hQ ⊢
  (repeat' first|refine zaa [0,1,2,3,4,5,7,11,13,14,15,16,22,46] fun K hK=>?_|(refine hK.go ?_;clear hK K)|with_reducible exact wT|refine wA ?_|(refine wB (fun h=>?_) (fun h=>?_)<;>first|exact wN h|subst (h:(_:Bool)=_)|skip)|(refine wQ ?_;clear hQ hR hE hM)|refine wC c1 ?_|fail)
  all_goals simp[signals,hr]
 |true =>
  rw[hr]at c1
  refine PC.fn hH cd124 fun w0 M Q hM hE hQ hR=>?_;dsimp only[cd124,qm,ql,qf,qi,qb,qc,qp,qv,qN,qT,qF,qt]at hQ ⊢
  (have hX:=zA @hs @ht;(repeat' first|refine zaa [0,1,2,3,4,5,7,11,13,14,15,16,22,46] fun K hK=>?_|(refine hK.go ?_;clear hK K)|with_reducible exact wT|refine wA ?_|(refine wB (fun h=>?_) (fun h=>?_)<;>first|exact wN h|subst (h:(_:Bool)=_)|skip)|(refine wQ ?_;clear hQ hR hE hM)|refine wC c1 ?_|fail);all_goals clear hX)
  refine zaz (ι:=Nat×(List Bool)) [3,4,5,13,14,15] (fun z=>[(15,.n z.1)]) (fun z=>[(2,.cells (z.2.map AV.b) true)]) (fun z=>z.1) (p.signals.length) (fun z=>(z.2.length=300)∧(zj3 sec z.2 (p.signals.drop z.1)=zj3 sec (List.replicate 300 false) p.signals)) (0,List.replicate 300 false) ?_;rintro ⟨k,a⟩ ⟨hk,hp,hg⟩;(try dsimp only at hk hp hg ⊢);rcases Nat.lt_or_ge k p.signals.length with hlt|hge
  ·rw[zag hlt]at hg
   rw[zj3]at hg
   have c2:=zmx hH sec hs (nth p.signals k).sec
   have hb:=hs3 (nth p.signals k).sec.toNat
   cases hth:zc3 sec (nth p.signals k).sec with
   |false =>
    rw[hth]at c2
    rw[show zdT sec a (nth p.signals k)=true by simp[zdT,hth]]at hg
    (have hX:=zA @hp (zA @hs @ht);(repeat' first|refine zaa [0,1,2,3,4,5,7,11,13,14,15,16,22,46] fun K hK=>?_|(refine hK.go ?_;clear hK K)|with_reducible exact wT|refine wA ?_|(refine wB (fun h=>?_) (fun h=>?_)<;>first|exact wN h|subst (h:(_:Bool)=_)|skip)|(refine wQ ?_;clear hQ hR hE hM)|refine wC c2 ?_|fail);all_goals clear hX)
    all_goals simp only[signals,hr,←hg,Bool.and_false,Bool.not_true,Bool.false_and]
   |true =>
    rw[hth]at c2
    have h0:0≤(nth p.signals k).sec∧(nth p.signals k).sec≤99:=by simp only[zc3,Bool.and_eq_true,decide_eq_true_eq]at hth;omega
    (have hX:=zA @hp (zA @hs @ht);(repeat' first|refine zaa [0,1,2,3,4,5,7,11,13,14,15,16,22,46] fun K hK=>?_|(refine hK.go ?_;clear hK K)|with_reducible exact wT|refine wA ?_|(refine wB (fun h=>?_) (fun h=>?_)<;>first|exact wN h|subst (h:(_:Bool)=_)|skip)|(refine wQ ?_;clear hQ hR hE hM)|refine wC c2 ?_|fail);all_goals clear hX)
    ·rw[show zdT sec a (nth p.signals k)=true by simp[zdT,zha,hth, *]]at hg
     simp only[signals,hr,←hg,Bool.and_false,Bool.not_true,Bool.false_and]
    ·rw[show zdT sec a (nth p.signals k)=true by simp[zdT,zha,hth, *]]at hg
     simp only[signals,hr,←hg,Bool.and_false,Bool.not_true,Bool.false_and]
    ·rw[show zdT sec a (nth p.signals k)=true by simp[zdT,zha,hth, *]]at hg
     simp only[signals,hr,←hg,Bool.and_false,Bool.not_true,Bool.false_and]
    ·rw[show zdT sec a (nth p.signals k)=false by simp[zdT,zha,hth, *]]at hg
     exact nY (k+1,a.set (zha (nth p.signals k)) true) ⟨by (try dsimp only);omega,by (try dsimp only);simp[hp],hg⟩
  ·rw[List.drop_eq_nil_of_le hge,zj3]at hg
   (have hX:=@hp;(repeat' first|refine zaa [0,1,2,3,4,5,7,11,13,14,15,16,22,46] fun K hK=>?_|(refine hK.go ?_;clear hK K)|with_reducible exact wT|refine wA ?_|(refine wB (fun h=>?_) (fun h=>?_)<;>first|exact wN h|subst (h:(_:Bool)=_)|skip)|(refine wQ ?_;clear hQ hR hE hM)|fail);all_goals clear hX)
   all_goals simp only[signals,hr,←hg,Bool.and_self]
end Go.Lev
