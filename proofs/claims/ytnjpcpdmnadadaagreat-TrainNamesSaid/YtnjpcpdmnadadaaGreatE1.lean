/-
  A part of the engine that walks the functions' codes, and of the functions' contracts. Conditions: those that each theorem names.
-/
import Derived.Test.YtnjpcpdmnadadaaGreatL14
import Derived.IntWalk
import Derived.Laws.IdiomCopy
set_option linter.unusedSimpArgs false
set_option linter.unusedVariables false
set_option linter.unusedSectionVars false
namespace Go.Lev
open Go.Eng
set_option maxRecDepth 10000
set_option maxHeartbeats 8000000
variable {P:Program} {inv:Nat→Option Nat} {w0:World} {M:Nat→Prop}
theorem smE3:SmS stE3:=⟨by decide,by decide,by decide⟩
theorem mv31c:mvR zfv stE1 [] ⟨1,2,2,0⟩=(2,[],[]):=by decide +kernel
theorem mv31d:mvR zfv stE3 [trE6] ⟨2,1,0,0⟩=(310,[],[]):=by decide +kernel
theorem mv31e:mvR zfv stE3 [trE6] ⟨1,1,4,0⟩=(2,[],[]):=by decide +kernel
theorem frz44 {n N:Nat} {φ:AF} {σ:AS} {Q:Exit→AF→AS→Prop} {as:List Opd} {ops:List GOp} (hM:∀ b,M b→b<w0.heap.size) (hσ:σ.isEmpty=false) (h:AWp P inv w0 M N n (.regd 1 ((none,.callp 44 211 as)::ops)) Q (snF 4 σ φ) []):AWp P inv w0 M N n (.regd 1 ((none,.callp 44 211 as)::ops)) Q φ σ:=zq0 4 hM h
theorem trainNames_pc (hH:HasAll P inv) (hI:HasIds P inv) (hIn:HasIns P inv):PC P inv 194 [] (·=.b true):=by
 have c0:=zdZ hH
 have c1:=zmU hH hI
 have ca:=zdD hH hI hIn
 have x0:=put0X hH hI hIn zfv smE stE1 smE1 ⟨6,0,[⟨5,0⟩,⟨0,0⟩]⟩ 1 6 0 (by decide +kernel) (by decide +kernel) (by decide) (by decide) (by decide +kernel) (by decide +kernel) (by decide)
 have c2:=zbK hH hI hIn zfv smE stE1 smE1 [] (by decide) (by decide) ⟨1,2,2,0⟩ (by decide)
 rw[mv31c]at c2
 have c3:=zbK hH hI hIn zfv smE stE3 smE3 [trE6] (by decide) (by decide) ⟨2,1,0,0⟩ (by decide)
 rw[mv31d]at c3
 have c4:=zbK hH hI hIn zfv smE stE3 smE3 [trE6] (by decide) (by decide) ⟨1,1,4,0⟩ (by decide)
 rw[mv31e]at c4
 unfold zoj zcm wld at c2 c3 c4
 unfold trE6 at c3 c4
 unfold zcm wld at x0
 have e1:stE1.tracks.length=6:=rfl
 have e2:stE3.tracks.length=6:=rfl
 have e3:stE1.locks.length=3:=rfl
 have e4:(stE1.tracks.map Track.c).flatten.set 11 (.i .u8 1)=(stE3.tracks.map Track.c).flatten:=rfl
 have c3':PC P inv 210 [.agg zfv.c,.agg [.sl 2 (stE3.tracks.map Track.c),.sl 3 (stE1.switches.map Switch.c),.sl 4 (stE1.locks.map Lock.c)],_,_] _:=c3
 replace c3:=c3'
 clear c3'
 have c4':PC P inv 210 [.agg zfv.c,.agg [.sl 2 (stE3.tracks.map Track.c),.sl 3 (stE1.switches.map Switch.c),.sl 4 (stE1.locks.map Lock.c)],_,_] _:=c4
 replace c4:=c4'
 clear c4'
 have l1:=za6 (c:=Track.c) stE1.tracks
 have l2:=za6 (c:=Track.c) stE3.tracks
 have l3:=za6 (c:=Lock.c) stE1.locks
 have m1:=zbm (c:=Track.c) stE1.tracks
 have m2:=zbm (c:=Track.c) stE3.tracks
 have m3:=zbm (c:=Lock.c) stE1.locks
 rw[e1]at l1 m1
 rw[e2]at l2 m2
 rw[e3]at l3 m3
 clear e1 e2 e3
 generalize stE1=S at *
 generalize stE3=T at *
 dsimp only[List.map,List.length,List.flatten,zoE]at x0 c2 c3 c4
 simp -dsimp -implicitDefEqProofs (disch:=omega) only[go_sem,reduceIte,↓reduceIte,Nat.reduceEqDiff,Nat.reduceLT,Nat.reduceLeDiff,Nat.reduceAdd,Nat.reduceSub,Nat.reduceMul,Int.reduceToNat,Int.reduceLT,Int.reduceLE,Int.reduceEq,Int.reduceNeg,Int.reduceNe,reduceCtorEq]at l1 l2 l3
 refine PC.fn hH cd194 fun w0 M Q hM hE hQ hR=>?_;dsimp only[cd194,qm,ql,qf,qi,qb,qc,qp,qv,qN,qT,qF,qt]at hQ ⊢
 (have hX:=zA @l1 (zA @l2 (zA @l3 (zA @m1 (zA @m2 (zA @m3 @e4)))));(repeat' first|(refine frz44 hM rfl ?_;try dsimp only[snF])|refine zaa [0,1,2,3,5,8,11,14,20] fun K hK=>?_|(refine hK.go ?_;clear hK K)|with_reducible exact wT|refine wA ?_|(refine wB (fun h=>?_) (fun h=>?_)<;>first|exact wN h|subst (h:(_:Bool)=_)|skip)|(refine wQ ?_;clear hQ hR hE hM)|refine wO c1 ?_|refine wU c0 ?_|refine wC ca ?_|refine wPX x0 ?_|refine wP c2 ?_|refine wU c3 ?_|refine wU c4 ?_|fail);all_goals clear hX)
 all_goals first|rfl|(exfalso;contradiction)|trace_state
end Go.Lev
