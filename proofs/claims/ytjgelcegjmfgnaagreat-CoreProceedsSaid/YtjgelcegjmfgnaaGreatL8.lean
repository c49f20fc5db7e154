/-
  A part of the engine that walks the functions' codes, and of the functions' contracts. Conditions: those that each theorem names.
-/
import Derived.Test.YtjgelcegjmfgnaaGreatL7
import Derived.IntWalk
set_option linter.unusedSimpArgs false
set_option linter.unusedVariables false
set_option linter.unusedSectionVars false
namespace Go.Eng
structure ActD where
 kind:Int
 id:Int
 value:Int
 data:List Int
 deriving DecidableEq,Inhabited
def byte1 (x:Int):List AV:=[.i .u8 x]
instance:Cells byte1 1:=⟨fun _=>rfl,fun _=>rfl⟩
def ActD.c (x:ActD):List AV:=[.i .u8 x.kind,.n x.id,.n x.value,.sl 1 (x.data.map byte1)]
instance:Cells ActD.c 4:=⟨fun _=>rfl,fun _=>rfl⟩
theorem rep7 {α:Type} (a:α):List.replicate 7 a=[a,a,a,a,a,a,a]:=rfl
attribute [go_sem] byte1 ActD.c rep7
end Go.Eng
namespace Go.Lev
open Go.Eng
set_option maxRecDepth 10000
set_option maxHeartbeats 2000000
variable {P:Program} {inv:Nat→Option Nat} {w0:World} {M:Nat→Prop}
def zge (p:Pln) (s:State) (a:ActD):Int :=
 if a.kind=1 then zbw p s a.id a.value else if a.kind=2 then zcu p s a.id a.value else if a.kind=3 then zac p s
 else if a.kind=4 then zd5 p s a.id a.value else if a.kind=5 then lkC p s a.id else if a.kind=6 then cnC p s a.id else 2
def zhr (p:Pln) (s:State) (a:ActD):State :=
 if a.kind=1 then secR p s a.id a.value else if a.kind=2 then detR p s a.id a.value else if a.kind=3 then zmk p s
 else if a.kind=4 then znf p s a.id a.value else if a.kind=5 then lkS p s a.id else if a.kind=6 then cnR p s a.id else State.z
def doC (p:Pln) (s:State) (a:ActD):Int:=if zac p s=0 then (if zge p s a=0 then zac p (zhr p s a) else zge p s a) else zac p s
def doR (p:Pln) (s:State) (a:ActD):State:=if zac p s=0 then (if zge p s a=0 then zcS p (zhr p s a) else State.z) else State.z
theorem smZ:SmS State.z:=⟨by decide,by decide,by decide⟩
theorem zkU (p:Pln) {s:State} (h:SmS s) (a:ActD):SmS (zhr p s a):=by
 have h1:∀ c:Prop,[Decidable c]→∀ t:State,SmS t→SmS (if c then t else State.z):=fun c _ t ht=>by split;exact ht;exact smZ
 unfold zhr
 repeat' split
 ·exact h1 _ _ ⟨by unfold zdh;dsimp only;rw[za0];exact h.1,h.2⟩
 ·exact h1 _ _ ⟨h.1,by unfold zgU;dsimp only;rw[za0];exact h.2.1,h.2.2⟩
 ·exact h1 _ _ ⟨h.1,h.2.1,by unfold zjT;dsimp only;rw[List.length_map];exact h.2.2⟩
 ·exact h1 _ _ ⟨h.1,by unfold zoB;dsimp only;rw[za0];exact h.2.1,h.2.2⟩
 ·exact h1 _ _ ⟨h.1,by unfold zga;dsimp only;rw[zda];exact h.2.1,by unfold zga;dsimp only;rw[za0];exact h.2.2⟩
 ·exact h1 _ _ ⟨h.1,h.2.1,by unfold cnS;dsimp only;rw[List.length_set];exact h.2.2⟩
 ·exact smZ
theorem zrj (hH:HasAll P inv) (hI:HasIds P inv) (p:Pln) (hp:Sm p) (s:State) (hs:SmS s) (h8:∀ t∈s.tracks,0≤t.is) (a:ActD) (ha:0≤a.kind∧a.kind≤255):PC P inv 207 [.agg p.c,.agg s.c,.agg a.c] (·=.tup [.agg (doR p s a).c,.n (doC p s a)]):=by
 have c0:=zaT hH hI p hp s hs
 unfold doR doC
 by_cases hst:zac p s=0
 ·rw[hst]at c0
  simp only[hst,if_true]
  have c1:=zlb hH hI p hp s hs a.id a.value
  have c2:=det_pc hH hI p hp s hs a.id a.value
  have c3:=tick_pc hH hI p hp s hs
  have c4:=callP_pc hH hI p hp s hs h8 a.id a.value
  have c5:=zgC hH hI p hp s hs a.id
  have c6:=ziV hH hI p hp s hs a.id
  have c7:=zdc hH hI p hp (zhr p s a) (zkU p hs a)
  obtain ⟨kd,id,v,dt⟩:=a
  dsimp only at *
  have key:∀ (n:Int),kd=n→True:=fun _ _=>trivial
  by_cases h6:kd≤6
  ·obtain rfl|rfl|rfl|rfl|rfl|rfl|rfl:kd=0∨kd=1∨kd=2∨kd=3∨kd=4∨kd=5∨kd=6:=by omega
   ·rw[show zge p s ⟨0,id,v,dt⟩=2 by simp[zge],if_neg (by decide),if_neg (by decide)]
    refine PC.fn hH cd207 fun w0 M Q hM hE hQ hR=>?_;dsimp only[cd207,qm,ql,qf,qi,qb,qc,qp,qv,qN,qT,qF,qt]at hQ ⊢
    (repeat' first|refine zaa [0,1,2,3,4,5,6,7,8,9,10,11,16,36,47] fun K hK=>?_|(refine hK.go ?_;clear hK K)|with_reducible exact wT|refine wA ?_|(refine wB (fun h=>?_) (fun h=>?_)<;>first|exact wN h|subst (h:(_:Bool)=_)|skip)|(refine wQ ?_;clear hQ hR hE hM)|refine wC c0 ?_|fail)
    all_goals first|rfl|(exfalso;contradiction)|(exfalso;omega)|skip
   ·rw[show zge p s ⟨1,id,v,dt⟩=zbw p s id v by simp[zge]]
    rw[show zhr p s ⟨1,id,v,dt⟩=secR p s id v by simp[zhr]]at c7 ⊢
    generalize secR p s id v=T at *
    generalize he:zbw p s id v=e at *
    clear he
    generalize zcS p T=U at *
    generalize zac p T=f at *
    by_cases he:e=0
    ·rw[if_pos he,if_pos he]
     subst he
     refine PC.fn hH cd207 fun w0 M Q hM hE hQ hR=>?_;dsimp only[cd207,qm,ql,qf,qi,qb,qc,qp,qv,qN,qT,qF,qt]at hQ ⊢
     skip
     (repeat' first|refine zaa [0,1,2,3,4,5,6,7,8,9,10,11,16,36,47] fun K hK=>?_|(refine hK.go ?_;clear hK K)|with_reducible exact wT|refine wA ?_|(refine wB (fun h=>?_) (fun h=>?_)<;>first|exact wN h|subst (h:(_:Bool)=_)|skip)|(refine wQ ?_;clear hQ hR)|refine wC c0 ?_|(refine AC.callK 40 (by omega) (by first|omega|exact wF|((refine no_implicit_lambda% (st ?_);try with_reducible exact wT);omega)) (zao (F:=cd219) (hH.has _ _ rfl) (Nat.le_of_ble_eq_true rfl) fun Q hQ hR=>?_);dsimp only[cd219,qm,ql,qf,qi,qb,qc,qp,qv,qN,qT,qF,qt]at hQ ⊢;try (refine no_implicit_lambda% (st ?_);try with_reducible exact wT))|refine wC c1 ?_|refine wC c7 ?_|fail)
     all_goals first|rfl|(exfalso;contradiction)|(exfalso;omega)|skip
    ·rw[if_neg he,if_neg he]
     refine PC.fn hH cd207 fun w0 M Q hM hE hQ hR=>?_;dsimp only[cd207,qm,ql,qf,qi,qb,qc,qp,qv,qN,qT,qF,qt]at hQ ⊢
     skip
     (repeat' first|refine zaa [0,1,2,3,4,5,6,7,8,9,10,11,16,36,47] fun K hK=>?_|(refine hK.go ?_;clear hK K)|with_reducible exact wT|refine wA ?_|(refine wB (fun h=>?_) (fun h=>?_)<;>first|exact wN h|subst (h:(_:Bool)=_)|skip)|(refine wQ ?_;clear hQ hR)|refine wC c0 ?_|(refine AC.callK 40 (by omega) (by first|omega|exact wF|((refine no_implicit_lambda% (st ?_);try with_reducible exact wT);omega)) (zao (F:=cd219) (hH.has _ _ rfl) (Nat.le_of_ble_eq_true rfl) fun Q hQ hR=>?_);dsimp only[cd219,qm,ql,qf,qi,qb,qc,qp,qv,qN,qT,qF,qt]at hQ ⊢;try (refine no_implicit_lambda% (st ?_);try with_reducible exact wT))|refine wC c1 ?_|refine wC c7 ?_|fail)
     all_goals first|rfl|(exfalso;contradiction)|(exfalso;omega)|skip
   ·rw[show zge p s ⟨2,id,v,dt⟩=zcu p s id v by simp[zge]]
    rw[show zhr p s ⟨2,id,v,dt⟩=detR p s id v by simp[zhr]]at c7 ⊢
    generalize detR p s id v=T at *
    generalize he:zcu p s id v=e at *
    clear he
    generalize zcS p T=U at *
    generalize zac p T=f at *
    by_cases he:e=0
    ·rw[if_pos he,if_pos he]
     subst he
     refine PC.fn hH cd207 fun w0 M Q hM hE hQ hR=>?_;dsimp only[cd207,qm,ql,qf,qi,qb,qc,qp,qv,qN,qT,qF,qt]at hQ ⊢
     skip
     (repeat' first|refine zaa [0,1,2,3,4,5,6,7,8,9,10,11,16,36,47] fun K hK=>?_|(refine hK.go ?_;clear hK K)|with_reducible exact wT|refine wA ?_|(refine wB (fun h=>?_) (fun h=>?_)<;>first|exact wN h|subst (h:(_:Bool)=_)|skip)|(refine wQ ?_;clear hQ hR)|refine wC c0 ?_|(refine AC.callK 40 (by omega) (by first|omega|exact wF|((refine no_implicit_lambda% (st ?_);try with_reducible exact wT);omega)) (zao (F:=cd220) (hH.has _ _ rfl) (Nat.le_of_ble_eq_true rfl) fun Q hQ hR=>?_);dsimp only[cd220,qm,ql,qf,qi,qb,qc,qp,qv,qN,qT,qF,qt]at hQ ⊢;try (refine no_implicit_lambda% (st ?_);try with_reducible exact wT))|refine wC c2 ?_|refine wC c7 ?_|fail)
     all_goals first|rfl|(exfalso;contradiction)|(exfalso;omega)|skip
    ·rw[if_neg he,if_neg he]
     refine PC.fn hH cd207 fun w0 M Q hM hE hQ hR=>?_;dsimp only[cd207,qm,ql,qf,qi,qb,qc,qp,qv,qN,qT,qF,qt]at hQ ⊢
     skip
     (repeat' first|refine zaa [0,1,2,3,4,5,6,7,8,9,10,11,16,36,47] fun K hK=>?_|(refine hK.go ?_;clear hK K)|with_reducible exact wT|refine wA ?_|(refine wB (fun h=>?_) (fun h=>?_)<;>first|exact wN h|subst (h:(_:Bool)=_)|skip)|(refine wQ ?_;clear hQ hR)|refine wC c0 ?_|(refine AC.callK 40 (by omega) (by first|omega|exact wF|((refine no_implicit_lambda% (st ?_);try with_reducible exact wT);omega)) (zao (F:=cd220) (hH.has _ _ rfl) (Nat.le_of_ble_eq_true rfl) fun Q hQ hR=>?_);dsimp only[cd220,qm,ql,qf,qi,qb,qc,qp,qv,qN,qT,qF,qt]at hQ ⊢;try (refine no_implicit_lambda% (st ?_);try with_reducible exact wT))|refine wC c2 ?_|refine wC c7 ?_|fail)
     all_goals first|rfl|(exfalso;contradiction)|(exfalso;omega)|skip
   ·rw[show zge p s ⟨3,id,v,dt⟩=zac p s by simp[zge]]
    rw[show zhr p s ⟨3,id,v,dt⟩=zmk p s by simp[zhr]]at c7 ⊢
    generalize zmk p s=T at *
    generalize zcS p T=U at *
    generalize zac p T=f at *
    rw[hst]at c3 ⊢
    ·rw[if_pos rfl,if_pos rfl]
     refine PC.fn hH cd207 fun w0 M Q hM hE hQ hR=>?_;dsimp only[cd207,qm,ql,qf,qi,qb,qc,qp,qv,qN,qT,qF,qt]at hQ ⊢
     skip
     (repeat' first|refine zaa [0,1,2,3,4,5,6,7,8,9,10,11,16,36,47] fun K hK=>?_|(refine hK.go ?_;clear hK K)|with_reducible exact wT|refine wA ?_|(refine wB (fun h=>?_) (fun h=>?_)<;>first|exact wN h|subst (h:(_:Bool)=_)|skip)|(refine wQ ?_;clear hQ hR)|refine wC c0 ?_|(refine AC.callK 40 (by omega) (by first|omega|exact wF|((refine no_implicit_lambda% (st ?_);try with_reducible exact wT);omega)) (zao (F:=cd221) (hH.has _ _ rfl) (Nat.le_of_ble_eq_true rfl) fun Q hQ hR=>?_);dsimp only[cd221,qm,ql,qf,qi,qb,qc,qp,qv,qN,qT,qF,qt]at hQ ⊢;try (refine no_implicit_lambda% (st ?_);try with_reducible exact wT))|refine wC c3 ?_|refine wC c7 ?_|fail)
     all_goals first|rfl|(exfalso;contradiction)|(exfalso;omega)|skip
   ·rw[show zge p s ⟨4,id,v,dt⟩=zd5 p s id v by simp[zge]]
    rw[show zhr p s ⟨4,id,v,dt⟩=znf p s id v by simp[zhr]]at c7 ⊢
    generalize znf p s id v=T at *
    generalize he:zd5 p s id v=e at *
    clear he
    generalize zcS p T=U at *
    generalize zac p T=f at *
    by_cases he:e=0
    ·rw[if_pos he,if_pos he]
     subst he
     refine PC.fn hH cd207 fun w0 M Q hM hE hQ hR=>?_;dsimp only[cd207,qm,ql,qf,qi,qb,qc,qp,qv,qN,qT,qF,qt]at hQ ⊢
     skip
     (repeat' first|refine zaa [0,1,2,3,4,5,6,7,8,9,10,11,16,36,47] fun K hK=>?_|(refine hK.go ?_;clear hK K)|with_reducible exact wT|refine wA ?_|(refine wB (fun h=>?_) (fun h=>?_)<;>first|exact wN h|subst (h:(_:Bool)=_)|skip)|(refine wQ ?_;clear hQ hR)|refine wC c0 ?_|(refine AC.callK 40 (by omega) (by first|omega|exact wF|((refine no_implicit_lambda% (st ?_);try with_reducible exact wT);omega)) (zao (F:=cd222) (hH.has _ _ rfl) (Nat.le_of_ble_eq_true rfl) fun Q hQ hR=>?_);dsimp only[cd222,qm,ql,qf,qi,qb,qc,qp,qv,qN,qT,qF,qt]at hQ ⊢;try (refine no_implicit_lambda% (st ?_);try with_reducible exact wT))|refine wC c4 ?_|refine wC c7 ?_|fail)
     all_goals first|rfl|(exfalso;contradiction)|(exfalso;omega)|skip
    ·rw[if_neg he,if_neg he]
     refine PC.fn hH cd207 fun w0 M Q hM hE hQ hR=>?_;dsimp only[cd207,qm,ql,qf,qi,qb,qc,qp,qv,qN,qT,qF,qt]at hQ ⊢
     skip
     (repeat' first|refine zaa [0,1,2,3,4,5,6,7,8,9,10,11,16,36,47] fun K hK=>?_|(refine hK.go ?_;clear hK K)|with_reducible exact wT|refine wA ?_|(refine wB (fun h=>?_) (fun h=>?_)<;>first|exact wN h|subst (h:(_:Bool)=_)|skip)|(refine wQ ?_;clear hQ hR)|refine wC c0 ?_|(refine AC.callK 40 (by omega) (by first|omega|exact wF|((refine no_implicit_lambda% (st ?_);try with_reducible exact wT);omega)) (zao (F:=cd222) (hH.has _ _ rfl) (Nat.le_of_ble_eq_true rfl) fun Q hQ hR=>?_);dsimp only[cd222,qm,ql,qf,qi,qb,qc,qp,qv,qN,qT,qF,qt]at hQ ⊢;try (refine no_implicit_lambda% (st ?_);try with_reducible exact wT))|refine wC c4 ?_|refine wC c7 ?_|fail)
     all_goals first|rfl|(exfalso;contradiction)|(exfalso;omega)|skip
   ·rw[show zge p s ⟨5,id,v,dt⟩=lkC p s id by simp[zge]]
    rw[show zhr p s ⟨5,id,v,dt⟩=lkS p s id by simp[zhr]]at c7 ⊢
    generalize lkS p s id=T at *
    generalize he:lkC p s id=e at *
    clear he
    generalize zcS p T=U at *
    generalize zac p T=f at *
    by_cases he:e=0
    ·rw[if_pos he,if_pos he]
     subst he
     refine PC.fn hH cd207 fun w0 M Q hM hE hQ hR=>?_;dsimp only[cd207,qm,ql,qf,qi,qb,qc,qp,qv,qN,qT,qF,qt]at hQ ⊢
     skip
     (repeat' first|refine zaa [0,1,2,3,4,5,6,7,8,9,10,11,16,36,47] fun K hK=>?_|(refine hK.go ?_;clear hK K)|with_reducible exact wT|refine wA ?_|(refine wB (fun h=>?_) (fun h=>?_)<;>first|exact wN h|subst (h:(_:Bool)=_)|skip)|(refine wQ ?_;clear hQ hR)|refine wC c0 ?_|(refine AC.callK 40 (by omega) (by first|omega|exact wF|((refine no_implicit_lambda% (st ?_);try with_reducible exact wT);omega)) (zao (F:=cd223) (hH.has _ _ rfl) (Nat.le_of_ble_eq_true rfl) fun Q hQ hR=>?_);dsimp only[cd223,qm,ql,qf,qi,qb,qc,qp,qv,qN,qT,qF,qt]at hQ ⊢;try (refine no_implicit_lambda% (st ?_);try with_reducible exact wT))|refine wC c5 ?_|refine wC c7 ?_|fail)
     all_goals first|rfl|(exfalso;contradiction)|(exfalso;omega)|skip
    ·rw[if_neg he,if_neg he]
     refine PC.fn hH cd207 fun w0 M Q hM hE hQ hR=>?_;dsimp only[cd207,qm,ql,qf,qi,qb,qc,qp,qv,qN,qT,qF,qt]at hQ ⊢
     skip
     (repeat' first|refine zaa [0,1,2,3,4,5,6,7,8,9,10,11,16,36,47] fun K hK=>?_|(refine hK.go ?_;clear hK K)|with_reducible exact wT|refine wA ?_|(refine wB (fun h=>?_) (fun h=>?_)<;>first|exact wN h|subst (h:(_:Bool)=_)|skip)|(refine wQ ?_;clear hQ hR)|refine wC c0 ?_|(refine AC.callK 40 (by omega) (by first|omega|exact wF|((refine no_implicit_lambda% (st ?_);try with_reducible exact wT);omega)) (zao (F:=cd223) (hH.has _ _ rfl) (Nat.le_of_ble_eq_true rfl) fun Q hQ hR=>?_);dsimp only[cd223,qm,ql,qf,qi,qb,qc,qp,qv,qN,qT,qF,qt]at hQ ⊢;try (refine no_implicit_lambda% (st ?_);try with_reducible exact wT))|refine wC c5 ?_|refine wC c7 ?_|fail)
     all_goals first|rfl|(exfalso;contradiction)|(exfalso;omega)|skip
   ·rw[show zge p s ⟨6,id,v,dt⟩=cnC p s id by simp[zge]]
    rw[show zhr p s ⟨6,id,v,dt⟩=cnR p s id by simp[zhr]]at c7 ⊢
    generalize cnR p s id=T at *
    generalize he:cnC p s id=e at *
    clear he
    generalize zcS p T=U at *
    generalize zac p T=f at *
    by_cases he:e=0
    ·rw[if_pos he,if_pos he]
     subst he
     refine PC.fn hH cd207 fun w0 M Q hM hE hQ hR=>?_;dsimp only[cd207,qm,ql,qf,qi,qb,qc,qp,qv,qN,qT,qF,qt]at hQ ⊢
     skip
     (repeat' first|refine zaa [0,1,2,3,4,5,6,7,8,9,10,11,16,36,47] fun K hK=>?_|(refine hK.go ?_;clear hK K)|with_reducible exact wT|refine wA ?_|(refine wB (fun h=>?_) (fun h=>?_)<;>first|exact wN h|subst (h:(_:Bool)=_)|skip)|(refine wQ ?_;clear hQ hR)|refine wC c0 ?_|(refine AC.callK 40 (by omega) (by first|omega|exact wF|((refine no_implicit_lambda% (st ?_);try with_reducible exact wT);omega)) (zao (F:=cd224) (hH.has _ _ rfl) (Nat.le_of_ble_eq_true rfl) fun Q hQ hR=>?_);dsimp only[cd224,qm,ql,qf,qi,qb,qc,qp,qv,qN,qT,qF,qt]at hQ ⊢;try (refine no_implicit_lambda% (st ?_);try with_reducible exact wT))|refine wC c6 ?_|refine wC c7 ?_|fail)
     all_goals first|rfl|(exfalso;contradiction)|(exfalso;omega)|skip
    ·rw[if_neg he,if_neg he]
     refine PC.fn hH cd207 fun w0 M Q hM hE hQ hR=>?_;dsimp only[cd207,qm,ql,qf,qi,qb,qc,qp,qv,qN,qT,qF,qt]at hQ ⊢
     skip
     (repeat' first|refine zaa [0,1,2,3,4,5,6,7,8,9,10,11,16,36,47] fun K hK=>?_|(refine hK.go ?_;clear hK K)|with_reducible exact wT|refine wA ?_|(refine wB (fun h=>?_) (fun h=>?_)<;>first|exact wN h|subst (h:(_:Bool)=_)|skip)|(refine wQ ?_;clear hQ hR)|refine wC c0 ?_|(refine AC.callK 40 (by omega) (by first|omega|exact wF|((refine no_implicit_lambda% (st ?_);try with_reducible exact wT);omega)) (zao (F:=cd224) (hH.has _ _ rfl) (Nat.le_of_ble_eq_true rfl) fun Q hQ hR=>?_);dsimp only[cd224,qm,ql,qf,qi,qb,qc,qp,qv,qN,qT,qF,qt]at hQ ⊢;try (refine no_implicit_lambda% (st ?_);try with_reducible exact wT))|refine wC c6 ?_|refine wC c7 ?_|fail)
     all_goals first|rfl|(exfalso;contradiction)|(exfalso;omega)|skip
  ·rw[show zge p s ⟨kd,id,v,dt⟩=2 by unfold zge;rw[if_neg (by dsimp only;omega),if_neg (by dsimp only;omega),if_neg (by dsimp only;omega),if_neg (by dsimp only;omega),if_neg (by dsimp only;omega),if_neg (by dsimp only;omega)],if_neg (by decide),if_neg (by decide)]
   refine PC.fn hH cd207 fun w0 M Q hM hE hQ hR=>?_;dsimp only[cd207,qm,ql,qf,qi,qb,qc,qp,qv,qN,qT,qF,qt]at hQ ⊢
   (repeat' first|refine zaa [0,1,2,3,4,5,6,7,8,9,10,11,16,36,47] fun K hK=>?_|(refine hK.go ?_;clear hK K)|with_reducible exact wT|refine wA ?_|(refine wB (fun h=>?_) (fun h=>?_)<;>first|exact wN h|subst (h:(_:Bool)=_)|skip)|(refine wQ ?_;clear hQ hR hE hM)|refine wC c0 ?_|fail)
   all_goals first|rfl|(exfalso;contradiction)|(exfalso;omega)|skip
 ·simp only[if_neg hst]
  generalize zac p s=e at c0 hst ⊢
  refine PC.fn hH cd207 fun w0 M Q hM hE hQ hR=>?_;dsimp only[cd207,qm,ql,qf,qi,qb,qc,qp,qv,qN,qT,qF,qt]at hQ ⊢
  (repeat' first|refine zaa [0,1,2,3,4,5,6,7,8,9,10,11,16,36,47] fun K hK=>?_|(refine hK.go ?_;clear hK K)|with_reducible exact wT|refine wA ?_|(refine wB (fun h=>?_) (fun h=>?_)<;>first|exact wN h|subst (h:(_:Bool)=_)|skip)|(refine wQ ?_;clear hQ hR hE hM)|refine wC c0 ?_|fail)
  all_goals first|rfl|(exfalso;contradiction)|skip
end Go.Lev
namespace Go.Lev
open Go.Eng
theorem zro {p:Pln} {s:State} {n:Int} (h:zac p s=0) (e:cnC p s n=0):∃ i,i<s.locks.length∧(nth s.locks i).id=n∧ze0 s n=(i:Int)∧cnC0 s (zak p (nth p.routes i)).1 (nth s.locks i)=0:=by
 rcases zaQ Lock.id n s.locks with ⟨h4,_⟩|⟨i,hi,h4,h5⟩
 ·unfold cnC at e
  rw[if_pos h,show ze0 s n=-1 from h4,if_pos (by decide)]at e
  cases e
 ·subst h5
  rw[zrp h hi]at e
  exact ⟨i,hi,rfl,h4,e⟩
structure StepS (p:Pln) (s:State) (a:ActD) (u:State):Prop where
 st:zac p s=0
 act:zge p s a=0
 eq:zhr p s a=u
 code:zac p u=0
 all:(a.kind=1∧u=zdh s a.id a.value∧ziw s a.id∧(a.value=0∨a.value=1))∨(a.kind=2∧u=zgU s a.id a.value∧zky s a.id∧0≤a.value∧a.value≤2)∨(a.kind=3∧u=zjT s) ∨
  (a.kind=4∧u=zoB s a.id a.value∧MayCall p s a.id∧(a.value=1∨a.value=2))∨(a.kind=5∧∃ i,MaySet p s a.id i∧u=zga s a.id (zbM p i))∨(a.kind=6∧u=cnS p s a.id∧cnC p s a.id=0)
theorem zjY {p:Pln} {s:State} {a:ActD} (h:doC p s a=0):∃ u,StepS p s a u∧doR p s a=zax p u:=by
 unfold doC at h
 by_cases hst:zac p s=0
 ·rw[if_pos hst]at h
  by_cases hac:zge p s a=0
  ·rw[if_pos hac]at h
   refine ⟨zhr p s a,⟨hst,hac,rfl,h, ?_⟩,by unfold doR zcS;rw[if_pos hst,if_pos hac,if_pos h]⟩
   clear h
   unfold zge at hac
   unfold zhr
   split at hac
   ·rename_i hk
    rw[if_pos hk]
    unfold secR
    rw[if_pos hac]
    have:=(zbO hst).1 hac
    exact .inl ⟨hk,rfl,this.1,this.2⟩
   ·rename_i hk1
    rw[if_neg hk1]
    split at hac
    ·rename_i hk
     rw[if_pos hk]
     unfold detR
     rw[if_pos hac]
     have:=(zdL hst).1 hac
     exact .inr (.inl ⟨hk,rfl,this.1,this.2⟩)
    ·rename_i hk2
     rw[if_neg hk2]
     split at hac
     ·rename_i hk
      rw[if_pos hk]
      unfold zmk
      rw[if_pos hst]
      exact .inr (.inr (.inl ⟨hk,rfl⟩))
     ·rename_i hk3
      rw[if_neg hk3]
      split at hac
      ·rename_i hk
       rw[if_pos hk]
       unfold znf
       rw[if_pos hac]
       have:=zl4.1 hac
       exact .inr (.inr (.inr (.inl ⟨hk,rfl,this.1,this.2⟩)))
      ·rename_i hk4
       rw[if_neg hk4]
       split at hac
       ·rename_i hk
        rw[if_pos hk]
        obtain ⟨i,hm⟩:=zmS.1 hac
        exact .inr (.inr (.inr (.inr (.inl ⟨hk,i,hm,hm.lkS⟩))))
       ·rename_i hk5
        rw[if_neg hk5]
        split at hac
        ·rename_i hk
         rw[if_pos hk]
         unfold cnR
         rw[if_pos hac]
         exact .inr (.inr (.inr (.inr (.inr ⟨hk,rfl,hac⟩))))
        ·cases hac
  ·rw[if_neg hac]at h
   exact absurd h hac
 ·rw[if_neg hst]at h
  exact absurd h hst
end Go.Lev
namespace Go.Lev
open Go.Eng
set_option maxRecDepth 10000
set_option maxHeartbeats 4000000
variable {P:Program} {inv:Nat→Option Nat} {w0:World} {M:Nat→Prop}
theorem zlt (hH:HasAll P inv):PC P inv 208 [] (·=.agg zdf.c):=by
 have h:PC P inv 208 [] (·=.agg [.n 1,.n 0,.sl 3 (zdf.sections.map Section.c),.sl 2 (zdf.points.map Pnt.c),.sl 3 (zdf.signals.map Sgn.c),.sl 7 [[.n 1,.n 1,.n 0,.sl 1 [[.n 2],[.n 3]],.s0 1,.s0 2,.n 3],[.n 2,.n 1,.n 0,.sl 1 [[.n 2],[.n 4]],.s0 1,.s0 2,.n 4]]]):=by
  refine PC.fn hH cd208 fun w0 M Q hM hE hQ hR=>?_;dsimp only[cd208,qm,ql,qf,qi,qb,qc,qp,qv,qN,qT,qF,qt]at hQ ⊢
  (repeat' first|refine zaa [0] fun K hK=>?_|(refine hK.go ?_;clear hK K)|with_reducible exact wT|refine wA ?_|(refine wB (fun h=>?_) (fun h=>?_)<;>first|exact wN h|subst (h:(_:Bool)=_)|skip)|(refine wQ ?_;clear hQ hR hE hM)|fail)
  rfl
 exact h.nzr
theorem zoG (hH:HasAll P inv) (hI:HasIds P inv):PC P inv 206 [] (·=.tup [.agg stQ.c,.b true]):=by
 suffices h:PO P inv 206 [] (.tup [zf8 3 stQ,.b true]) (zf9 3 stQ) by
  have:=h.pc
  rw[zgm]at this
  exact this
 have c0:=zlt hH
 have c1:=zp2 hH hI zdf smC okC
 rw[atC]at c1
 unfold stV stR at c1
 have e1:stN.tracks.length=4:=rfl
 have e2:stN.switches.length=1:=rfl
 have e3:stN.locks.length=2:=rfl
 have q1:stN.tracks.mapIdx zfg=stQ.tracks:=rfl
 have q2:stN.switches=stQ.switches:=rfl
 have q3:stN.locks=stQ.locks:=rfl
 have r1:stQ.tracks.length=4:=rfl
 have r2:stQ.switches.length=1:=rfl
 have r3:stQ.locks.length=2:=rfl
 generalize stN=S at *
 generalize stQ=T at *
 rw[e1,e2,e3]at c1
 refine PO.fn hH cd206 fun w0 M Q hM hE hQ hR=>?_;dsimp only[cd206,qm,ql,qf,qi,qb,qc,qp,qv,qN,qT,qF,qt]at hQ ⊢
 (have hX:=zA @e1 (zA @e2 @e3);(repeat' first|refine zaa [0,1,2,3,4,14] fun K hK=>?_|(refine hK.go ?_;clear hK K)|with_reducible exact wT|refine wA ?_|(refine wB (fun h=>?_) (fun h=>?_)<;>first|exact wN h|subst (h:(_:Bool)=_)|skip)|(refine wR ?_;clear hQ hR hE hM)|refine wC c0 ?_|refine wO c1 ?_|fail);all_goals clear hX)
 refine zap (ι:=Nat) [0,1,2,3,4] (fun z=>[(4,.n z)]) (fun z=>[(3,.cells ((zdz zfg z S.tracks).map Track.c).flatten true)]) (fun z=>z) (4) (fun _=>True) (0) ?_;rintro k ⟨hk,-⟩;(try dsimp only at hk ⊢);rcases Nat.lt_or_ge k 4 with hlt|hge
 ·have hk:k<S.tracks.length:=by omega
  have d1:=zcv zfg hk
  have d2:=zbo (c:=Track.c) (l:=zdz zfg k S.tracks) (k:=k) (i:=1) (by rw[zbm];exact hk) (by omega) (.i .u8 0) (zfg k (nth S.tracks k)) (by rw[zby _ hk];rfl)
  rw[d1]at d2
  (have hX:=@d2;(repeat' first|refine zaa [0,1,2,3,4,14] fun K hK=>?_|(refine hK.go ?_;clear hK K)|with_reducible exact wT|refine wA ?_|(refine wB (fun h=>?_) (fun h=>?_)<;>first|exact wN h|subst (h:(_:Bool)=_)|skip)|(refine wR ?_;clear hQ hR hE hM)|fail);all_goals clear hX)
  exact ⟨k+1,by omega,by omega,by omega,rfl⟩
 ·rw[zcZ _ (by omega),q1]
  (repeat' first|refine zaa [0,1,2,3,4,14] fun K hK=>?_|(refine hK.go ?_;clear hK K)|with_reducible exact wT|refine wA ?_|(refine wB (fun h=>?_) (fun h=>?_)<;>first|exact wN h|subst (h:(_:Bool)=_)|skip)|(refine wR ?_;clear hQ hR hE hM)|fail)
  all_goals first|(exfalso;omega)|skip
  left
  unfold zf8 zf9
  rw[r1,r2,r3,←q2,←q3]
  constructor
  ·(try (refine no_implicit_lambda% (st ?_);try with_reducible exact wT))
   first|rfl|(simp;done)|trace_state
  ·(try (refine no_implicit_lambda% (st ?_);try with_reducible exact wT))
   first|rfl|(simp;done)|trace_state
theorem PC.arg3 {j:Nat} {a b c c':AV} {R:AV→Prop} (h:PC P inv j [a,b,c'] R) (hr:∀ ctx v,rel ctx c v→rel ctx c' v):PC P inv j [a,b,c] R:=fun g hg M w vs hM ha=>h g hg M w vs hM (by
 simp only[zbT]at ha ⊢
 obtain ⟨y,ys,e,h1,y2,ys2,e2,h2,y3,ys3,e3,h3,h4⟩:=ha
 exact ⟨y,ys,e,h1,y2,ys2,e2,h2,y3,ys3,e3,hr _ _ h3,h4⟩)
theorem zri (hH:HasAll P inv) (hI:HasIds P inv) (p:Pln) (hp:Sm p) (s:State) (hs:SmS s) (h8:∀ t∈s.tracks,0≤t.is) (kd id v:Int) (ha:0≤kd∧kd≤255):PC P inv 207 [.agg p.c,.agg s.c,.agg [.i .u8 kd,.n id,.n v,.s0 1]] (·=.tup [.agg (doR p s ⟨kd,id,v,[]⟩).c,.n (doC p s ⟨kd,id,v,[]⟩)]) :=
 PC.arg3 (zrj hH hI p hp s hs h8 ⟨kd,id,v,[]⟩ ha) fun ctx v h=>by
  have:=zlj ctx _ v h
  simp only[nz,nzL]at this
  exact this
theorem do23:doC zdf stQ ⟨5,1,0,[]⟩=0∧doR zdf stQ ⟨5,1,0,[]⟩=znC:=by
 constructor<;>decide +kernel
theorem zgS (hH:HasAll P inv) (hI:HasIds P inv):PC P inv 205 [] (·=.b true):=by
 have c0:=zlt hH
 have c1:=zoG hH hI
 have c3:=zri hH hI zdf smC stQ smQ (by decide) 5 1 0 (by decide)
 rw[do23.1,do23.2]at c3
 unfold stQ at c1 c3
 unfold znC at c3
 refine PC.fn hH cd205 fun w0 M Q hM hE hQ hR=>?_;dsimp only[cd205,qm,ql,qf,qi,qb,qc,qp,qv,qN,qT,qF,qt]at hQ ⊢
 (repeat' first|refine zaa [0,1,2,3,4] fun K hK=>?_|(refine hK.go ?_;clear hK K)|with_reducible exact wT|refine wA ?_|(refine wB (fun h=>?_) (fun h=>?_)<;>first|exact wN h|subst (h:(_:Bool)=_)|skip)|(refine wQ ?_;clear hQ hR hE hM)|refine wC c1 ?_|refine wU c0 ?_|refine wU c3 ?_|refine wC c0 ?_|refine wC c3 ?_|fail)
 all_goals first|rfl|(exfalso;contradiction)|trace_state
end Go.Lev
namespace Go.Lev
open Go.Eng
def zi8:Sh:=.st [.i .u8,.i .i64,.i .i64,.s 1 (.i .u8)]
theorem of_byte (d:D) (h:Sh.ok (.i .u8) d):∃ x:Int,Sh.av (.i .u8) d=byte1 x∧U8 x:=by
 obtain ⟨a,rfl,ha⟩:=of_u8 h
 exact ⟨a,rfl,ha⟩
theorem of_act (d:D) (h:Sh.ok zi8 d):∃ a:ActD,Sh.av zi8 d=a.c∧0≤a.kind∧a.kind≤255:=by
 obtain ⟨l,rfl,h⟩:=zhi h
 obtain ⟨d1,l,rfl,h1,h⟩:=zaF h
 obtain ⟨d2,l,rfl,h2,h⟩:=zaF h
 obtain ⟨d3,l,rfl,h3,h⟩:=zaF h
 obtain ⟨d4,l,rfl,h4,h⟩:=zaF h
 obtain rfl:=zd8 h
 obtain ⟨a,rfl,ha⟩:=of_u8 h1
 obtain ⟨b,rfl,hb⟩:=zbb h2
 obtain ⟨c,rfl,hc⟩:=zbb h3
 obtain ⟨l4,rfl,m4,h4⟩:=of_s h4
 obtain ⟨xs,e4,f4,g4⟩:=zdX of_byte l4 h4
 refine ⟨⟨a,b,c,xs⟩, ?_,ha.1,ha.2⟩
 simp only[Sh.av,zcX,zi8,e4,ActD.c,List.cons_append,List.nil_append]
theorem arg_act {d:D} (h:Sh.ok zi8 d):∃ a:ActD,Sh.arg zi8 d=.agg a.c∧0≤a.kind∧a.kind≤255:=by
 obtain ⟨s,e,h⟩:=of_act d h
 refine ⟨s, ?_,h⟩
 cases d with
 |l l=>simpa only[Sh.arg,zi8,Sh.av,AV.agg.injEq] using e
 |n _=>simp only[Sh.av,zi8,ActD.c]at e;cases e
 |t _=>simp only[Sh.av,zi8,ActD.c]at e;cases e
theorem arg_acts {d:D} (h:Sh.ok (.s 4 zi8) d):∃ l:List ActD,Sh.arg (.s 4 zi8) d=.sl 4 (l.map ActD.c)∧∀ a∈l,0≤a.kind∧a.kind≤255:=by
 obtain ⟨as,h1,_,h3⟩:=arg_list of_act h
 exact ⟨as,h1,h3⟩
end Go.Lev
namespace Go.Lev
open Go.Eng
section
variable {p:Pln} {s u:State} {a:ActD} (g:StepS p s a u)
include g
end
def put1 (o:List Int) (n v:Int):List Int:=if 0<n∧n<100 then o.set n.toNat v else o
def zeV (path:List Int) (gone v:Int):Nat→List Int→List Int
 |0,o=>o
 |k+1,o=>if gone≤(k:Int) then put1 (zeV path gone v k o) (nth path k) v else zeV path gone v k o
def zhc (p:Pln) (s:State):Nat→List Int
 |0=>List.replicate 100 0
 |i+1=>if (nth s.locks i).phase=0 then zhc p s i else zeV (nth p.routes i).over 0 (nth s.locks i).id (nth p.routes i).over.length (zeV (nth p.routes i).path (nth s.locks i).gone (nth s.locks i).id (nth p.routes i).path.length (zhc p s i))
@[simp] theorem hldP_0 (path:List Int) (gone v:Int) (o:List Int):zeV path gone v 0 o=o:=rfl
end Go.Lev
namespace Go.Lev
open Go.Eng
set_option maxRecDepth 10000
set_option maxHeartbeats 4000000
variable {P:Program} {inv:Nat→Option Nat} {w0:World} {M:Nat→Prop}
structure SafeI (p:Pln) (X:State):Prop where
 sm:SmS X
 u8:∀ t∈X.tracks,0≤t.is
 code:zac p X=0
end Go.Lev
namespace Go.Lev
open Go.Eng
def zbC (p:Pln) (s:State) (n v:Int):State:=zax p (zdh s n v)
theorem zhJ {p:Pln} {s:State} {n v:Int} (h:zac p s=0) (hv:v≤2):zac p (zbC p s n v)=0:=zcF (zcG h hv)
theorem zdQ (p:Pln) (s:State) (n v:Int):(zbC p s n v).locks.length=s.locks.length:=zcw _ _
theorem zfn {p:Pln} {s:State} {n v:Int} (h:zac p s=0) (hv:v≤2) {i:Nat} (hi:i<s.locks.length):nth (zbC p s n v).locks i=za5 (nth p.routes i) (zbB (zdh s n v)) (nth s.locks i):=zgq (zcG h hv) hi
theorem zg9 {p:Pln} {s:State} (h:zac p s=0) {n v:Int} (hn:∃ q∈p.sections,q.id=n):zbB (zdh s n v) n=v:=by
 rw[zfO]
 obtain ⟨t,ht,et⟩:=zhG (zab h).2.1 hn
 cases e:s.tracks.find? (fun t=>decide (t.id=n)) with
 |none =>
  have:=List.find?_eq_none.1 e t ht
  simp[et]at this
 |some u =>
  have:u.id=n:=by simpa using List.find?_some e
  dsimp only
  rw[if_pos this]
section
variable {r:Rte} {is:Int→Int} {id:Int} (h0:0<r.path.length) (ht:1≤r.timer)
include h0 ht
theorem stl_D1 (h1:is (nth r.path (r.path.length-1))=1):za5 r is ⟨id,3,(r.path.length:Int)-1,r.timer⟩=⟨id,3,(r.path.length:Int)-1,r.timer⟩:=by
 refine zbZ ?_
 unfold zbv
 rw[if_neg (by simp),if_neg (by simp),if_pos rfl,if_neg (by rw[h1];decide)]
theorem stl_B {g:Nat} (hg:g+1<r.path.length) (h1:is (nth r.path g)=1):za5 r is ⟨id,2,g,0⟩=⟨id,2,g,0⟩:=by
 refine zbZ ?_
 unfold zbv
 rw[if_neg (by simp),if_pos rfl]
 dsimp only
 rw[Int.toNat_natCast,if_neg (fun h=>by rw[h1]at h;exact absurd h.2.1 (by decide)),if_neg (fun h=>by omega),if_neg (fun h=>by omega)]
theorem stl_E {g:Nat} (hg:g+1=r.path.length) (h1:is (nth r.path g)=1):za5 r is ⟨id,2,g,0⟩=⟨id,3,(r.path.length:Int)-1,r.timer⟩:=by
 have hp:zaq ⟨id,2,g,0⟩ r=true:=by simp[zaq];omega
 have h2:is (nth r.path (r.path.length-1))=1:=by rw[show r.path.length-1=g by omega];exact h1
 rw[←zcE hp h0 ht]
 have:zbv r is ⟨id,2,g,0⟩=⟨id,3,(r.path.length:Int)-1,r.timer⟩:=by
  unfold zbv
  rw[if_neg (by simp),if_pos rfl]
  dsimp only
  rw[if_neg (fun h=>by omega),if_pos ⟨by omega,h2⟩]
 rw[this]
 exact stl_D1 h0 ht h2
def goL (r:Rte) (id:Int) (g:Nat):Lock:=if g+1=r.path.length then ⟨id,3,(r.path.length:Int)-1,r.timer⟩ else ⟨id,2,g,0⟩
theorem stl_2 {g:Nat} (hg:g<r.path.length) (h1:is (nth r.path g)=1):za5 r is ⟨id,2,g,0⟩=goL r id g:=by
 unfold goL
 split
 ·exact stl_E h0 ht (by assumption) h1
 ·exact stl_B h0 ht (by omega) h1
theorem stl_C {g:Nat} (hg:g+1<r.path.length) (h1:is (nth r.path g)=0) (h2:is (nth r.path (g+1))=1):za5 r is ⟨id,2,g,0⟩=goL r id (g+1):=by
 have hp:zaq ⟨id,2,g,0⟩ r=true:=by simp[zaq];omega
 rw[←zcE hp h0 ht]
 have:zbv r is ⟨id,2,g,0⟩=⟨id,2,((g+1:Nat):Int),0⟩:=by
  unfold zbv
  rw[if_neg (by simp),if_pos rfl]
  dsimp only
  rw[if_pos ⟨by omega,by rw[Int.toNat_natCast];exact ⟨h1,h2⟩⟩]
  simp
 rw[this]
 exact stl_2 h0 ht (by omega) h2
end
theorem zfT (r:Rte) (id:Int) (g:Nat):(goL r id g).gone=g:=by
 unfold goL
 split
 ·dsimp only;omega
 ·rfl
theorem zeu (r:Rte) (id:Int) (g:Nat):(goL r id g).phase=2∨(goL r id g).phase=3:=by
 unfold goL
 split
 ·exact .inr rfl
 ·exact .inl rfl
theorem goL_id (r:Rte) (id:Int) (g:Nat):(goL r id g).id=id:=by unfold goL;split<;>rfl
section
variable (p:Pln) (at' d:Nat)
structure TrI (i:Nat) (t:State):Prop where
 code:zac p t=0
 sm:SmS t
 lt:at'<t.locks.length
 is:∀ k,k<(nth p.routes at').path.length→zbB t (nth (nth p.routes at').path k)=if i-d≤k∧k<i then 1 else 0
 lk0:i=0→(nth t.locks at').id=(nth p.routes at').id∧(nth t.locks at').phase=1∧(nth t.locks at').gone=0∧(nth t.locks at').left=0
 lk:0<i→nth t.locks at'=goL (nth p.routes at') (nth p.routes at').id (i-d)
end
section
variable {p:Pln} {at' d:Nat} {i:Nat} {t:State}
theorem zhw {s:State} (h:zac p s=0) (ha:at'<p.routes.length) {k:Nat} (hk:k<(nth p.routes at').path.length):∃ q∈p.sections,q.id=nth (nth p.routes at').path k :=
 (zbU (zae h) (zad ha)).1 _ (List.mem_append.2 (.inl (zad hk)))
theorem path_inj {s:State} (h:zac p s=0) (ha:at'<p.routes.length) {j k:Nat} (hj:j<(nth p.routes at').path.length) (hk:k<(nth p.routes at').path.length) (e:nth (nth p.routes at').path j=nth (nth p.routes at').path k):j=k:=by
 have hn:=(List.nodup_append.1 (zbU (zae h) (zad ha)).2).1
 exact zit (fun x:Int=>x) (by simpa using hn) hj hk e
theorem zjS {s:State} (h:zac p s=0) (ha:at'<p.routes.length) {j k:Nat} (hj:j<(nth p.routes at').path.length) (hk:k<(nth p.routes at').path.length) (v:Int):zbB (zdh s (nth (nth p.routes at').path j) v) (nth (nth p.routes at').path k)=if k=j then v else zbB s (nth (nth p.routes at').path k):=by
 by_cases e:k=j
 ·subst e
  rw[if_pos rfl,zg9 h (zhw h ha hk)]
 ·rw[if_neg e,zg8 fun e2=>e (path_inj h ha hk hj e2)]
variable (hd:d=1∨d=2) (g:TrI p at' d i t) (hi:i<(nth p.routes at').path.length)
include g
theorem TrI.ra:at'<p.routes.length:=by have:=zag (zab g.code).2.1;have:=g.lt;omega
theorem TrI.pre:0<(nth p.routes at').path.length∧1≤(nth p.routes at').timer:=by
 have hr:nth p.routes at'∈p.routes:=zad g.ra
 exact ⟨by have:=(zbI (zae g.code) hr).1;omega,(zdm (zae g.code) hr).1⟩
include hd hi
end
section
variable {p:Pln} {at' d:Nat} {i:Nat} {t:State} (g:TrI p at' d i t)
include g
theorem TrI.holds (hi:0<i) {x:Int} (hx:x∈(nth p.routes at').path.drop (i-d)):nth (zav p t).1 x.toNat=(nth p.routes at').id∧zlD p x=true:=by
 have hr:nth p.routes at'∈p.routes:=zad g.ra
 obtain ⟨q,hq,e⟩:=(zbU (zae g.code) hr).1 x (List.mem_append.2 (.inl (List.mem_of_mem_drop hx)))
 have hrng:=zcH (zae g.code) hq
 have hid:(nth p.routes at').id=(nth t.locks at').id:=by rw[g.lk hi,goL_id]
 refine ⟨?_,List.any_eq_true.2 ⟨q,hq,by simpa using e⟩⟩
 rw[hid]
 refine (zhz g.code g.lt (by omega)).2 ?_
 unfold zgd zbk
 rw[g.lk hi,if_neg (by rcases zeu (nth p.routes at') (nth p.routes at').id (i-d) with h|h<;>rw[h]<;>decide),zfT,Int.toNat_natCast,(zbg ((zaU (zab g.code).1).2.1 _ hr)).1]
 exact List.mem_append.2 (.inl hx)
theorem TrI.tail (hi:i=(nth p.routes at').path.length) (h1:d=2) (h2:1<i):zac p (zbC p t (nth (nth p.routes at').path (i-2)) 0)=0∧at'<(zbC p t (nth (nth p.routes at').path (i-2)) 0).locks.length ∧
  nth (zbC p t (nth (nth p.routes at').path (i-2)) 0).locks at'=⟨(nth p.routes at').id,3,((nth p.routes at').path.length:Int)-1,(nth p.routes at').timer⟩:=by
 obtain ⟨h0,ht⟩:=g.pre
 refine ⟨zhJ g.code (by decide),by rw[zdQ];exact g.lt, ?_⟩
 have his:∀ k,k<(nth p.routes at').path.length→zbB (zdh t (nth (nth p.routes at').path (i-2)) 0) (nth (nth p.routes at').path k)=if k=i-2 then 0 else if i-d≤k∧k<i then 1 else 0:=fun k hk=>by
  rw[zjS g.code g.ra (show i-2<_ by omega) hk,g.is k hk]
 rw[zfn g.code (by decide) g.lt,g.lk (by omega)]
 have e:goL (nth p.routes at') (nth p.routes at').id (i-d)=⟨(nth p.routes at').id,2,((i-2:Nat):Int),0⟩:=by unfold goL;rw[if_neg (by omega),h1]
 rw[e,stl_C h0 ht (by omega) (by rw[his _ (by omega),if_pos rfl]) (by rw[his _ (by omega),if_neg (by omega),if_pos (by omega)])]
 unfold goL
 rw[if_pos (by omega)]
end
def zbx (s:State):List Int→State
 |[]=>s
 |x::l=>zbx (zdh s x 0) l
@[simp] theorem freeN_nil (s:State):zbx s []=s:=rfl
end Go.Lev
