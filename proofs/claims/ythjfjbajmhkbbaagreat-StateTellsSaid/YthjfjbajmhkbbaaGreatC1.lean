/-
  A part of the engine that walks the functions' codes, and of the functions' contracts. Conditions: those that each theorem names.
-/
import Derived.Test.YthjfjbajmhkbbaaGreatL8
import Derived.IntWalk
set_option linter.unusedSimpArgs false
set_option linter.unusedVariables false
set_option linter.unusedSectionVars false
namespace Go.Lev
open Go.Eng
set_option maxRecDepth 10000
set_option maxHeartbeats 4000000
variable {P:Program} {inv:Nat→Option Nat} {w0:World} {M:Nat→Prop}
theorem zov (s:State) (e:Int):zea 4 (stR s) (.tup [stV s,.n e])=.tup [.agg s.c,.n e]:=by
 unfold stR stV
 (refine no_implicit_lambda% (st ?_);try with_reducible exact wT)
theorem sAt_po (hH:HasAll P inv) (hI:HasIds P inv) (p:Pln) (hp:Sm p) (ho:za5 p=true):PO P inv 65 [.agg p.c] (.tup [stV (atS p),.n 0]) (stR (atS p)):=by
 have c0:=zdI hH hI p hp
 rw[show zbs p=0 by unfold zbs;rw[if_pos ho]]at c0
 have h1:=hp.sec
 have h2:=hp.pts
 have h3:=hp.rte
 refine PO.fn hH cd65 fun w0 M Q hM hE hQ hR=>?_;dsimp only[cd65,qm,ql,qf,qi,qb,qc,qp,qv,qN,qT,qF,qt]at hQ ⊢
 (repeat' first|refine zaa [0,1,2,3,5,7,9,13,15,16,17,18,31,32,33,34,47,48,49,50] fun K hK=>?_|(refine hK.go ?_;clear hK K)|with_reducible exact wT|refine wA ?_|(refine wB (fun h=>?_) (fun h=>?_)<;>first|exact wN h|subst (h:(_:Bool)=_)|skip)|(refine wR ?_;clear hQ hR hE hM)|refine wC c0 ?_|fail)
 all_goals first|(exfalso;contradiction)|skip
 refine zbW 1 0 2 2 rfl rfl (Nat.zero_le _) (by (refine no_implicit_lambda% (st ?_);try with_reducible exact wT)) (by (refine no_implicit_lambda% (st ?_);try with_reducible exact wT)) ?_
 refine zbW 1 1 3 3 rfl rfl (Nat.zero_le _) (by (refine no_implicit_lambda% (st ?_);try with_reducible exact wT)) (by (refine no_implicit_lambda% (st ?_);try with_reducible exact wT)) ?_
 refine zbW 1 2 4 4 rfl rfl (Nat.zero_le _) (by (refine no_implicit_lambda% (st ?_);try with_reducible exact wT)) (by (refine no_implicit_lambda% (st ?_);try with_reducible exact wT)) ?_
 (refine no_implicit_lambda% (st ?_);try with_reducible exact wT)
 refine zae (ι:=Nat×(List Track)) [1,2,3,15,16,17] (fun z=>[(17,.n z.1)]) (fun z=>[(1,.cells [.sm 2 (z.2.length*2) 0 z.2.length 2,.sm 3 0 0 0 3,.sm 4 0 0 0 4] true),(2,.cells (z.2.map Track.c).flatten (decide (0<z.2.length)))]) (fun z=>z.1) (p.sections.length) (fun z=>(z.2.length=z.1)∧(z.2++(p.sections.drop z.1).map (fun x=>(⟨x.id,2⟩:Track))=(atS p).tracks)) (0,([]:List Track)) ?_;rintro ⟨k,ts⟩ ⟨hk,hl,hg⟩;(try dsimp only at hk hl hg ⊢);rcases Nat.lt_or_ge k p.sections.length with hlt|hge
 ·rw[zaf hlt,List.map_cons]at hg
  (repeat' first|refine zaa [0,1,2,3,5,7,9,13,15,16,17,18,31,32,33,34,47,48,49,50] fun K hK=>?_|(refine hK.go ?_;clear hK K)|with_reducible exact wT|refine wA ?_|(refine wB (fun h=>?_) (fun h=>?_)<;>first|exact wN h|subst (h:(_:Bool)=_)|skip)|(refine wR ?_;clear hQ hR hE hM)|fail)
  exact nY (k+1,ts++[⟨(nth p.sections k).id,2⟩]) ⟨by (try dsimp only);omega,by (try dsimp only);simp[hl],by (try dsimp only);rw[←hg];simp⟩
 ·rw[List.drop_eq_nil_of_le hge,List.map_nil,List.append_nil]at hg
  (repeat' first|refine zaa [0,1,2,3,5,7,9,13,15,16,17,18,31,32,33,34,47,48,49,50] fun K hK=>?_|(refine hK.go ?_;clear hK K)|with_reducible exact wT|refine wA ?_|(refine wB (fun h=>?_) (fun h=>?_)<;>first|exact wN h|subst (h:(_:Bool)=_)|skip)|(refine wR ?_;clear hQ hR hE hM)|fail)
  refine zae (ι:=Nat×(List Switch)) [1,2,3,31,32,33] (fun z=>[(33,.n z.1)]) (fun z=>[(1,.cells [.sm 2 (ts.length*2) 0 ts.length 2,.sm 3 (z.2.length*3) 0 z.2.length 3,.sm 4 0 0 0 4] true),(3,.cells (z.2.map Switch.c).flatten (decide (0<z.2.length)))]) (fun z=>z.1) (p.points.length) (fun z=>(z.2.length=z.1)∧(z.2++(p.points.drop z.1).map (fun x=>(⟨x.id,0,0⟩:Switch))=(atS p).switches)) (0,([]:List Switch)) ?_;rintro ⟨k2,ss⟩ ⟨hk,hl2,hg2⟩;(try dsimp only at hk hl2 hg2 ⊢);rcases Nat.lt_or_ge k2 p.points.length with hlt|hge
  ·rw[zaf (by assumption),List.map_cons]at hg2
   (repeat' first|refine zaa [0,1,2,3,5,7,9,13,15,16,17,18,31,32,33,34,47,48,49,50] fun K hK=>?_|(refine hK.go ?_;clear hK K)|with_reducible exact wT|refine wA ?_|(refine wB (fun h=>?_) (fun h=>?_)<;>first|exact wN h|subst (h:(_:Bool)=_)|skip)|(refine wR ?_;clear hQ hR hE hM)|fail)
   exact nY (k2+1,ss++[⟨(nth p.points k2).id,0,0⟩]) ⟨by (try dsimp only);omega,by (try dsimp only);simp[hl2],by (try dsimp only);rw[←hg2];simp⟩
  ·rw[List.drop_eq_nil_of_le (by assumption),List.map_nil,List.append_nil]at hg2
   (repeat' first|refine zaa [0,1,2,3,5,7,9,13,15,16,17,18,31,32,33,34,47,48,49,50] fun K hK=>?_|(refine hK.go ?_;clear hK K)|with_reducible exact wT|refine wA ?_|(refine wB (fun h=>?_) (fun h=>?_)<;>first|exact wN h|subst (h:(_:Bool)=_)|skip)|(refine wR ?_;clear hQ hR hE hM)|fail)
   refine zae (ι:=Nat×(List Lock)) [2,3,47,48,49] (fun z=>[(49,.n z.1)]) (fun z=>[(1,.cells [.sm 2 (ts.length*2) 0 ts.length 2,.sm 3 (ss.length*3) 0 ss.length 3,.sm 4 (z.2.length*4) 0 z.2.length 4] true),(4,.cells (z.2.map Lock.c).flatten (decide (0<z.2.length)))]) (fun z=>z.1) (p.routes.length) (fun z=>(z.2.length=z.1)∧(z.2++(p.routes.drop z.1).map (fun x=>(⟨x.id,0,0,0⟩:Lock))=(atS p).locks)) (0,([]:List Lock)) ?_;rintro ⟨k3,ls⟩ ⟨hk,hl3,hg3⟩;(try dsimp only at hk hl3 hg3 ⊢);rcases Nat.lt_or_ge k3 p.routes.length with hlt|hge
   ·rw[zaf (by assumption),List.map_cons]at hg3
    (repeat' first|refine zaa [0,1,2,3,5,7,9,13,15,16,17,18,31,32,33,34,47,48,49,50] fun K hK=>?_|(refine hK.go ?_;clear hK K)|with_reducible exact wT|refine wA ?_|(refine wB (fun h=>?_) (fun h=>?_)<;>first|exact wN h|subst (h:(_:Bool)=_)|skip)|(refine wR ?_;clear hQ hR hE hM)|fail)
    exact nY (k3+1,ls++[⟨(nth p.routes k3).id,0,0,0⟩]) ⟨by (try dsimp only);omega,by (try dsimp only);simp[hl3],by (try dsimp only);rw[←hg3];simp⟩
   ·rw[List.drop_eq_nil_of_le (by assumption),List.map_nil,List.append_nil]at hg3
    (repeat' first|refine zaa [0,1,2,3,5,7,9,13,15,16,17,18,31,32,33,34,47,48,49,50] fun K hK=>?_|(refine hK.go ?_;clear hK K)|with_reducible exact wT|refine wA ?_|(refine wB (fun h=>?_) (fun h=>?_)<;>first|exact wN h|subst (h:(_:Bool)=_)|skip)|(refine wR ?_;clear hQ hR hE hM)|fail)
    left
    unfold stV stR
    rw[←hg,←hg2,←hg3]
    constructor
    ·(refine no_implicit_lambda% (st ?_);try with_reducible exact wT)
    ·(refine no_implicit_lambda% (st ?_);try with_reducible exact wT)
theorem sAt_pc (hH:HasAll P inv) (hI:HasIds P inv) (p:Pln) (hp:Sm p):PC P inv 65 [.agg p.c] (·=.tup [.agg (atR p).c,.n (zbs p)]):=by
 cases ho:za5 p with
 |true =>
  have:=(sAt_po hH hI p hp ho).pc
  rw[zov]at this
  unfold atR zbs
  rw[if_pos ho,if_pos ho]
  exact this
 |false =>
  have c0:=zdI hH hI p hp
  have e:zbs p=100:=by unfold zbs;rw[ho,if_neg (by simp)]
  rw[e]at c0 ⊢
  unfold atR
  rw[ho,if_neg (by simp)]
  refine PC.fn hH cd65 fun w0 M Q hM hE hQ hR=>?_;dsimp only[cd65,qm,ql,qf,qi,qb,qc,qp,qv,qN,qT,qF,qt]at hQ ⊢
  (repeat' first|refine zaa [0,1,2,3,5,7,9,13,15,16,17,18,31,32,33,34,47,48,49,50] fun K hK=>?_|(refine hK.go ?_;clear hK K)|with_reducible exact wT|refine wA ?_|(refine wB (fun h=>?_) (fun h=>?_)<;>first|exact wN h|subst (h:(_:Bool)=_)|skip)|(refine wQ ?_;clear hQ hR hE hM)|refine wC c0 ?_|fail)
  all_goals first|rfl|(exfalso;contradiction)|skip
end Go.Lev
namespace Go.Lev
open Go.Eng
set_option maxRecDepth 10000
set_option maxHeartbeats 4000000
variable {P:Program} {inv:Nat→Option Nat} {w0:World} {M:Nat→Prop}
section upd
variable {α:Type} [Inhabited α]
end upd
theorem zmY (hH:HasAll P inv) (hI:HasIds P inv) (p:Pln) (hp:Sm p) (s:State) (hs:SmS s) (he:zag p s=0):PO P inv 78 [.agg p.c,.agg s.c] (.tup [zen 5 (zlp p s),.n 0]) (zdn 5 (zlp p s)):=by
 have c0:=zcs hH hI p hp s hs
 rw[he]at c0
 have c1:=zc5 hH s hs
 have hpl:=zap (zad he).2.1
 obtain ⟨h1,h2,h3⟩:=hs
 have hi:zlp p s=⟨s.tracks.mapIdx zpS,s.switches.mapIdx zpR,s.locks.mapIdx (zgI p)⟩:=rfl
 unfold stV stR at c1
 refine PO.fn hH cd78 fun w0 M Q hM hE hQ hR=>?_;dsimp only[cd78,qm,ql,qf,qi,qb,qc,qp,qv,qN,qT,qF,qt]at hQ ⊢
 (repeat' first|refine zaa [0,1,2,3,4,5,6,7,8,9,14,21,22,23,33,34,35,45,46,47,55] fun K hK=>?_|(refine hK.go ?_;clear hK K)|with_reducible exact wT|refine wA ?_|(refine wB (fun h=>?_) (fun h=>?_)<;>first|exact wN h|subst (h:(_:Bool)=_)|skip)|(refine wR ?_;clear hQ hR hE hM)|refine wC c0 ?_|refine wO c1 ?_|fail)
 all_goals first|(exfalso;contradiction)|skip
 refine zae (ι:=Nat) [2,3,4,5,21,22] (fun z=>[(22,.n z)]) (fun z=>[(5,.cells ((zbN zpS z s.tracks).map Track.c).flatten (decide (0<s.tracks.length)))]) (fun z=>z) (s.tracks.length) (fun _=>True) (0) ?_;rintro k ⟨hk,-⟩;(try dsimp only at hk ⊢);rcases Nat.lt_or_ge k s.tracks.length with hlt|hge
 ·have e1:=zaX zpS hlt
  have e2:=zaz (c:=Track.c) (l:=zbN zpS k s.tracks) (k:=k) (i:=1) (by rw[zaB];exact hlt) (by omega) (.i .u8 2) (zpS k (nth s.tracks k)) (by rw[zaI _ hlt];rfl)
  rw[e1]at e2
  (have hX:=@e2;(repeat' first|refine zaa [0,1,2,3,4,5,6,7,8,9,14,21,22,23,33,34,35,45,46,47,55] fun K hK=>?_|(refine hK.go ?_;clear hK K)|with_reducible exact wT|refine wA ?_|(refine wB (fun h=>?_) (fun h=>?_)<;>first|exact wN h|subst (h:(_:Bool)=_)|skip)|(refine wR ?_;clear hQ hR hE hM)|fail);all_goals clear hX)
  exact ⟨k+1,by omega,by omega,by omega,rfl⟩
 ·rw[zdG _ hge]
  (repeat' first|refine zaa [0,1,2,3,4,5,6,7,8,9,14,21,22,23,33,34,35,45,46,47,55] fun K hK=>?_|(refine hK.go ?_;clear hK K)|with_reducible exact wT|refine wA ?_|(refine wB (fun h=>?_) (fun h=>?_)<;>first|exact wN h|subst (h:(_:Bool)=_)|skip)|(refine wR ?_;clear hQ hR hE hM)|fail)
  refine zae (ι:=Nat) [2,3,4,5,33,34] (fun z=>[(34,.n z)]) (fun z=>[(6,.cells ((zbN zpR z s.switches).map Switch.c).flatten (decide (0<s.switches.length)))]) (fun z=>z) (s.switches.length) (fun _=>True) (0) ?_;rintro k2 ⟨hk,-⟩;(try dsimp only at hk ⊢);rcases Nat.lt_or_ge k2 s.switches.length with hlt|hge
  ·have e1:=zaX zpR hlt
   have e2:=zaz (c:=Switch.c) (l:=zbN zpR k2 s.switches) (k:=k2) (i:=1) (by rw[zaB];exact hlt) (by omega) (.i .i64 0) (zpR k2 (nth s.switches k2)) (by rw[zaI _ hlt];rfl)
   rw[e1]at e2
   (have hX:=@e2;(repeat' first|refine zaa [0,1,2,3,4,5,6,7,8,9,14,21,22,23,33,34,35,45,46,47,55] fun K hK=>?_|(refine hK.go ?_;clear hK K)|with_reducible exact wT|refine wA ?_|(refine wB (fun h=>?_) (fun h=>?_)<;>first|exact wN h|subst (h:(_:Bool)=_)|skip)|(refine wR ?_;clear hQ hR hE hM)|fail);all_goals clear hX)
   exact ⟨k2+1,by omega,by omega,by omega,rfl⟩
  ·rw[zdG _ (by assumption)]
   (repeat' first|refine zaa [0,1,2,3,4,5,6,7,8,9,14,21,22,23,33,34,35,45,46,47,55] fun K hK=>?_|(refine hK.go ?_;clear hK K)|with_reducible exact wT|refine wA ?_|(refine wB (fun h=>?_) (fun h=>?_)<;>first|exact wN h|subst (h:(_:Bool)=_)|skip)|(refine wR ?_;clear hQ hR hE hM)|fail)
   refine zae (ι:=Nat) [2,3,4,5,45,46] (fun z=>[(46,.n z)]) (fun z=>[(7,.cells ((zbN (zgI p) z s.locks).map Lock.c).flatten (decide (0<s.locks.length)))]) (fun z=>z) (s.locks.length) (fun _=>True) (0) ?_;rintro k3 ⟨hk,-⟩;(try dsimp only at hk ⊢);rcases Nat.lt_or_ge k3 s.locks.length with hlt|hge
   ·have e1:=zaX (zgI p) (l:=s.locks) (k:=k3) (by assumption)
    have hg:=zgX (c:=Lock.c) (l:=zbN (zgI p) k3 s.locks) (k:=k3) (i:=3) (by rw[zaB];assumption) (by omega)
    rw[zaI _ (by assumption)]at hg
    by_cases hle:0<(nth s.locks k3).left
    ·have e2:=zaz (c:=Lock.c) (l:=zbN (zgI p) k3 s.locks) (k:=k3) (i:=3) (by rw[zaB];assumption) (by omega) (.i .i64 (nth p.routes k3).timer) (zgI p k3 (nth s.locks k3)) (by rw[zaI _ (by assumption)];unfold zgI;rw[if_pos hle];rfl)
     rw[e1]at e2
     (have hX:=zA @hg @e2;(repeat' first|refine zaa [0,1,2,3,4,5,6,7,8,9,14,21,22,23,33,34,35,45,46,47,55] fun K hK=>?_|(refine hK.go ?_;clear hK K)|with_reducible exact wT|refine wA ?_|(refine wB (fun h=>?_) (fun h=>?_)<;>first|exact wN h|subst (h:(_:Bool)=_)|skip)|(refine wR ?_;clear hQ hR hE hM)|fail);all_goals clear hX)
     exact ⟨k3+1,by omega,by omega,by omega,rfl⟩
    ·rw[show zgI p k3 (nth s.locks k3)=nth (zbN (zgI p) k3 s.locks) k3 by rw[zaI _ (by assumption)];unfold zgI;rw[if_neg hle]]at e1
     have e3:zbN (zgI p) k3 s.locks=zbN (zgI p) (k3+1) s.locks:=by
      rw[←e1,zaW (by rw[zaB];assumption),List.set_getElem_self]
     (have hX:=@hg;(repeat' first|refine zaa [0,1,2,3,4,5,6,7,8,9,14,21,22,23,33,34,35,45,46,47,55] fun K hK=>?_|(refine hK.go ?_;clear hK K)|with_reducible exact wT|refine wA ?_|(refine wB (fun h=>?_) (fun h=>?_)<;>first|exact wN h|subst (h:(_:Bool)=_)|skip)|(refine wR ?_;clear hQ hR hE hM)|fail);all_goals clear hX)
     exact ⟨k3+1,by omega,by omega,by omega,by rw[←e3]⟩
   ·rw[zdG _ (by assumption)]
    (repeat' first|refine zaa [0,1,2,3,4,5,6,7,8,9,14,21,22,23,33,34,35,45,46,47,55] fun K hK=>?_|(refine hK.go ?_;clear hK K)|with_reducible exact wT|refine wA ?_|(refine wB (fun h=>?_) (fun h=>?_)<;>first|exact wN h|subst (h:(_:Bool)=_)|skip)|(refine wR ?_;clear hQ hR hE hM)|fail)
    left
    unfold zen zdn
    rw[hi]
    dsimp only
    rw[List.length_mapIdx,List.length_mapIdx,List.length_mapIdx]
    constructor
    ·(refine no_implicit_lambda% (st ?_);try with_reducible exact wT)
    ·(refine no_implicit_lambda% (st ?_);try with_reducible exact wT)
theorem image_pc (hH:HasAll P inv) (hI:HasIds P inv) (p:Pln) (hp:Sm p) (s:State) (hs:SmS s):PC P inv 78 [.agg p.c,.agg s.c] (·=.tup [.agg (zfC p s).c,.n (zag p s)]):=by
 by_cases he:zag p s=0
 ·have:=(zmY hH hI p hp s hs he).pc
  rw[zbL]at this
  unfold zfC
  rw[if_pos he,he]
  exact this
 ·have c0:=zcs hH hI p hp s hs
  unfold zfC
  rw[if_neg he]
  revert c0 he
  generalize zag p s=e
  intro he c0
  refine PC.fn hH cd78 fun w0 M Q hM hE hQ hR=>?_;dsimp only[cd78,qm,ql,qf,qi,qb,qc,qp,qv,qN,qT,qF,qt]at hQ ⊢
  (repeat' first|refine zaa [0,1,2,3,4,5,6,7,8,9,14,21,22,23,33,34,35,45,46,47,55] fun K hK=>?_|(refine hK.go ?_;clear hK K)|with_reducible exact wT|refine wA ?_|(refine wB (fun h=>?_) (fun h=>?_)<;>first|exact wN h|subst (h:(_:Bool)=_)|skip)|(refine wQ ?_;clear hQ hR hE hM)|refine wC c0 ?_|fail)
  all_goals first|rfl|(exfalso;contradiction)|skip
end Go.Lev
namespace Go.Lev
open Go.Eng
set_option maxRecDepth 10000
set_option maxHeartbeats 4000000
variable {P:Program} {inv:Nat→Option Nat} {w0:World} {M:Nat→Prop}
theorem at15_pc (hH:HasAll P inv) (p:Pln) (hp:Sm p):PC P inv 288 [.agg p.c] (·=.tup [.agg (atR p).c,.n (zbs p)]):=by
 have c0:=zhO hH p hp
 cases ho:za5 p with
 |true =>
  suffices hpo:PO P inv 288 [.agg p.c] (.tup [zen 3 (atS p),.n 0]) (zdn 3 (atS p)) by
   have:=hpo.pc
   rw[zbL]at this
   unfold atR zbs
   rw[if_pos ho,if_pos ho]
   exact this
  rw[ho]at c0
  have h1:=hp.sec
  have h2:=hp.pts
  have h3:=hp.rte
  refine PO.fn hH cd288 fun w0 M Q hM hE hQ hR=>?_;dsimp only[cd288,qm,ql,qf,qi,qb,qc,qp,qv,qN,qT,qF,qt]at hQ ⊢
  (repeat' first|refine zaa [0,1,2,3,4,5,6,7,10,16,29,35,48,54,67] fun K hK=>?_|(refine hK.go ?_;clear hK K)|with_reducible exact wT|refine wA ?_|(refine wB (fun h=>?_) (fun h=>?_)<;>first|exact wN h|subst (h:(_:Bool)=_)|skip)|(refine wR ?_;clear hQ hR hE hM)|refine wC c0 ?_|fail)
  all_goals first|(exfalso;contradiction)|skip
  refine zbW 2 0 3 2 rfl rfl (Nat.zero_le _) (by (refine no_implicit_lambda% (st ?_);try with_reducible exact wT)) (by (refine no_implicit_lambda% (st ?_);try with_reducible exact wT)) ?_
  refine zbW 2 1 4 3 rfl rfl (Nat.zero_le _) (by (refine no_implicit_lambda% (st ?_);try with_reducible exact wT)) (by (refine no_implicit_lambda% (st ?_);try with_reducible exact wT)) ?_
  refine zbW 2 2 5 4 rfl rfl (Nat.zero_le _) (by (refine no_implicit_lambda% (st ?_);try with_reducible exact wT)) (by (refine no_implicit_lambda% (st ?_);try with_reducible exact wT)) ?_
  (refine no_implicit_lambda% (st ?_);try with_reducible exact wT)
  refine zae (ι:=Nat×(List Track)) [1,2,3,4,5] (fun z=>[(5,.n z.1)]) (fun z=>[(2,.cells [.sm 3 (z.2.length*2) 0 z.2.length 2,.sm 4 0 0 0 3,.sm 5 0 0 0 4] true),(3,.cells (z.2.map Track.c).flatten (decide (0<z.2.length)))]) (fun z=>z.1) (p.sections.length) (fun z=>(z.2.length=z.1)∧(z.2++(p.sections.drop z.1).map (fun x=>(⟨x.id,2⟩:Track))=(atS p).tracks)) (0,([]:List Track)) ?_;rintro ⟨k,ts⟩ ⟨hk,hl,hg⟩;(try dsimp only at hk hl hg ⊢);rcases Nat.lt_or_ge k p.sections.length with hlt|hge
  ·rw[zaf hlt,List.map_cons]at hg
   (repeat' first|refine zaa [0,1,2,3,4,5,6,7,10,16,29,35,48,54,67] fun K hK=>?_|(refine hK.go ?_;clear hK K)|with_reducible exact wT|refine wA ?_|(refine wB (fun h=>?_) (fun h=>?_)<;>first|exact wN h|subst (h:(_:Bool)=_)|skip)|(refine wR ?_;clear hQ hR hE hM)|fail)
   exact nY (k+1,ts++[⟨(nth p.sections k).id,2⟩]) ⟨by (try dsimp only);omega,by (try dsimp only);simp[hl],by (try dsimp only);rw[←hg];simp⟩
  ·rw[List.drop_eq_nil_of_le hge,List.map_nil,List.append_nil]at hg
   (repeat' first|refine zaa [0,1,2,3,4,5,6,7,10,16,29,35,48,54,67] fun K hK=>?_|(refine hK.go ?_;clear hK K)|with_reducible exact wT|refine wA ?_|(refine wB (fun h=>?_) (fun h=>?_)<;>first|exact wN h|subst (h:(_:Bool)=_)|skip)|(refine wR ?_;clear hQ hR hE hM)|fail)
   refine zae (ι:=Nat×(List Switch)) [1,2,3,4,6] (fun z=>[(6,.n z.1)]) (fun z=>[(2,.cells [.sm 3 (ts.length*2) 0 ts.length 2,.sm 4 (z.2.length*3) 0 z.2.length 3,.sm 5 0 0 0 4] true),(4,.cells (z.2.map Switch.c).flatten (decide (0<z.2.length)))]) (fun z=>z.1) (p.points.length) (fun z=>(z.2.length=z.1)∧(z.2++(p.points.drop z.1).map (fun x=>(⟨x.id,0,0⟩:Switch))=(atS p).switches)) (0,([]:List Switch)) ?_;rintro ⟨k2,ss⟩ ⟨hk,hl2,hg2⟩;(try dsimp only at hk hl2 hg2 ⊢);rcases Nat.lt_or_ge k2 p.points.length with hlt|hge
   ·rw[zaf (by assumption),List.map_cons]at hg2
    (repeat' first|refine zaa [0,1,2,3,4,5,6,7,10,16,29,35,48,54,67] fun K hK=>?_|(refine hK.go ?_;clear hK K)|with_reducible exact wT|refine wA ?_|(refine wB (fun h=>?_) (fun h=>?_)<;>first|exact wN h|subst (h:(_:Bool)=_)|skip)|(refine wR ?_;clear hQ hR hE hM)|fail)
    exact nY (k2+1,ss++[⟨(nth p.points k2).id,0,0⟩]) ⟨by (try dsimp only);omega,by (try dsimp only);simp[hl2],by (try dsimp only);rw[←hg2];simp⟩
   ·rw[List.drop_eq_nil_of_le (by assumption),List.map_nil,List.append_nil]at hg2
    (repeat' first|refine zaa [0,1,2,3,4,5,6,7,10,16,29,35,48,54,67] fun K hK=>?_|(refine hK.go ?_;clear hK K)|with_reducible exact wT|refine wA ?_|(refine wB (fun h=>?_) (fun h=>?_)<;>first|exact wN h|subst (h:(_:Bool)=_)|skip)|(refine wR ?_;clear hQ hR hE hM)|fail)
    refine zae (ι:=Nat×(List Lock)) [1,2,3,4,7] (fun z=>[(7,.n z.1)]) (fun z=>[(2,.cells [.sm 3 (ts.length*2) 0 ts.length 2,.sm 4 (ss.length*3) 0 ss.length 3,.sm 5 (z.2.length*4) 0 z.2.length 4] true),(5,.cells (z.2.map Lock.c).flatten (decide (0<z.2.length)))]) (fun z=>z.1) (p.routes.length) (fun z=>(z.2.length=z.1)∧(z.2++(p.routes.drop z.1).map (fun x=>(⟨x.id,0,0,0⟩:Lock))=(atS p).locks)) (0,([]:List Lock)) ?_;rintro ⟨k3,ls⟩ ⟨hk,hl3,hg3⟩;(try dsimp only at hk hl3 hg3 ⊢);rcases Nat.lt_or_ge k3 p.routes.length with hlt|hge
    ·rw[zaf (by assumption),List.map_cons]at hg3
     (repeat' first|refine zaa [0,1,2,3,4,5,6,7,10,16,29,35,48,54,67] fun K hK=>?_|(refine hK.go ?_;clear hK K)|with_reducible exact wT|refine wA ?_|(refine wB (fun h=>?_) (fun h=>?_)<;>first|exact wN h|subst (h:(_:Bool)=_)|skip)|(refine wR ?_;clear hQ hR hE hM)|fail)
     exact nY (k3+1,ls++[⟨(nth p.routes k3).id,0,0,0⟩]) ⟨by (try dsimp only);omega,by (try dsimp only);simp[hl3],by (try dsimp only);rw[←hg3];simp⟩
    ·rw[List.drop_eq_nil_of_le (by assumption),List.map_nil,List.append_nil]at hg3
     (repeat' first|refine zaa [0,1,2,3,4,5,6,7,10,16,29,35,48,54,67] fun K hK=>?_|(refine hK.go ?_;clear hK K)|with_reducible exact wT|refine wA ?_|(refine wB (fun h=>?_) (fun h=>?_)<;>first|exact wN h|subst (h:(_:Bool)=_)|skip)|(refine wR ?_;clear hQ hR hE hM)|fail)
     left
     unfold zen zdn
     rw[←hg,←hg2,←hg3]
     constructor
     ·(refine no_implicit_lambda% (st ?_);try with_reducible exact wT)
     ·(refine no_implicit_lambda% (st ?_);try with_reducible exact wT)
 |false =>
  rw[ho]at c0
  have e:zbs p=100:=by unfold zbs;rw[ho,if_neg (by simp)]
  rw[e]
  unfold atR
  rw[ho,if_neg (by simp)]
  refine PC.fn hH cd288 fun w0 M Q hM hE hQ hR=>?_;dsimp only[cd288,qm,ql,qf,qi,qb,qc,qp,qv,qN,qT,qF,qt]at hQ ⊢
  (repeat' first|refine zaa [0,1,2,3,4,5,6,7,10,16,29,35,48,54,67] fun K hK=>?_|(refine hK.go ?_;clear hK K)|with_reducible exact wT|refine wA ?_|(refine wB (fun h=>?_) (fun h=>?_)<;>first|exact wN h|subst (h:(_:Bool)=_)|skip)|(refine wQ ?_;clear hQ hR hE hM)|refine wC c0 ?_|fail)
  all_goals first|rfl|(exfalso;contradiction)|skip
theorem zkQ (hH:HasAll P inv) (p:Pln) (hp:Sm p) (s:State) (hs:SmS s) (n:Int):PC P inv 289 [.agg p.c,.agg s.c,.n n] (·=.tup [.n (zeh p s n).1,.n (zeh p s n).2]):=by
 have c0:=zbw hH p hp s hs
 unfold zeh
 by_cases hst:zag p s=0
 ·rw[hst]at c0
  rw[if_pos hst]
  have c1:=zjr hH p (by have:=hp.sec;omega) n
  rcases zav Section.id n p.sections with ⟨h4,h5⟩|⟨k,hk,h4,h5⟩
  ·rw[h4]at c1
   have:zhQ p n=false:=by
    unfold zhQ
    rw[List.any_eq_false]
    intro x hx
    simpa using h5 x hx
   rw[this,if_neg (by simp)]
   refine PC.fn hH cd289 fun w0 M Q hM hE hQ hR=>?_;dsimp only[cd289,qm,ql,qf,qi,qb,qc,qp,qv,qN,qT,qF,qt]at hQ ⊢
   (repeat' first|refine zaa [0,1,2,3,4,6,7,8,13,18] fun K hK=>?_|(refine hK.go ?_;clear hK K)|with_reducible exact wT|refine wA ?_|(refine wB (fun h=>?_) (fun h=>?_)<;>first|exact wN h|subst (h:(_:Bool)=_)|skip)|(refine wQ ?_;clear hQ hR hE hM)|refine wC c0 ?_|refine wC c1 ?_|fail)
   all_goals first|rfl|(exfalso;contradiction)|trace_state
  ·rw[h4]at c1
   have:zhQ p n=true:=List.any_eq_true.2 ⟨_,zab hk,by simpa using h5⟩
   rw[this,if_pos rfl]
   have hr:=zcc (zar hst) (zab hk)
   have c2:=zmP hH p hp s hs hst n (by omega)
   generalize nth (zau p s).1 n.toNat=a at *
   clear hst
   refine PC.fn hH cd289 fun w0 M Q hM hE hQ hR=>?_;dsimp only[cd289,qm,ql,qf,qi,qb,qc,qp,qv,qN,qT,qF,qt]at hQ ⊢
   (repeat' first|refine zaa [0,1,2,3,4,6,7,8,13,18] fun K hK=>?_|(refine hK.go ?_;clear hK K)|with_reducible exact wT|refine wA ?_|(refine wB (fun h=>?_) (fun h=>?_)<;>first|exact wN h|subst (h:(_:Bool)=_)|skip)|(refine wQ ?_;clear hQ hR hE hM)|refine wC c0 ?_|refine wC c1 ?_|refine wC c2 ?_|fail)
   all_goals first|rfl|(exfalso;contradiction)|(exfalso;omega)|trace_state
 ·rw[if_neg hst]
  generalize zag p s=e at *
  refine PC.fn hH cd289 fun w0 M Q hM hE hQ hR=>?_;dsimp only[cd289,qm,ql,qf,qi,qb,qc,qp,qv,qN,qT,qF,qt]at hQ ⊢
  (repeat' first|refine zaa [0,1,2,3,4,6,7,8,13,18] fun K hK=>?_|(refine hK.go ?_;clear hK K)|with_reducible exact wT|refine wA ?_|(refine wB (fun h=>?_) (fun h=>?_)<;>first|exact wN h|subst (h:(_:Bool)=_)|skip)|(refine wQ ?_;clear hQ hR hE hM)|refine wC c0 ?_|fail)
  all_goals first|rfl|(exfalso;contradiction)|trace_state
theorem zmd (hH:HasAll P inv) (p:Pln) (hp:Sm p) (s:State) (hs:SmS s) (n:Int):PC P inv 290 [.agg p.c,.agg s.c,.n n] (·=.tup [.n (zfO p s n).1,.n (zfO p s n).2]):=by
 have c0:=zbw hH p hp s hs
 unfold zfO
 by_cases hst:zag p s=0
 ·rw[hst]at c0
  rw[if_pos hst]
  have c1:=zdO hH p (by have:=hp.pts;omega) n
  rcases zav Pnt.id n p.points with ⟨h4,h5⟩|⟨k,hk,h4,h5⟩
  ·rw[h4]at c1
   have:zcA p n=false:=by
    unfold zcA
    rw[List.any_eq_false]
    intro x hx
    simpa using h5 x hx
   rw[this,if_neg (by simp)]
   refine PC.fn hH cd290 fun w0 M Q hM hE hQ hR=>?_;dsimp only[cd290,qm,ql,qf,qi,qb,qc,qp,qv,qN,qT,qF,qt]at hQ ⊢
   (repeat' first|refine zaa [0,1,2,3,4,6,7,8,13,18] fun K hK=>?_|(refine hK.go ?_;clear hK K)|with_reducible exact wT|refine wA ?_|(refine wB (fun h=>?_) (fun h=>?_)<;>first|exact wN h|subst (h:(_:Bool)=_)|skip)|(refine wQ ?_;clear hQ hR hE hM)|refine wC c0 ?_|refine wC c1 ?_|fail)
   all_goals first|rfl|(exfalso;contradiction)|trace_state
  ·rw[h4]at c1
   have:zcA p n=true:=by rw[←h5];exact zjT hk
   rw[this,if_pos rfl]
   have hr:=zhA (zar hst) (zab hk)
   have c2:=zkO hH p hp s hs hst n (by omega)
   generalize nth (zau p s).2.1 n.toNat=a at *
   clear hst
   refine PC.fn hH cd290 fun w0 M Q hM hE hQ hR=>?_;dsimp only[cd290,qm,ql,qf,qi,qb,qc,qp,qv,qN,qT,qF,qt]at hQ ⊢
   (repeat' first|refine zaa [0,1,2,3,4,6,7,8,13,18] fun K hK=>?_|(refine hK.go ?_;clear hK K)|with_reducible exact wT|refine wA ?_|(refine wB (fun h=>?_) (fun h=>?_)<;>first|exact wN h|subst (h:(_:Bool)=_)|skip)|(refine wQ ?_;clear hQ hR hE hM)|refine wC c0 ?_|refine wC c1 ?_|refine wC c2 ?_|fail)
   all_goals first|rfl|(exfalso;contradiction)|(exfalso;omega)|trace_state
 ·rw[if_neg hst]
  generalize zag p s=e at *
  refine PC.fn hH cd290 fun w0 M Q hM hE hQ hR=>?_;dsimp only[cd290,qm,ql,qf,qi,qb,qc,qp,qv,qN,qT,qF,qt]at hQ ⊢
  (repeat' first|refine zaa [0,1,2,3,4,6,7,8,13,18] fun K hK=>?_|(refine hK.go ?_;clear hK K)|with_reducible exact wT|refine wA ?_|(refine wB (fun h=>?_) (fun h=>?_)<;>first|exact wN h|subst (h:(_:Bool)=_)|skip)|(refine wQ ?_;clear hQ hR hE hM)|refine wC c0 ?_|fail)
  all_goals first|rfl|(exfalso;contradiction)|trace_state
end Go.Lev
namespace Go.Lev
open Go.Eng
set_option maxRecDepth 10000
set_option maxHeartbeats 4000000
variable {P:Program} {inv:Nat→Option Nat} {w0:World} {M:Nat→Prop}
theorem znS {l:Lock} {x:Rte} (h:zcz l x=true):0<l.left↔(l.phase=3∨l.phase=4):=by
 unfold zcz at h
 split at h
 ·simp at h;omega
 ·split at h
  ·simp at h;omega
  ·split at h
   ·simp at h;omega
   ·split at h
    ·simp at h;omega
    ·cases h
theorem zp8 (hH:HasAll P inv) (p:Pln) (hp:Sm p) (s:State) (hs:SmS s) (hst:zag p s=0):PO P inv 298 [.agg p.c,.agg s.c] (zen 5 (zlp p s)) (zdn 5 (zlp p s)):=by
 have c1:=zcd hH s hs
 have hpa:=(zad hst).2.1
 have hpl:=zap hpa
 have hph:∀ i,i<s.locks.length→(0<(nth s.locks i).left↔((nth s.locks i).phase=3∨(nth s.locks i).phase=4)):=fun i hi=>by
  have h2:=zmS hpa hi
  simp only[zdP,Bool.and_eq_true,decide_eq_true_eq]at h2
  exact znS h2.2
 obtain ⟨h1,h2,h3⟩:=hs
 have hi:zlp p s=⟨s.tracks.mapIdx zpS,s.switches.mapIdx zpR,s.locks.mapIdx (zgI p)⟩:=rfl
 unfold stV stR at c1
 clear hst hpa
 refine PO.fn hH cd298 fun w0 M Q hM hE hQ hR=>?_;dsimp only[cd298,qm,ql,qf,qi,qb,qc,qp,qv,qN,qT,qF,qt]at hQ ⊢
 (repeat' first|refine zaa [0,1,2,3,4,5,6,7,14,26,38,56] fun K hK=>?_|(refine hK.go ?_;clear hK K)|with_reducible exact wT|refine wA ?_|(refine wB (fun h=>?_) (fun h=>?_)<;>first|exact wN h|subst (h:(_:Bool)=_)|skip)|(refine wR ?_;clear hQ hR hE hM)|refine wO c1 ?_|fail)
 all_goals first|(exfalso;contradiction)|skip
 refine zae (ι:=Nat) [2,3,4,5] (fun z=>[(5,.n z)]) (fun z=>[(5,.cells ((zbN zpS z s.tracks).map Track.c).flatten (decide (0<s.tracks.length)))]) (fun z=>z) (s.tracks.length) (fun _=>True) (0) ?_;rintro k ⟨hk,-⟩;(try dsimp only at hk ⊢);rcases Nat.lt_or_ge k s.tracks.length with hlt|hge
 ·have e1:=zaX zpS hlt
  have e2:=zaz (c:=Track.c) (l:=zbN zpS k s.tracks) (k:=k) (i:=1) (by rw[zaB];exact hlt) (by omega) (.i .u8 2) (zpS k (nth s.tracks k)) (by rw[zaI _ hlt];rfl)
  rw[e1]at e2
  (have hX:=@e2;(repeat' first|refine zaa [0,1,2,3,4,5,6,7,14,26,38,56] fun K hK=>?_|(refine hK.go ?_;clear hK K)|with_reducible exact wT|refine wA ?_|(refine wB (fun h=>?_) (fun h=>?_)<;>first|exact wN h|subst (h:(_:Bool)=_)|skip)|(refine wR ?_;clear hQ hR hE hM)|fail);all_goals clear hX)
  exact ⟨k+1,by omega,by omega,by omega,rfl⟩
 ·rw[zdG _ hge]
  (have hX:=@List.length_mapIdx.{0,0};(repeat' first|refine zaa [0,1,2,3,4,5,6,7,14,26,38,56] fun K hK=>?_|(refine hK.go ?_;clear hK K)|with_reducible exact wT|refine wA ?_|(refine wB (fun h=>?_) (fun h=>?_)<;>first|exact wN h|subst (h:(_:Bool)=_)|skip)|(refine wR ?_;clear hQ hR hE hM)|fail);all_goals clear hX)
  refine zae (ι:=Nat) [2,3,4,6] (fun z=>[(6,.n z)]) (fun z=>[(6,.cells ((zbN zpR z s.switches).map Switch.c).flatten (decide (0<s.switches.length)))]) (fun z=>z) (s.switches.length) (fun _=>True) (0) ?_;rintro k2 ⟨hk,-⟩;(try dsimp only at hk ⊢);rcases Nat.lt_or_ge k2 s.switches.length with hlt|hge
  ·have e1:=zaX zpR hlt
   have e2:=zaz (c:=Switch.c) (l:=zbN zpR k2 s.switches) (k:=k2) (i:=1) (by rw[zaB];exact hlt) (by omega) (.i .i64 0) (zpR k2 (nth s.switches k2)) (by rw[zaI _ hlt];rfl)
   rw[e1]at e2
   (have hX:=zA @e2 @List.length_mapIdx.{0,0};(repeat' first|refine zaa [0,1,2,3,4,5,6,7,14,26,38,56] fun K hK=>?_|(refine hK.go ?_;clear hK K)|with_reducible exact wT|refine wA ?_|(refine wB (fun h=>?_) (fun h=>?_)<;>first|exact wN h|subst (h:(_:Bool)=_)|skip)|(refine wR ?_;clear hQ hR hE hM)|fail);all_goals clear hX)
   exact ⟨k2+1,by omega,by omega,by omega,rfl⟩
  ·rw[zdG _ (by assumption)]
   (have hX:=@List.length_mapIdx.{0,0};(repeat' first|refine zaa [0,1,2,3,4,5,6,7,14,26,38,56] fun K hK=>?_|(refine hK.go ?_;clear hK K)|with_reducible exact wT|refine wA ?_|(refine wB (fun h=>?_) (fun h=>?_)<;>first|exact wN h|subst (h:(_:Bool)=_)|skip)|(refine wR ?_;clear hQ hR hE hM)|fail);all_goals clear hX)
   refine zae (ι:=Nat) [2,3,4,7] (fun z=>[(7,.n z)]) (fun z=>[(7,.cells ((zbN (zgI p) z s.locks).map Lock.c).flatten (decide (0<s.locks.length)))]) (fun z=>z) (s.locks.length) (fun _=>True) (0) ?_;rintro k3 ⟨hk,-⟩;(try dsimp only at hk ⊢);rcases Nat.lt_or_ge k3 s.locks.length with hlt|hge
   ·have e1:=zaX (zgI p) (l:=s.locks) (k:=k3) (by assumption)
    have hg:=zgX (c:=Lock.c) (l:=zbN (zgI p) k3 s.locks) (k:=k3) (i:=1) (by rw[zaB];assumption) (by omega)
    rw[zaI _ (by assumption)]at hg
    have hp3:=hph k3 (by assumption)
    by_cases hle:0<(nth s.locks k3).left
    ·have hp4:=hp3.1 hle
     have e2:=zaz (c:=Lock.c) (l:=zbN (zgI p) k3 s.locks) (k:=k3) (i:=3) (by rw[zaB];assumption) (by omega) (.i .i64 (nth p.routes k3).timer) (zgI p k3 (nth s.locks k3)) (by rw[zaI _ (by assumption)];unfold zgI;rw[if_pos hle];rfl)
     rw[e1]at e2
     (have hX:=zA @hg @e2;(repeat' first|refine zaa [0,1,2,3,4,5,6,7,14,26,38,56] fun K hK=>?_|(refine hK.go ?_;clear hK K)|with_reducible exact wT|refine wA ?_|(refine wB (fun h=>?_) (fun h=>?_)<;>first|exact wN h|subst (h:(_:Bool)=_)|skip)|(refine wR ?_;clear hQ hR hE hM)|fail);all_goals clear hX)
     all_goals first|(exfalso;contradiction)|(exfalso;omega)|exact ⟨k3+1,by omega,by omega,by omega,rfl⟩|trace_state
    ·have hp4:¬((nth s.locks k3).phase=3∨(nth s.locks k3).phase=4):=fun h=>hle (hp3.2 h)
     rw[show zgI p k3 (nth s.locks k3)=nth (zbN (zgI p) k3 s.locks) k3 by rw[zaI _ (by assumption)];unfold zgI;rw[if_neg hle]]at e1
     have e3:zbN (zgI p) k3 s.locks=zbN (zgI p) (k3+1) s.locks:=by
      rw[←e1,zaW (by rw[zaB];assumption),List.set_getElem_self]
     (have hX:=zA @hg @List.length_mapIdx.{0,0};(repeat' first|refine zaa [0,1,2,3,4,5,6,7,14,26,38,56] fun K hK=>?_|(refine hK.go ?_;clear hK K)|with_reducible exact wT|refine wA ?_|(refine wB (fun h=>?_) (fun h=>?_)<;>first|exact wN h|subst (h:(_:Bool)=_)|skip)|(refine wR ?_;clear hQ hR hE hM)|fail);all_goals clear hX)
     all_goals first|(exfalso;contradiction)|(exfalso;omega)|exact ⟨k3+1,by omega,by omega,by omega,by rw[←e3]⟩|trace_state
   ·rw[zdG _ (by assumption)]
    (have hX:=@List.length_mapIdx.{0,0};(repeat' first|refine zaa [0,1,2,3,4,5,6,7,14,26,38,56] fun K hK=>?_|(refine hK.go ?_;clear hK K)|with_reducible exact wT|refine wA ?_|(refine wB (fun h=>?_) (fun h=>?_)<;>first|exact wN h|subst (h:(_:Bool)=_)|skip)|(refine wR ?_;clear hQ hR hE hM)|fail);all_goals clear hX)
    left
    unfold zen zdn
    rw[hi]
    dsimp only
    rw[List.length_mapIdx,List.length_mapIdx,List.length_mapIdx]
    constructor
    ·(refine no_implicit_lambda% (st ?_);try with_reducible exact wT)
    ·(refine no_implicit_lambda% (st ?_);try with_reducible exact wT)
theorem znX (hH:HasAll P inv) (p:Pln) (hp:Sm p) (s:State) (hs:SmS s):PC P inv 291 [.agg p.c,.agg s.c] (·=.tup [.agg (zfC p s).c,.n (zag p s)]):=by
 have c0:=zbw hH p hp s hs
 unfold zfC
 by_cases hst:zag p s=0
 ·have c1:=(zp8 hH p hp s hs hst).pc
  rw[zki]at c1
  rw[if_pos hst]
  rw[hst]at c0 ⊢
  generalize zlp p s=T at *
  clear hst
  refine PC.fn hH cd291 fun w0 M Q hM hE hQ hR=>?_;dsimp only[cd291,qm,ql,qf,qi,qb,qc,qp,qv,qN,qT,qF,qt]at hQ ⊢
  (repeat' first|refine zaa [0,1,2,3,4,5,6,11] fun K hK=>?_|(refine hK.go ?_;clear hK K)|with_reducible exact wT|refine wA ?_|(refine wB (fun h=>?_) (fun h=>?_)<;>first|exact wN h|subst (h:(_:Bool)=_)|skip)|(refine wQ ?_;clear hQ hR hE hM)|refine wC c0 ?_|refine wC c1 ?_|fail)
  all_goals first|rfl|(exfalso;contradiction)|trace_state
 ·rw[if_neg hst]
  generalize zag p s=e at *
  refine PC.fn hH cd291 fun w0 M Q hM hE hQ hR=>?_;dsimp only[cd291,qm,ql,qf,qi,qb,qc,qp,qv,qN,qT,qF,qt]at hQ ⊢
  (repeat' first|refine zaa [0,1,2,3,4,5,6,11] fun K hK=>?_|(refine hK.go ?_;clear hK K)|with_reducible exact wT|refine wA ?_|(refine wB (fun h=>?_) (fun h=>?_)<;>first|exact wN h|subst (h:(_:Bool)=_)|skip)|(refine wQ ?_;clear hQ hR hE hM)|refine wC c0 ?_|fail)
  all_goals first|rfl|(exfalso;contradiction)|trace_state
end Go.Lev
namespace Go.Lev
open Go.Eng
set_option maxRecDepth 10000
set_option maxHeartbeats 4000000
variable {P:Program} {inv:Nat→Option Nat} {w0:World} {M:Nat→Prop}
theorem zoP (hH:HasAll P inv) {p:Pln} (hp:Sm p):PC P inv 10 [.agg (atR p).c,.agg (atR p).c] (·=.b true):=by
 have h1:=hp.sec
 have h2:=hp.pts
 have h3:=hp.rte
 have hl:(atR p).tracks.length≤1000000∧(atR p).switches.length≤1000000∧(atR p).locks.length≤1000000:=by
  unfold atR
  split
  ·unfold atS
   simp only[List.length_map]
   omega
  ·unfold State.z
   simp
 have:=zkw hH (atR p) (atR p) hl.1 hl.2.1 hl.2.2
 rw[decide_eq_true rfl]at this
 exact this
theorem imgS_sm {p:Pln} {s:State} (h:SmS s):SmS (zlp p s):=⟨by unfold zlp;dsimp only;rw[List.length_mapIdx];exact h.1,by unfold zlp;dsimp only;rw[List.length_mapIdx];exact h.2.1,by unfold zlp;dsimp only;rw[List.length_mapIdx];exact h.2.2⟩
theorem stateTells_pc (hH:HasAll P inv) (hI:HasIds P inv) (p:Pln) (hp:Pln.ok p) (s:State) (n m:Int):PC P inv 284 [.agg p.c,.agg s.c,.n n,.n m] (·=.b true):=by
 have c1:=zdj hH p
 have c2:=zfg hH s
 cases g1:zgx p with
 |true =>
  rw[g1]at c1
  refine PC.fn hH cd284 fun w0 M Q hM hE hQ hR=>?_;dsimp only[cd284,qm,ql,qf,qi,qb,qc,qp,qv,qN,qT,qF,qt]at hQ ⊢
  (repeat' first|refine zaa [0,1,2,3,4,5,8,9,10,11,12,13,14,15,16,17,18,19,20,21,22,23,24,25,26,27,28,34,89,119,133,135,140,152,164] fun K hK=>?_|(refine hK.go ?_;clear hK K)|with_reducible exact wT|refine wA ?_|(refine wB (fun h=>?_) (fun h=>?_)<;>first|exact wN h|subst (h:(_:Bool)=_)|skip)|(refine wQ ?_;clear hQ hR hE hM)|refine wC c1 ?_|fail)
 |false =>
  rw[g1]at c1
  cases g2:zhV s with
  |true =>
   rw[g2]at c2
   refine PC.fn hH cd284 fun w0 M Q hM hE hQ hR=>?_;dsimp only[cd284,qm,ql,qf,qi,qb,qc,qp,qv,qN,qT,qF,qt]at hQ ⊢
   (repeat' first|refine zaa [0,1,2,3,4,5,8,9,10,11,12,13,14,15,16,17,18,19,20,21,22,23,24,25,26,27,28,34,89,119,133,135,140,152,164] fun K hK=>?_|(refine hK.go ?_;clear hK K)|with_reducible exact wT|refine wA ?_|(refine wB (fun h=>?_) (fun h=>?_)<;>first|exact wN h|subst (h:(_:Bool)=_)|skip)|(refine wQ ?_;clear hQ hR hE hM)|refine wC c1 ?_|refine wC c2 ?_|fail)
  |false =>
   rw[g2]at c2
   have sp:=sm_of hp g1
   have ss:=zms g2
   have c3:=zcd hH s ss
   have a1:=sAt_pc hH hI p sp
   have a2:=at15_pc hH p sp
   have a3:=zoP hH sp
   have b1:=zpU hH hI p sp s ss n
   have b2:=zkQ hH p sp s ss n
   have d1:=zni hH hI p sp s ss m
   have d2:=zmd hH p sp s ss m
   have e1:=znX hH p sp s ss
   have e3:=zcs hH hI p sp s ss
   have e4:=zbw hH p sp s ss
   have c7:=za6 hH ss (rfl:s=s)
   have hl1:=ss.1
   have hl2:=ss.2.1
   have hl3:=ss.2.2
   unfold stV stR at c3
   generalize atR p=AT at *
   generalize zbs p=ac at *
   generalize (zeh p s n).1=h1 at *
   generalize (zeh p s n).2=h2 at *
   generalize (zfO p s m).1=q1 at *
   generalize (zfO p s m).2=q2 at *
   by_cases he:zag p s=0
   ·have k1:=zmY hH hI p sp s ss he
    have i1:zfC p s=zlp p s:=by unfold zfC;rw[if_pos he]
    have sT:=imgS_sm (p:=p) ss
    have k2:=za6 hH sT (rfl:zlp p s=_)
    have hnr:=ze0 5 (zlp p s)
    rw[i1,he]at e1
    rw[he]at e3 e4
    have l1:=sT.1
    have l2:=sT.2.1
    have l3:=sT.2.2
    clear i1 he
    generalize zlp p s=T at *
    unfold zen zdn at k1
    unfold zdn at hnr
    refine PC.fn hH cd284 fun w0 M Q hM hE hQ hR=>?_;dsimp only[cd284,qm,ql,qf,qi,qb,qc,qp,qv,qN,qT,qF,qt]at hQ ⊢
    (repeat' first|refine zaa [0,1,2,3,4,5,8,9,10,11,12,13,14,15,16,17,18,19,20,21,22,23,24,25,26,27,28,34,89,119,133,135,140,152,164] fun K hK=>?_|(refine hK.go ?_;clear hK K)|with_reducible exact wT|refine wA ?_|(refine wB (fun h=>?_) (fun h=>?_)<;>first|exact wN h|subst (h:(_:Bool)=_)|skip)|(refine wQ ?_;clear hQ hR hE hM)|refine wC c1 ?_|refine wC c2 ?_|refine wO c3 ?_|refine wC a1 ?_|refine wC a2 ?_|refine wS b1 ?_|refine wC b2 ?_|refine wS d1 ?_|refine wC d2 ?_|refine wV k1 ?_|refine wC e1 ?_|refine wC a3 ?_|refine wS a3 ?_|refine wS k2 ?_|refine wS e3 ?_|refine wP e3 ?_|refine wC e4 ?_|fail)
    all_goals first|(exfalso;contradiction)|skip
    refine zae (ι:=Nat) [5,8,9,22,26] (fun z=>[(26,.n z)]) (fun z=>[(15,.cells ((zbN t9 z T.tracks).map Track.c).flatten (decide (0<T.tracks.length)))]) (fun z=>z) (T.tracks.length) (fun _=>True) (0) ?_;rintro k ⟨hk,-⟩;(try dsimp only at hk ⊢);rcases Nat.lt_or_ge k T.tracks.length with hlt|hge
    ·have g1:=zaX t9 hlt
     have g2:=zaz (c:=Track.c) (l:=zbN t9 k T.tracks) (k:=k) (i:=1) (by rw[zaB];exact hlt) (by omega) (.i .u8 9) (t9 k (nth T.tracks k)) (by rw[zaI _ hlt];rfl)
     rw[g1]at g2
     (have hX:=@g2;(repeat' first|refine zaa [0,1,2,3,4,5,8,9,10,11,12,13,14,15,16,17,18,19,20,21,22,23,24,25,26,27,28,34,89,119,133,135,140,152,164] fun K hK=>?_|(refine hK.go ?_;clear hK K)|with_reducible exact wT|refine wA ?_|(refine wB (fun h=>?_) (fun h=>?_)<;>first|exact wN h|subst (h:(_:Bool)=_)|skip)|(refine wQ ?_;clear hQ hR hE hM)|fail);all_goals clear hX)
     all_goals first|(exfalso;contradiction)|exact ⟨k+1,by omega,by omega,by omega,rfl⟩|trace_state
    ·(repeat' first|refine zaa [0,1,2,3,4,5,8,9,10,11,12,13,14,15,16,17,18,19,20,21,22,23,24,25,26,27,28,34,89,119,133,135,140,152,164] fun K hK=>?_|(refine hK.go ?_;clear hK K)|with_reducible exact wT|refine wA ?_|(refine wB (fun h=>?_) (fun h=>?_)<;>first|exact wN h|subst (h:(_:Bool)=_)|skip)|(refine wQ ?_;clear hQ hR hE hM)|fail)
     refine zae (ι:=Nat) [5,8,9,22,27] (fun z=>[(27,.n z)]) (fun z=>[(17,.cells ((zbN k99 z T.locks).map Lock.c).flatten (decide (0<T.locks.length)))]) (fun z=>z) (T.locks.length) (fun _=>True) (0) ?_;rintro k2 ⟨hk,-⟩;(try dsimp only at hk ⊢);rcases Nat.lt_or_ge k2 T.locks.length with hlt|hge
     ·have hlt2:k2<T.locks.length:=by assumption
      have g1:=zaX k99 hlt2
      have g2:=zaz (c:=Lock.c) (l:=zbN k99 k2 T.locks) (k:=k2) (i:=3) (by rw[zaB];exact hlt2) (by omega) (.i .i64 99) (k99 k2 (nth T.locks k2)) (by rw[zaI _ hlt2];rfl)
      rw[g1]at g2
      (have hX:=@g2;(repeat' first|refine zaa [0,1,2,3,4,5,8,9,10,11,12,13,14,15,16,17,18,19,20,21,22,23,24,25,26,27,28,34,89,119,133,135,140,152,164] fun K hK=>?_|(refine hK.go ?_;clear hK K)|with_reducible exact wT|refine wA ?_|(refine wB (fun h=>?_) (fun h=>?_)<;>first|exact wN h|subst (h:(_:Bool)=_)|skip)|(refine wQ ?_;clear hQ hR hE hM)|fail);all_goals clear hX)
      all_goals first|(exfalso;contradiction)|exact ⟨k2+1,by omega,by omega,by omega,rfl⟩|trace_state
     ·(repeat' first|refine zaa [0,1,2,3,4,5,8,9,10,11,12,13,14,15,16,17,18,19,20,21,22,23,24,25,26,27,28,34,89,119,133,135,140,152,164] fun K hK=>?_|(refine hK.go ?_;clear hK K)|with_reducible exact wT|refine wA ?_|(refine wB (fun h=>?_) (fun h=>?_)<;>first|exact wN h|subst (h:(_:Bool)=_)|skip)|(refine wQ ?_;clear hQ hR hE hM)|fail)
      refine zae (ι:=Nat) [5,8,9,22,28] (fun z=>[(28,.n z)]) (fun z=>[(16,.cells ((zbN w9 z T.switches).map Switch.c).flatten (decide (0<T.switches.length)))]) (fun z=>z) (T.switches.length) (fun _=>True) (0) ?_;rintro k3 ⟨hk,-⟩;(try dsimp only at hk ⊢);rcases Nat.lt_or_ge k3 T.switches.length with hlt|hge
      ·have hlt2:k3<T.switches.length:=by assumption
       have g1:=zaX w9 hlt2
       have g2:=zaz (c:=Switch.c) (l:=zbN w9 k3 T.switches) (k:=k3) (i:=2) (by rw[zaB];exact hlt2) (by omega) (.i .i64 9) (w9 k3 (nth T.switches k3)) (by rw[zaI _ hlt2];rfl)
       rw[g1]at g2
       (have hX:=@g2;(repeat' first|refine zaa [0,1,2,3,4,5,8,9,10,11,12,13,14,15,16,17,18,19,20,21,22,23,24,25,26,27,28,34,89,119,133,135,140,152,164] fun K hK=>?_|(refine hK.go ?_;clear hK K)|with_reducible exact wT|refine wA ?_|(refine wB (fun h=>?_) (fun h=>?_)<;>first|exact wN h|subst (h:(_:Bool)=_)|skip)|(refine wQ ?_;clear hQ hR hE hM)|fail);all_goals clear hX)
       all_goals first|(exfalso;contradiction)|exact ⟨k3+1,by omega,by omega,by omega,rfl⟩|trace_state
      ·(repeat' first|refine zaa [0,1,2,3,4,5,8,9,10,11,12,13,14,15,16,17,18,19,20,21,22,23,24,25,26,27,28,34,89,119,133,135,140,152,164] fun K hK=>?_|(refine hK.go ?_;clear hK K)|with_reducible exact wT|refine wA ?_|(refine wB (fun h=>?_) (fun h=>?_)<;>first|exact wN h|subst (h:(_:Bool)=_)|skip)|(refine wQ ?_;clear hQ hR hE hM)|refine wS c7 ?_|fail)
       all_goals first|rfl|(exfalso;contradiction)|trace_state
   ·have k1:=image_pc hH hI p sp s ss
    have i1:zfC p s=State.z:=by unfold zfC;rw[if_neg he]
    have k2:=za6 hH smz (rfl:State.z=State.z)
    rw[i1]at e1 k1
    unfold State.z at e1 k1 k2
    clear i1
    generalize zag p s=e at *
    refine PC.fn hH cd284 fun w0 M Q hM hE hQ hR=>?_;dsimp only[cd284,qm,ql,qf,qi,qb,qc,qp,qv,qN,qT,qF,qt]at hQ ⊢
    (repeat' first|refine zaa [0,1,2,3,4,5,8,9,10,11,12,13,14,15,16,17,18,19,20,21,22,23,24,25,26,27,28,34,89,119,133,135,140,152,164] fun K hK=>?_|(refine hK.go ?_;clear hK K)|with_reducible exact wT|refine wA ?_|(refine wB (fun h=>?_) (fun h=>?_)<;>first|exact wN h|subst (h:(_:Bool)=_)|skip)|(refine wQ ?_;clear hQ hR hE hM)|refine wC c1 ?_|refine wC c2 ?_|refine wO c3 ?_|refine wC a1 ?_|refine wC a2 ?_|refine wS b1 ?_|refine wC b2 ?_|refine wS d1 ?_|refine wC d2 ?_|refine wS k1 ?_|refine wC e1 ?_|refine wC a3 ?_|refine wS a3 ?_|refine wC k2 ?_|refine wS k2 ?_|refine wS e3 ?_|refine wP e3 ?_|refine wC e4 ?_|fail)
    all_goals first|(exfalso;contradiction)|skip
    refine zae (ι:=Nat) [5,8,9,22,26] (fun z=>[(26,.n z)]) (fun _=>[]) (fun z=>z) (0) (fun _=>True) (0) ?_;rintro k ⟨hk,-⟩;(try dsimp only at hk ⊢);rcases Nat.lt_or_ge k 0 with hlt|hge
    ·exact absurd hlt (by omega)
    ·(repeat' first|refine zaa [0,1,2,3,4,5,8,9,10,11,12,13,14,15,16,17,18,19,20,21,22,23,24,25,26,27,28,34,89,119,133,135,140,152,164] fun K hK=>?_|(refine hK.go ?_;clear hK K)|with_reducible exact wT|refine wA ?_|(refine wB (fun h=>?_) (fun h=>?_)<;>first|exact wN h|subst (h:(_:Bool)=_)|skip)|(refine wQ ?_;clear hQ hR hE hM)|fail)
     refine zae (ι:=Nat) [5,8,9,22,27] (fun z=>[(27,.n z)]) (fun _=>[]) (fun z=>z) (0) (fun _=>True) (0) ?_;rintro k2 ⟨hk,-⟩;(try dsimp only at hk ⊢);rcases Nat.lt_or_ge k2 0 with hlt|hge
     ·exact absurd (show k2<0 by assumption) (by omega)
     ·(repeat' first|refine zaa [0,1,2,3,4,5,8,9,10,11,12,13,14,15,16,17,18,19,20,21,22,23,24,25,26,27,28,34,89,119,133,135,140,152,164] fun K hK=>?_|(refine hK.go ?_;clear hK K)|with_reducible exact wT|refine wA ?_|(refine wB (fun h=>?_) (fun h=>?_)<;>first|exact wN h|subst (h:(_:Bool)=_)|skip)|(refine wQ ?_;clear hQ hR hE hM)|fail)
      refine zae (ι:=Nat) [5,8,9,22,28] (fun z=>[(28,.n z)]) (fun _=>[]) (fun z=>z) (0) (fun _=>True) (0) ?_;rintro k3 ⟨hk,-⟩;(try dsimp only at hk ⊢);rcases Nat.lt_or_ge k3 0 with hlt|hge
      ·exact absurd (show k3<0 by assumption) (by omega)
      ·(repeat' first|refine zaa [0,1,2,3,4,5,8,9,10,11,12,13,14,15,16,17,18,19,20,21,22,23,24,25,26,27,28,34,89,119,133,135,140,152,164] fun K hK=>?_|(refine hK.go ?_;clear hK K)|with_reducible exact wT|refine wA ?_|(refine wB (fun h=>?_) (fun h=>?_)<;>first|exact wN h|subst (h:(_:Bool)=_)|skip)|(refine wQ ?_;clear hQ hR hE hM)|refine wS c7 ?_|fail)
       all_goals first|rfl|(exfalso;contradiction)|trace_state
end Go.Lev
