/-
  A part of the engine that walks the functions' codes, and of the functions' contracts. Conditions: those that each theorem names.
-/
import Derived.Test.YtibpmipffibbpaaGreatB1
import Derived.IntWalk
set_option linter.unusedSimpArgs false
set_option linter.unusedVariables false
set_option linter.unusedSectionVars false
namespace Go.Lev
open Go.Eng
set_option maxRecDepth 10000
set_option maxHeartbeats 4000000
variable {P:Program} {inv:Nat→Option Nat} {w0:World} {M:Nat→Prop}
theorem znW {p:Pln} (ho:OkP p) {r:Rte} (hr:r∈p.routes):isSec p (sig p r.entry).sec=true:=by
 have hg:=(zfk ho.sec).1 ho.sgn
 have hR:=(zlR ho.sec hg r).1 (ho.rte r hr)
 obtain ⟨k,hk,_,_,e⟩:=zfM ho.sec hg hR
 obtain ⟨q,hq,e2,_⟩:=hg.sec _ (zab hk)
 rw[e]
 exact List.any_eq_true.2 ⟨q,hq,by simpa using e2⟩
theorem zmj (hH:HasAll P inv) (p:Pln) (hp:Sm p) (s:State) (hs:SmS s) {i g:Nat} (hi:i<p.routes.length) (his:i<s.locks.length) (hgn:(nth s.locks i).gone=g) (q:Int→Int) (hc:∀ n∈(nth p.routes i).path,PC P inv 335 [.agg p.c,.agg s.c,.n n] (·=.i .u8 (q n)))
  (hg:g≤(nth p.routes i).path.length) (h6:(nth p.routes i).path.length≤6):PC P inv 371 [.agg p.c,.agg s.c,.n i] (·=.b (((nth p.routes i).path.drop g).all fun m=>decide (q m=0))):=by
 have hl3:=hs.2.2
 have hrl:=hp.rte
 cases hb:(((nth p.routes i).path.drop g).all fun m=>decide (q m=0)) with
 |true =>
  have hn:=List.all_eq_true.1 hb
  refine PC.fn hH cd371 fun w0 M Q hM hE hQ hR=>?_;dsimp only[cd371,qm,ql,qf,qi,qb,qc,qp,qv,qN,qT,qF,qt]at hQ ⊢
  (have hX:=@hgn;(repeat' first|refine zaa [0,1,2,3,4,6,7,8,24,33,34] fun K hK=>?_|(refine hK.go ?_;clear hK K)|with_reducible exact wT|refine wA ?_|(refine wB (fun h=>?_) (fun h=>?_)<;>first|exact wN h|subst (h:(_:Bool)=_)|skip)|(refine wQ ?_;clear hQ hR hE hM)|fail);all_goals clear hX)
  refine zai (ι:=Nat) [3,4,6,7,8] (fun z=>[(8,.n ((g:Int)+(z:Int)))]) (fun _=>[]) (fun z=>z) (((nth p.routes i).path.length-g)) (fun _=>True) (0) ?_;rintro k ⟨hk,-⟩;(try dsimp only at hk ⊢);rcases Nat.lt_or_ge k ((nth p.routes i).path.length-g) with hlt|hge
  ·have hk2:g+k<(nth p.routes i).path.length:=by omega
   have d1:=hc _ (zab hk2)
   have x0:=zdL hk2
   have x1:((g:Int)+(k:Int)).toNat=g+k:=by omega
   have h0:q (nth (nth p.routes i).path (g+k))=0:=by
    have:=hn (nth (nth p.routes i).path (g+k)) (by have h9:=List.getElem_mem (l:=(nth p.routes i).path.drop g) (n:=k) (by rw[List.length_drop];omega);rw[List.getElem_drop]at h9;rw[zaE hk2];exact h9)
    simpa using this
   rw[h0]at d1
   (have hX:=zA @x0 @x1;(repeat' first|refine zaa [0,1,2,3,4,6,7,8,24,33,34] fun K hK=>?_|(refine hK.go ?_;clear hK K)|with_reducible exact wT|refine wA ?_|(refine wB (fun h=>?_) (fun h=>?_)<;>first|exact wN h|subst (h:(_:Bool)=_)|skip)|(refine wQ ?_;clear hQ hR hE hM)|refine wC d1 ?_|refine wU d1 ?_|fail);all_goals clear hX)
   all_goals first|(exfalso;contradiction)|(exfalso;omega)|exact ⟨k+1,by omega,by omega,by omega⟩|trace_state
  ·(repeat' first|refine zaa [0,1,2,3,4,6,7,8,24,33,34] fun K hK=>?_|(refine hK.go ?_;clear hK K)|with_reducible exact wT|refine wA ?_|(refine wB (fun h=>?_) (fun h=>?_)<;>first|exact wN h|subst (h:(_:Bool)=_)|skip)|(refine wQ ?_;clear hQ hR hE hM)|fail)
   all_goals first|rfl|(exfalso;contradiction)|(exfalso;omega)|trace_state
 |false =>
  refine PC.fn hH cd371 fun w0 M Q hM hE hQ hR=>?_;dsimp only[cd371,qm,ql,qf,qi,qb,qc,qp,qv,qN,qT,qF,qt]at hQ ⊢
  (have hX:=@hgn;(repeat' first|refine zaa [0,1,2,3,4,6,7,8,24,33,34] fun K hK=>?_|(refine hK.go ?_;clear hK K)|with_reducible exact wT|refine wA ?_|(refine wB (fun h=>?_) (fun h=>?_)<;>first|exact wN h|subst (h:(_:Bool)=_)|skip)|(refine wQ ?_;clear hQ hR hE hM)|fail);all_goals clear hX)
  refine zai (ι:=Nat) [3,4,6,7,8] (fun z=>[(8,.n ((g:Int)+(z:Int)))]) (fun _=>[]) (fun z=>z) (((nth p.routes i).path.length-g)) (fun z=>(((nth p.routes i).path.drop (g+z)).all (fun m=>decide (q m=0))=((nth p.routes i).path.drop g).all (fun m=>decide (q m=0)))) (0) ?_;rintro k ⟨hk,hG⟩;(try dsimp only at hk hG ⊢);rcases Nat.lt_or_ge k ((nth p.routes i).path.length-g) with hlt|hge
  ·have hk2:g+k<(nth p.routes i).path.length:=by omega
   rw[hb,zae hk2,List.all_cons]at hG
   have d1:=hc _ (zab hk2)
   have x0:=zdL hk2
   have x1:((g:Int)+(k:Int)).toNat=g+k:=by omega
   generalize q (nth (nth p.routes i).path (g+k))=a at *
   by_cases ha:a=0
   ·subst ha
    rw[show decide ((0:Int)=0)=true from rfl,Bool.true_and]at hG
    (have hX:=zA @x0 @x1;(repeat' first|refine zaa [0,1,2,3,4,6,7,8,24,33,34] fun K hK=>?_|(refine hK.go ?_;clear hK K)|with_reducible exact wT|refine wA ?_|(refine wB (fun h=>?_) (fun h=>?_)<;>first|exact wN h|subst (h:(_:Bool)=_)|skip)|(refine wQ ?_;clear hQ hR hE hM)|refine wC d1 ?_|refine wU d1 ?_|fail);all_goals clear hX)
    all_goals first|(exfalso;contradiction)|(exfalso;omega)|exact ⟨k+1,by omega,⟨by omega,by rw[show g+(k+1)=g+k+1 by omega];exact hG.trans hb.symm⟩,by omega⟩|trace_state
   ·have z:=decide_eq_false ha
    (have hX:=zA @x0 (zA @x1 @z);(repeat' first|refine zaa [0,1,2,3,4,6,7,8,24,33,34] fun K hK=>?_|(refine hK.go ?_;clear hK K)|with_reducible exact wT|refine wA ?_|(refine wB (fun h=>?_) (fun h=>?_)<;>first|exact wN h|subst (h:(_:Bool)=_)|skip)|(refine wQ ?_;clear hQ hR hE hM)|refine wC d1 ?_|refine wU d1 ?_|fail);all_goals clear hX)
    all_goals first|rfl|(exfalso;contradiction)|(exfalso;omega)|trace_state
  ·rw[hb,List.drop_eq_nil_of_le (by omega),List.all_nil]at hG
   cases hG
theorem zoz (hH:HasAll P inv) (p:Pln) (hp:Sm p) (s:State) (hs:SmS s) (he:zag p s=0):PO P inv 365 [.agg p.c,.agg s.c] (.tup [zgN 5 (zdU s),.n 0]) (zeZ 5 (zdU s)):=by
 have c0:=zc2 hH p hp s hs
 rw[he]at c0
 have c1:=zeb hH s hs
 have hlf:∀ k,k<s.locks.length→((nth s.locks k).left=0∧((nth s.locks k).phase=0∨(nth s.locks k).phase=1∨(nth s.locks k).phase=2))∨(1≤(nth s.locks k).left∧(nth s.locks k).left≤9∧((nth s.locks k).phase=3∨(nth s.locks k).phase=4)):=fun k hk=>by
  have hpa:=(zad he).2.1
  have hpl:=zan hpa
  have h1:=zpA (zcH hpa hk)
  have h2:=zfd (zar he) (zab (show k<p.routes.length by omega))
  omega
 obtain ⟨h1,h2,h3⟩:=hs
 unfold stV stR at c1
 refine PO.fn hH cd365 fun w0 M Q hM hE hQ hR=>?_;dsimp only[cd365,qm,ql,qf,qi,qb,qc,qp,qv,qN,qT,qF,qt]at hQ ⊢
 (repeat' first|refine zaa [0,1,2,3,4,5,6,7,8,13,22,37,44] fun K hK=>?_|(refine hK.go ?_;clear hK K)|with_reducible exact wT|refine wA ?_|(refine wB (fun h=>?_) (fun h=>?_)<;>first|exact wN h|subst (h:(_:Bool)=_)|skip)|(refine wR ?_;clear hQ hR hE hM)|refine wC c0 ?_|refine wO c1 ?_|fail)
 all_goals first|(exfalso;contradiction)|skip
 refine zai (ι:=Nat) [3,4,5,7] (fun z=>[(7,.n z)]) (fun z=>[(7,.cells ((zb4 (fun _ l=>zb0 l) z s.locks).map Lock.c).flatten (decide (0<s.locks.length)))]) (fun z=>z) (s.locks.length) (fun _=>True) (0) ?_;rintro k ⟨hk,-⟩;(try dsimp only at hk ⊢);rcases Nat.lt_or_ge k s.locks.length with hlt|hge
 ·have e1:=zbo (fun _ l=>zb0 l) hlt
  have en:=zbe (fun _ l=>zb0 l) hlt
  have hlen:(zb4 (fun _ l=>zb0 l) k s.locks).length=s.locks.length:=zaW _ _ _
  have hl9:=hlf k hlt
  have eid:=zow (fun _ l=>zb0 l) hlt
  (try dsimp only at e1);(try dsimp only at eid)
  generalize hU:zb4 (fun _ l=>zb0 l) k s.locks=U at *
  have hk:k<U.length:=by omega
  have fa:zcm (U.map Lock.c).flatten (k*4) (some 4)=some (.agg (nth s.locks k).c):=by
   rw[zeG (c:=Lock.c) (l:=U) (k:=k) hk (by omega),en]
  by_cases h0:(nth s.locks k).left=0
  ·have eid:=eid (by unfold zb0;rw[if_pos h0])
   have hd1:decide ((nth s.locks k).phase=3)=false:=decide_eq_false (by omega)
   have hd2:decide ((nth s.locks k).phase=4)=false:=decide_eq_false (by omega)
   (have hX:=zA @fa (zA @hlen (zA @hd1 @hd2));(repeat' first|refine zaa [0,1,2,3,4,5,6,7,8,13,22,37,44] fun K hK=>?_|(refine hK.go ?_;clear hK K)|with_reducible exact wT|refine wA ?_|(refine wB (fun h=>?_) (fun h=>?_)<;>first|exact wN h|subst (h:(_:Bool)=_)|skip)|(refine wR ?_;clear hQ hR hE hM)|fail);all_goals clear hX)
   all_goals first|(exfalso;contradiction)|exact ⟨k+1,by omega,by omega,by omega,by rw[eid]⟩|trace_state
  ·have hph:(nth s.locks k).phase=3∨(nth s.locks k).phase=4:=by omega
   have hl1:1≤(nth s.locks k).left∧(nth s.locks k).left≤9:=by omega
   clear hl9 hlf
   by_cases hl2:(nth s.locks k).left-1=0
   ·have hd:decide ((nth s.locks k).left-1=0)=true:=decide_eq_true hl2
    have hz:U.set k ⟨(nth s.locks k).id,0,0,0⟩=zb4 (fun _ l=>zb0 l) (k+1) s.locks:=by rw[←e1];unfold zb0;rw[if_neg h0,if_pos hl2]
    rcases hph with hp3|hp3
    ·(have hX:=zA @fa (zA @hlen (zA @hp3 (zA @hd (zA (zcg hk) (zA (zbs hk) (zA (zbr hk) (zbq hk)))))));(repeat' first|refine zaa [0,1,2,3,4,5,6,7,8,13,22,37,44] fun K hK=>?_|(refine hK.go ?_;clear hK K)|with_reducible exact wT|refine wA ?_|(refine wB (fun h=>?_) (fun h=>?_)<;>first|exact wN h|subst (h:(_:Bool)=_)|skip)|(refine wR ?_;clear hQ hR hE hM)|fail);all_goals clear hX)
     all_goals first|(exfalso;contradiction)|(exfalso;omega)|exact ⟨k+1,by omega,by omega,by omega,by rw[←hz]⟩|trace_state
    ·(have hX:=zA @fa (zA @hlen (zA @hp3 (zA @hd (zA (zcg hk) (zA (zbs hk) (zA (zbr hk) (zbq hk)))))));(repeat' first|refine zaa [0,1,2,3,4,5,6,7,8,13,22,37,44] fun K hK=>?_|(refine hK.go ?_;clear hK K)|with_reducible exact wT|refine wA ?_|(refine wB (fun h=>?_) (fun h=>?_)<;>first|exact wN h|subst (h:(_:Bool)=_)|skip)|(refine wR ?_;clear hQ hR hE hM)|fail);all_goals clear hX)
     all_goals first|(exfalso;contradiction)|(exfalso;omega)|exact ⟨k+1,by omega,by omega,by omega,by rw[←hz]⟩|trace_state
   ·have hd:decide ((nth s.locks k).left-1=0)=false:=decide_eq_false hl2
    have hz:U.set k ⟨(nth s.locks k).id,(nth s.locks k).phase,(nth s.locks k).gone,(nth s.locks k).left-1⟩=zb4 (fun _ l=>zb0 l) (k+1) s.locks:=by rw[←e1];unfold zb0;rw[if_neg h0,if_neg hl2]
    rcases hph with hp3|hp3
    ·rw[hp3]at hz
     (have hX:=zA @fa (zA @hlen (zA @hp3 (zA @hd (zA (zcg hk) (zA (zbs hk) (zA (zbr hk) (zbq hk)))))));(repeat' first|refine zaa [0,1,2,3,4,5,6,7,8,13,22,37,44] fun K hK=>?_|(refine hK.go ?_;clear hK K)|with_reducible exact wT|refine wA ?_|(refine wB (fun h=>?_) (fun h=>?_)<;>first|exact wN h|subst (h:(_:Bool)=_)|skip)|(refine wR ?_;clear hQ hR hE hM)|fail);all_goals clear hX)
     all_goals first|(exfalso;contradiction)|(exfalso;omega)|exact ⟨k+1,by omega,by omega,by omega,by rw[←hz]⟩|trace_state
    ·rw[hp3]at hz
     (have hX:=zA @fa (zA @hlen (zA @hp3 (zA @hd (zA (zcg hk) (zA (zbs hk) (zA (zbr hk) (zbq hk)))))));(repeat' first|refine zaa [0,1,2,3,4,5,6,7,8,13,22,37,44] fun K hK=>?_|(refine hK.go ?_;clear hK K)|with_reducible exact wT|refine wA ?_|(refine wB (fun h=>?_) (fun h=>?_)<;>first|exact wN h|subst (h:(_:Bool)=_)|skip)|(refine wR ?_;clear hQ hR hE hM)|fail);all_goals clear hX)
     all_goals first|(exfalso;contradiction)|(exfalso;omega)|exact ⟨k+1,by omega,by omega,by omega,by rw[←hz]⟩|trace_state
 ·rw[zfc _ (by omega),zgE]
  (repeat' first|refine zaa [0,1,2,3,4,5,6,7,8,13,22,37,44] fun K hK=>?_|(refine hK.go ?_;clear hK K)|with_reducible exact wT|refine wA ?_|(refine wB (fun h=>?_) (fun h=>?_)<;>first|exact wN h|subst (h:(_:Bool)=_)|skip)|(refine wR ?_;clear hQ hR hE hM)|fail)
  all_goals (left;unfold zgN zeZ zdU;dsimp only;rw[List.length_map];constructor)
  all_goals (refine no_implicit_lambda% (st ?_);try with_reducible exact wT)
theorem zoA (hH:HasAll P inv) (p:Pln) (hp:Sm p) (s:State) (hs:SmS s):PC P inv 365 [.agg p.c,.agg s.c] (·=.tup [.agg (zhd p s).c,.n (zag p s)]):=by
 unfold zhd
 by_cases he:zag p s=0
 ·have:=(zoz hH p hp s hs he).pc
  rw[zcU]at this
  rw[if_pos he,he]
  exact this
 ·have c0:=zc2 hH p hp s hs
  rw[if_neg he]
  generalize zag p s=e at c0 he ⊢
  refine PC.fn hH cd365 fun w0 M Q hM hE hQ hR=>?_;dsimp only[cd365,qm,ql,qf,qi,qb,qc,qp,qv,qN,qT,qF,qt]at hQ ⊢
  (repeat' first|refine zaa [0,1,2,3,4,5,6,7,8,13,22,37,44] fun K hK=>?_|(refine hK.go ?_;clear hK K)|with_reducible exact wT|refine wA ?_|(refine wB (fun h=>?_) (fun h=>?_)<;>first|exact wN h|subst (h:(_:Bool)=_)|skip)|(refine wQ ?_;clear hQ hR hE hM)|refine wC c0 ?_|fail)
  all_goals first|rfl|(exfalso;contradiction)|trace_state
theorem zgI (hH:HasAll P inv) (p:Pln) (hp:Sm p) (s:State) (hs:SmS s) (hst:zag p s=0) {i:Nat} (hi:i<s.locks.length) :
  PC P inv 334 [.agg p.c,.n (nth s.locks i).id] (·=.n i)∧PC P inv 312 [.agg p.c,.n i] (·=.agg (zah p (nth p.routes i)).1.c)∧PC P inv 335 [.agg p.c,.agg s.c,.n (zah p (nth p.routes i)).1.near] (·=.i .u8 (zc6 s (zah p (nth p.routes i)).1.near)) ∧
   (∃ g:Nat,(nth s.locks i).gone=g∧PC P inv 371 [.agg p.c,.agg s.c,.n i] (·=.b (zc0 s (zah p (nth p.routes i)).1 (nth s.locks i))))∧i<p.routes.length:=by
 have ho:=zar hst
 have hpa:=(zad hst).2.1
 have hpl:=zan hpa
 have hkr:i<p.routes.length:=by omega
 have c2:=zmS hH p (by have:=hp.rte;omega) (nth s.locks i).id
 have hix:zaZ (fun x=>decide (Rte.id x=(nth s.locks i).id)) 0 p.routes=(i:Int):=by rw[←rtl_id hpa hi];exact ziR ho hkr
 rw[hix]at c2
 have hwp:=zbC ((zaN (zad hst).1).2.1 _ (zab hkr))
 have hgn:=zeD ho (zab hkr) (zcH hpa hi)
 obtain ⟨g,hg⟩:∃ g:Nat,(nth s.locks i).gone=g:=⟨(nth s.locks i).gone.toNat,by omega⟩
 have hln:=zcO ho (zab hkr)
 have c5:=zmj hH p hp s hs hkr hi hg (zc6 s) (fun n hn=>by
  obtain ⟨q,hq,e⟩:=(zcc ho (zab hkr)).1 n (List.mem_append.2 (.inl hn))
  exact zjT hH p hp _ hs hst (List.any_eq_true.2 ⟨q,hq,by simpa using e⟩)) (by omega) hln.2.1
 refine ⟨c2,zhb hH p hp (zad hst).1 hkr, ?_,⟨g,hg, ?_⟩,hkr⟩
 ·exact zjT hH p hp s hs hst (by rw[hwp.2.2];exact znW ho (zab hkr))
 ·rw[zqc hst,hwp.1,hg,Int.toNat_natCast]
  exact c5
theorem zml (hH:HasAll P inv) (p:Pln) (hp:Sm p) (s:State) (hs:SmS s) (n:Int) (he:cnC p s n=0):PO P inv 364 [.agg p.c,.agg s.c,.n n] (.tup [zgN 7 (cnS p s n),.n 0]) (zeZ 7 (cnS p s n)):=by
 have hst:zag p s=0:=by
  unfold cnC at he
  split at he
  ·assumption
  ·rename_i h9;exact absurd he h9
 have c1:=zc2 hH p hp s hs
 rw[hst]at c1
 obtain ⟨i,hi,hid,hix,he0⟩:=cnC_ix hst he
 obtain ⟨c2,c3,c4,⟨g,hg,c5⟩,hkr⟩:=zgI hH p hp s hs hst hi
 rw[hid]at c2
 have c6:=zeb hH s hs
 unfold stV stR at c6
 have hl3:=hs.2.2
 have hrl:=hp.rte
 have hwl:=zbH (zar hst) (zab hkr)
 have hns:=near_sec hst hkr
 unfold cnS
 rw[hix,Int.toNat_natCast]
 unfold cnL
 unfold cnC0 at he0
 clear hst he
 have hft:frT s (zah p (nth p.routes i)).1.near=decide (zc6 s (zah p (nth p.routes i)).1.near=0):=hns
 generalize (zah p (nth p.routes i)).1=w at *
 generalize zc6 s w.near=a at *
 by_cases hp1:(nth s.locks i).phase=1
 ·by_cases ha:a=0
  ·subst ha
   rw[if_neg (fun h9=>by rw[hft]at h9;simp at h9)]
   refine PO.fn hH cd364 fun w0 M Q hM hE hQ hR=>?_;dsimp only[cd364,qm,ql,qf,qi,qb,qc,qp,qv,qN,qT,qF,qt]at hQ ⊢
   (have hX:=zA @hp1 (zA @Int.toNat_natCast (zA (zcg hi) (zA (zbs hi) (zA (zbr hi) (zbq hi)))));(repeat' first|refine zaa [0,1,2,3,4,6,7,8,9,10,11,16,23,33,35,38,46,47,56,62] fun K hK=>?_|(refine hK.go ?_;clear hK K)|with_reducible exact wT|refine wA ?_|(refine wB (fun h=>?_) (fun h=>?_)<;>first|exact wN h|subst (h:(_:Bool)=_)|skip)|(refine wR ?_;clear hQ hR hE hM)|refine wC c1 ?_|refine wC c2 ?_|refine wC c3 ?_|refine wU c3 ?_|refine wC c4 ?_|refine wO c6 ?_|fail);all_goals clear hX)
   all_goals first|(exfalso;contradiction)|(exfalso;omega)|skip
   all_goals (left;unfold zgN zeZ;dsimp only;rw[List.length_set];constructor)
   all_goals (refine no_implicit_lambda% (st ?_);try with_reducible exact wT)
  ·have z:=decide_eq_false ha
   rw[if_pos ⟨hp1,by rw[hft];exact z⟩]
   refine PO.fn hH cd364 fun w0 M Q hM hE hQ hR=>?_;dsimp only[cd364,qm,ql,qf,qi,qb,qc,qp,qv,qN,qT,qF,qt]at hQ ⊢
   (have hX:=zA @hp1 (zA @z (zA @Int.toNat_natCast (zA (zcg hi) (zA (zbs hi) (zA (zbr hi) (zbq hi))))));(repeat' first|refine zaa [0,1,2,3,4,6,7,8,9,10,11,16,23,33,35,38,46,47,56,62] fun K hK=>?_|(refine hK.go ?_;clear hK K)|with_reducible exact wT|refine wA ?_|(refine wB (fun h=>?_) (fun h=>?_)<;>first|exact wN h|subst (h:(_:Bool)=_)|skip)|(refine wR ?_;clear hQ hR hE hM)|refine wC c1 ?_|refine wC c2 ?_|refine wC c3 ?_|refine wU c3 ?_|refine wC c4 ?_|refine wO c6 ?_|fail);all_goals clear hX)
   all_goals first|(exfalso;contradiction)|(exfalso;omega)|skip
   all_goals (left;unfold zgN zeZ;dsimp only;rw[List.length_set];constructor)
   all_goals (refine no_implicit_lambda% (st ?_);try with_reducible exact wT)
 ·rw[if_neg (fun h9=>hp1 h9.1)]
  rw[if_neg hp1]at he0
  have hp2:(nth s.locks i).phase=2∧zc0 s w (nth s.locks i)=true:=by
   by_cases h9:(nth s.locks i).phase=0
   ·rw[if_pos h9]at he0;cases he0
   ·rw[if_neg h9]at he0
    by_cases h8:(nth s.locks i).phase=2∧zc0 s w (nth s.locks i)=true
    ·exact h8
    ·rw[if_neg h8]at he0;cases he0
  obtain ⟨hp2,hem⟩:=hp2
  rw[hem]at c5
  refine PO.fn hH cd364 fun w0 M Q hM hE hQ hR=>?_;dsimp only[cd364,qm,ql,qf,qi,qb,qc,qp,qv,qN,qT,qF,qt]at hQ ⊢
  (have hX:=zA @hp2 (zA @Int.toNat_natCast (zA (zcg hi) (zA (zbs hi) (zA (zbr hi) (zbq hi)))));(repeat' first|refine zaa [0,1,2,3,4,6,7,8,9,10,11,16,23,33,35,38,46,47,56,62] fun K hK=>?_|(refine hK.go ?_;clear hK K)|with_reducible exact wT|refine wA ?_|(refine wB (fun h=>?_) (fun h=>?_)<;>first|exact wN h|subst (h:(_:Bool)=_)|skip)|(refine wR ?_;clear hQ hR hE hM)|refine wC c1 ?_|refine wC c2 ?_|refine wC c5 ?_|refine wO c6 ?_|fail);all_goals clear hX)
  all_goals first|(exfalso;contradiction)|(exfalso;omega)|skip
  all_goals (left;unfold zgN zeZ;dsimp only;rw[List.length_set];constructor)
  all_goals (refine no_implicit_lambda% (st ?_);try with_reducible exact wT)
theorem zmm (hH:HasAll P inv) (p:Pln) (hp:Sm p) (s:State) (hs:SmS s) (n:Int):PC P inv 364 [.agg p.c,.agg s.c,.n n] (·=.tup [.agg (cnR p s n).c,.n (cnC p s n)]):=by
 unfold cnR
 by_cases he:cnC p s n=0
 ·have:=(zml hH p hp s hs n he).pc
  rw[zcU]at this
  rw[if_pos he,he]
  exact this
 ·rw[if_neg he]
  have c1:=zc2 hH p hp s hs
  by_cases hst:zag p s=0
  ·have hpa:=(zad hst).2.1
   have hpl:=zan hpa
   have hl3:=hs.2.2
   have hrl:=hp.rte
   rw[hst]at c1
   unfold cnC at he ⊢
   rw[if_pos hst]at he ⊢
   rcases zaV Lock.id n s.locks with ⟨h4,h5⟩|⟨i,hi,h4,h5⟩
   ·rw[show zeC s n=-1 from h4,if_pos (by decide)]
    have c2:=zmS hH p (by omega) n
    have hix:zaZ (fun x=>decide (Rte.id x=n)) 0 p.routes=-1:=by
     rcases zaV Rte.id n p.routes with ⟨h6,_⟩|⟨j,hj,_,h7⟩
     ·exact h6
     ·exact absurd (by rw[←h7];exact (rtl_id hpa (show j<s.locks.length by omega)).symm) (h5 (nth s.locks j) (zab (by omega)))
    rw[hix]at c2
    refine PC.fn hH cd364 fun w0 M Q hM hE hQ hR=>?_;dsimp only[cd364,qm,ql,qf,qi,qb,qc,qp,qv,qN,qT,qF,qt]at hQ ⊢
    (repeat' first|refine zaa [0,1,2,3,4,6,7,8,9,10,11,16,23,33,35,38,46,47,56,62] fun K hK=>?_|(refine hK.go ?_;clear hK K)|with_reducible exact wT|refine wA ?_|(refine wB (fun h=>?_) (fun h=>?_)<;>first|exact wN h|subst (h:(_:Bool)=_)|skip)|(refine wQ ?_;clear hQ hR hE hM)|refine wC c1 ?_|refine wC c2 ?_|fail)
    all_goals first|rfl|(exfalso;contradiction)|trace_state
   ·rw[show zeC s n=(i:Int) from h4,if_neg (show ¬((i:Nat):Int)<0 by omega),Int.toNat_natCast]at he ⊢
    obtain ⟨c2,c3,c4,⟨g,hg,c5⟩,hkr⟩:=zgI hH p hp s hs hst hi
    rw[h5]at c2
    clear hst hpa
    unfold cnC0 at he ⊢
    generalize (zah p (nth p.routes i)).1=w at *
    by_cases hp0:(nth s.locks i).phase=0
    ·rw[if_pos hp0]
     refine PC.fn hH cd364 fun w0 M Q hM hE hQ hR=>?_;dsimp only[cd364,qm,ql,qf,qi,qb,qc,qp,qv,qN,qT,qF,qt]at hQ ⊢
     (have hX:=zA @hp0 @Int.toNat_natCast;(repeat' first|refine zaa [0,1,2,3,4,6,7,8,9,10,11,16,23,33,35,38,46,47,56,62] fun K hK=>?_|(refine hK.go ?_;clear hK K)|with_reducible exact wT|refine wA ?_|(refine wB (fun h=>?_) (fun h=>?_)<;>first|exact wN h|subst (h:(_:Bool)=_)|skip)|(refine wQ ?_;clear hQ hR hE hM)|refine wC c1 ?_|refine wC c2 ?_|fail);all_goals clear hX)
     all_goals first|rfl|(exfalso;contradiction)|(exfalso;omega)|trace_state
    ·rw[if_neg hp0]at he ⊢
     by_cases hp1:(nth s.locks i).phase=1
     ·rw[if_pos hp1]at he;exact absurd rfl he
     ·rw[if_neg hp1]at he ⊢
      have e0:decide ((nth s.locks i).phase=0)=false:=decide_eq_false hp0
      have e1:decide ((nth s.locks i).phase=1)=false:=decide_eq_false hp1
      by_cases hp2:(nth s.locks i).phase=2
      ·have hem:zc0 s w (nth s.locks i)=false:=by
        cases h9:zc0 s w (nth s.locks i) with
        |false=>rfl
        |true=>rw[if_pos ⟨hp2,h9⟩]at he;exact absurd rfl he
       rw[if_neg (fun h9=>by rw[hem]at h9;cases h9.2)]
       rw[hem]at c5
       refine PC.fn hH cd364 fun w0 M Q hM hE hQ hR=>?_;dsimp only[cd364,qm,ql,qf,qi,qb,qc,qp,qv,qN,qT,qF,qt]at hQ ⊢
       (have hX:=zA @hp2 @Int.toNat_natCast;(repeat' first|refine zaa [0,1,2,3,4,6,7,8,9,10,11,16,23,33,35,38,46,47,56,62] fun K hK=>?_|(refine hK.go ?_;clear hK K)|with_reducible exact wT|refine wA ?_|(refine wB (fun h=>?_) (fun h=>?_)<;>first|exact wN h|subst (h:(_:Bool)=_)|skip)|(refine wQ ?_;clear hQ hR hE hM)|refine wC c1 ?_|refine wC c2 ?_|refine wC c5 ?_|fail);all_goals clear hX)
       all_goals first|rfl|(exfalso;contradiction)|(exfalso;omega)|trace_state
      ·rw[if_neg (fun h9=>hp2 h9.1)]
       have e2:decide ((nth s.locks i).phase=2)=false:=decide_eq_false hp2
       refine PC.fn hH cd364 fun w0 M Q hM hE hQ hR=>?_;dsimp only[cd364,qm,ql,qf,qi,qb,qc,qp,qv,qN,qT,qF,qt]at hQ ⊢
       (have hX:=zA @e0 (zA @e1 (zA @e2 @Int.toNat_natCast));(repeat' first|refine zaa [0,1,2,3,4,6,7,8,9,10,11,16,23,33,35,38,46,47,56,62] fun K hK=>?_|(refine hK.go ?_;clear hK K)|with_reducible exact wT|refine wA ?_|(refine wB (fun h=>?_) (fun h=>?_)<;>first|exact wN h|subst (h:(_:Bool)=_)|skip)|(refine wQ ?_;clear hQ hR hE hM)|refine wC c1 ?_|refine wC c2 ?_|fail);all_goals clear hX)
       all_goals first|rfl|(exfalso;contradiction)|(exfalso;omega)|trace_state
  ·rw[show cnC p s n=zag p s by unfold cnC;rw[if_neg hst]]
   generalize zag p s=e at *
   refine PC.fn hH cd364 fun w0 M Q hM hE hQ hR=>?_;dsimp only[cd364,qm,ql,qf,qi,qb,qc,qp,qv,qN,qT,qF,qt]at hQ ⊢
   (repeat' first|refine zaa [0,1,2,3,4,6,7,8,9,10,11,16,23,33,35,38,46,47,56,62] fun K hK=>?_|(refine hK.go ?_;clear hK K)|with_reducible exact wT|refine wA ?_|(refine wB (fun h=>?_) (fun h=>?_)<;>first|exact wN h|subst (h:(_:Bool)=_)|skip)|(refine wQ ?_;clear hQ hR hE hM)|refine wC c1 ?_|fail)
   all_goals first|rfl|(exfalso;contradiction)|trace_state
end Go.Lev
namespace Go.Lev
open Go.Eng
set_option maxRecDepth 10000
set_option maxHeartbeats 4000000
variable {P:Program} {inv:Nat→Option Nat} {w0:World} {M:Nat→Prop}
theorem smz:SmS State.z:=⟨by decide,by decide,by decide⟩
end Go.Lev
namespace Go.Lev
open Go.Eng
set_option maxRecDepth 10000
set_option maxHeartbeats 4000000
variable {P:Program} {inv:Nat→Option Nat} {w0:World} {M:Nat→Prop}
theorem cancelDoes_pc (hH:HasAll P inv) (hI:HasIds P inv) (p:Pln) (hp:Pln.ok p) (s:State) (n:Int):PC P inv 358 [.agg p.c,.agg s.c,.n n] (·=.b true):=by
 have c1:=zgF hH p
 have c2:=zkq hH s
 cases g1:ziT p with
 |true =>
  rw[g1]at c1
  refine PC.fn hH cd358 fun w0 M Q hM hE hQ hR=>?_;dsimp only[cd358,qm,ql,qf,qi,qb,qc,qp,qv,qN,qT,qF,qt]at hQ ⊢
  (repeat' first|refine zaa [0,1,2,3,4,6,7,8,9,10,11,12,13,14,15,21,69] fun K hK=>?_|(refine hK.go ?_;clear hK K)|with_reducible exact wT|refine wA ?_|(refine wB (fun h=>?_) (fun h=>?_)<;>first|exact wN h|subst (h:(_:Bool)=_)|skip)|(refine wQ ?_;clear hQ hR hE hM)|refine wC c1 ?_|fail)
 |false =>
  rw[g1]at c1
  cases g2:zjV s with
  |true =>
   rw[g2]at c2
   refine PC.fn hH cd358 fun w0 M Q hM hE hQ hR=>?_;dsimp only[cd358,qm,ql,qf,qi,qb,qc,qp,qv,qN,qT,qF,qt]at hQ ⊢
   (repeat' first|refine zaa [0,1,2,3,4,6,7,8,9,10,11,12,13,14,15,21,69] fun K hK=>?_|(refine hK.go ?_;clear hK K)|with_reducible exact wT|refine wA ?_|(refine wB (fun h=>?_) (fun h=>?_)<;>first|exact wN h|subst (h:(_:Bool)=_)|skip)|(refine wQ ?_;clear hQ hR hE hM)|refine wC c1 ?_|refine wC c2 ?_|fail)
  |false =>
   rw[g2]at c2
   have sp:=sm_of hp g1
   have ss:=smS_of g2
   have c3:=zeb hH s ss
   have c4:=zmm hH p sp s ss n
   have c5:=zoA hH p sp s ss
   have c7:=zbV hH ss (rfl:s=s)
   have hl1:=ss.1
   have hl2:=ss.2.1
   have hl3:=ss.2.2
   unfold stV stR at c3
   by_cases hB:zag p s=0
   ·by_cases hA:cnC p s n=0
    ·have kA:=zlj hH hI p sp s ss n hA
     have eA:cnR p s n=cnS p s n:=by unfold cnR;rw[if_pos hA]
     have sA:=(zqp hB hA).sm hB ss
     have qA:=zbV hH sA (rfl:cnS p s n=_)
     have rA:=zjG 7 (cnS p s n)
     rw[eA,hA]at c4
     have lA1:=sA.1
     have lA2:=sA.2.1
     have lA3:=sA.2.2
     clear eA
     generalize cnS p s n=TA at *
     unfold zgN zeZ at kA
     unfold zeZ at rA
     have kB:=zlB hH hI p sp s ss hB
     have eB:zhd p s=zdU s:=by unfold zhd;rw[if_pos hB]
     have sB:=(zoy hB).sm hB ss
     have qB:=zbV hH sB (rfl:zdU s=_)
     have rB:=zjG 5 (zdU s)
     rw[eB,hB]at c5
     have lB1:=sB.1
     have lB2:=sB.2.1
     have lB3:=sB.2.2
     clear eB
     generalize zdU s=TB at *
     unfold zgN zeZ at kB
     unfold zeZ at rB
     refine PC.fn hH cd358 fun w0 M Q hM hE hQ hR=>?_;dsimp only[cd358,qm,ql,qf,qi,qb,qc,qp,qv,qN,qT,qF,qt]at hQ ⊢
     skip
     (repeat' first|refine zaa [0,1,2,3,4,6,7,8,9,10,11,12,13,14,15,21,33,69] fun K hK=>?_|(refine hK.go ?_;clear hK K)|with_reducible exact wT|refine wA ?_|(refine wB (fun h=>?_) (fun h=>?_)<;>first|exact wN h|subst (h:(_:Bool)=_)|skip)|(refine wQ ?_;clear hQ hR)|refine wC c1 ?_|refine wC c2 ?_|refine wO c3 ?_|refine wV kA ?_|refine wC c4 ?_|refine wV kB ?_|refine wC c5 ?_|refine wS qA ?_|refine wS qB ?_|(refine AC.callK 60 (by omega) (by first|omega|exact wF|((refine no_implicit_lambda% (st ?_);try with_reducible exact wT);omega)) (zaq (F:=cd366) (hH.has _ _ rfl) (Nat.le_of_ble_eq_true rfl) fun Q hQ hR=>?_);dsimp only[cd366,qm,ql,qf,qi,qb,qc,qp,qv,qN,qT,qF,qt]at hQ ⊢;try (refine no_implicit_lambda% (st ?_);try with_reducible exact wT))|fail)
     all_goals first|(exfalso;contradiction)|skip
     skip
     refine zai (ι:=Nat) [1,2] (fun z=>[(2,.n z)]) (fun z=>[(17,.cells ((zb4 k9 z TA.locks).map Lock.c).flatten (decide (0<TA.locks.length)))]) (fun z=>z) (TA.locks.length) (fun _=>True) (0) ?_;rintro kA2 ⟨hk,-⟩;(try dsimp only at hk ⊢);rcases Nat.lt_or_ge kA2 TA.locks.length with hlt|hge
     ·have hlt2:kA2<TA.locks.length:=by assumption
      have d1:=zbo k9 hlt2
      have d2:=zbt (c:=Lock.c) (l:=zb4 k9 kA2 TA.locks) (k:=kA2) (i:=1) (by rw[zaW];exact hlt2) (by omega) (.i .u8 9) (k9 kA2 (nth TA.locks kA2)) (by rw[zbe _ hlt2];rfl)
      rw[d1]at d2
      (have hX:=@d2;(repeat' first|refine zaa [0,1,2,3,4,6,7,8,9,10,11,12,13,14,15,21,33,69] fun K hK=>?_|(refine hK.go ?_;clear hK K)|with_reducible exact wT|refine wA ?_|(refine wB (fun h=>?_) (fun h=>?_)<;>first|exact wN h|subst (h:(_:Bool)=_)|skip)|(refine wQ ?_;clear hQ hR)|fail);all_goals clear hX)
      all_goals first|(exfalso;contradiction)|exact ⟨kA2+1,by omega,by omega,by omega,rfl⟩|trace_state
     ·(repeat' first|refine zaa [0,1,2,3,4,6,7,8,9,10,11,12,13,14,15,21,33,69] fun K hK=>?_|(refine hK.go ?_;clear hK K)|with_reducible exact wT|refine wA ?_|(refine wB (fun h=>?_) (fun h=>?_)<;>first|exact wN h|subst (h:(_:Bool)=_)|skip)|(refine wQ ?_;clear hQ hR)|fail)
      refine zai (ι:=Nat) [1,3] (fun z=>[(3,.n z)]) (fun z=>[(15,.cells ((zb4 t9 z TA.tracks).map Track.c).flatten (decide (0<TA.tracks.length)))]) (fun z=>z) (TA.tracks.length) (fun _=>True) (0) ?_;rintro kA0 ⟨hk,-⟩;(try dsimp only at hk ⊢);rcases Nat.lt_or_ge kA0 TA.tracks.length with hlt|hge
      ·have hlt2:kA0<TA.tracks.length:=by assumption
       have d1:=zbo t9 hlt2
       have d2:=zbt (c:=Track.c) (l:=zb4 t9 kA0 TA.tracks) (k:=kA0) (i:=1) (by rw[zaW];exact hlt2) (by omega) (.i .u8 9) (t9 kA0 (nth TA.tracks kA0)) (by rw[zbe _ hlt2];rfl)
       rw[d1]at d2
       (have hX:=@d2;(repeat' first|refine zaa [0,1,2,3,4,6,7,8,9,10,11,12,13,14,15,21,33,69] fun K hK=>?_|(refine hK.go ?_;clear hK K)|with_reducible exact wT|refine wA ?_|(refine wB (fun h=>?_) (fun h=>?_)<;>first|exact wN h|subst (h:(_:Bool)=_)|skip)|(refine wQ ?_;clear hQ hR)|fail);all_goals clear hX)
       all_goals first|(exfalso;contradiction)|exact ⟨kA0+1,by omega,by omega,by omega,rfl⟩|trace_state
      ·(repeat' first|refine zaa [0,1,2,3,4,6,7,8,9,10,11,12,13,14,15,21,33,69] fun K hK=>?_|(refine hK.go ?_;clear hK K)|with_reducible exact wT|refine wA ?_|(refine wB (fun h=>?_) (fun h=>?_)<;>first|exact wN h|subst (h:(_:Bool)=_)|skip)|(refine wQ ?_;clear hQ hR)|fail)
       refine zai (ι:=Nat) [1,4] (fun z=>[(4,.n z)]) (fun z=>[(16,.cells ((zb4 w9 z TA.switches).map Switch.c).flatten (decide (0<TA.switches.length)))]) (fun z=>z) (TA.switches.length) (fun _=>True) (0) ?_;rintro kA1 ⟨hk,-⟩;(try dsimp only at hk ⊢);rcases Nat.lt_or_ge kA1 TA.switches.length with hlt|hge
       ·have hlt2:kA1<TA.switches.length:=by assumption
        have d1:=zbo w9 hlt2
        have d2:=zbt (c:=Switch.c) (l:=zb4 w9 kA1 TA.switches) (k:=kA1) (i:=2) (by rw[zaW];exact hlt2) (by omega) (.i .i64 9) (w9 kA1 (nth TA.switches kA1)) (by rw[zbe _ hlt2];rfl)
        rw[d1]at d2
        (have hX:=@d2;(repeat' first|refine zaa [0,1,2,3,4,6,7,8,9,10,11,12,13,14,15,21,33,69] fun K hK=>?_|(refine hK.go ?_;clear hK K)|with_reducible exact wT|refine wA ?_|(refine wB (fun h=>?_) (fun h=>?_)<;>first|exact wN h|subst (h:(_:Bool)=_)|skip)|(refine wQ ?_;clear hQ hR)|fail);all_goals clear hX)
        all_goals first|(exfalso;contradiction)|exact ⟨kA1+1,by omega,by omega,by omega,rfl⟩|trace_state
       ·(repeat' first|refine zaa [0,1,2,3,4,6,7,8,9,10,11,12,13,14,15,21,33,69] fun K hK=>?_|(refine hK.go ?_;clear hK K)|with_reducible exact wT|refine wA ?_|(refine wB (fun h=>?_) (fun h=>?_)<;>first|exact wN h|subst (h:(_:Bool)=_)|skip)|(refine wQ ?_;clear hQ hR)|(refine AC.callK 90 (by omega) (by first|omega|exact wF|((refine no_implicit_lambda% (st ?_);try with_reducible exact wT);omega)) (zaq (F:=cd366) (hH.has _ _ rfl) (Nat.le_of_ble_eq_true rfl) fun Q hQ hR=>?_);dsimp only[cd366,qm,ql,qf,qi,qb,qc,qp,qv,qN,qT,qF,qt]at hQ ⊢;try (refine no_implicit_lambda% (st ?_);try with_reducible exact wT))|refine wS c7 ?_|fail)
        refine zai (ι:=Nat) [1,2] (fun z=>[(2,.n z)]) (fun z=>[(27,.cells ((zb4 k9 z TB.locks).map Lock.c).flatten (decide (0<TB.locks.length)))]) (fun z=>z) (TB.locks.length) (fun _=>True) (0) ?_;rintro kB2 ⟨hk,-⟩;(try dsimp only at hk ⊢);rcases Nat.lt_or_ge kB2 TB.locks.length with hlt|hge
        ·have hlt2:kB2<TB.locks.length:=by assumption
         have d1:=zbo k9 hlt2
         have d2:=zbt (c:=Lock.c) (l:=zb4 k9 kB2 TB.locks) (k:=kB2) (i:=1) (by rw[zaW];exact hlt2) (by omega) (.i .u8 9) (k9 kB2 (nth TB.locks kB2)) (by rw[zbe _ hlt2];rfl)
         rw[d1]at d2
         (have hX:=@d2;(repeat' first|refine zaa [0,1,2,3,4,6,7,8,9,10,11,12,13,14,15,21,33,69] fun K hK=>?_|(refine hK.go ?_;clear hK K)|with_reducible exact wT|refine wA ?_|(refine wB (fun h=>?_) (fun h=>?_)<;>first|exact wN h|subst (h:(_:Bool)=_)|skip)|(refine wQ ?_;clear hQ hR)|fail);all_goals clear hX)
         all_goals first|(exfalso;contradiction)|exact ⟨kB2+1,by omega,by omega,by omega,rfl⟩|trace_state
        ·(repeat' first|refine zaa [0,1,2,3,4,6,7,8,9,10,11,12,13,14,15,21,33,69] fun K hK=>?_|(refine hK.go ?_;clear hK K)|with_reducible exact wT|refine wA ?_|(refine wB (fun h=>?_) (fun h=>?_)<;>first|exact wN h|subst (h:(_:Bool)=_)|skip)|(refine wQ ?_;clear hQ hR)|fail)
         refine zai (ι:=Nat) [1,3] (fun z=>[(3,.n z)]) (fun z=>[(25,.cells ((zb4 t9 z TB.tracks).map Track.c).flatten (decide (0<TB.tracks.length)))]) (fun z=>z) (TB.tracks.length) (fun _=>True) (0) ?_;rintro kB0 ⟨hk,-⟩;(try dsimp only at hk ⊢);rcases Nat.lt_or_ge kB0 TB.tracks.length with hlt|hge
         ·have hlt2:kB0<TB.tracks.length:=by assumption
          have d1:=zbo t9 hlt2
          have d2:=zbt (c:=Track.c) (l:=zb4 t9 kB0 TB.tracks) (k:=kB0) (i:=1) (by rw[zaW];exact hlt2) (by omega) (.i .u8 9) (t9 kB0 (nth TB.tracks kB0)) (by rw[zbe _ hlt2];rfl)
          rw[d1]at d2
          (have hX:=@d2;(repeat' first|refine zaa [0,1,2,3,4,6,7,8,9,10,11,12,13,14,15,21,33,69] fun K hK=>?_|(refine hK.go ?_;clear hK K)|with_reducible exact wT|refine wA ?_|(refine wB (fun h=>?_) (fun h=>?_)<;>first|exact wN h|subst (h:(_:Bool)=_)|skip)|(refine wQ ?_;clear hQ hR)|fail);all_goals clear hX)
          all_goals first|(exfalso;contradiction)|exact ⟨kB0+1,by omega,by omega,by omega,rfl⟩|trace_state
         ·(repeat' first|refine zaa [0,1,2,3,4,6,7,8,9,10,11,12,13,14,15,21,33,69] fun K hK=>?_|(refine hK.go ?_;clear hK K)|with_reducible exact wT|refine wA ?_|(refine wB (fun h=>?_) (fun h=>?_)<;>first|exact wN h|subst (h:(_:Bool)=_)|skip)|(refine wQ ?_;clear hQ hR)|fail)
          refine zai (ι:=Nat) [1,4] (fun z=>[(4,.n z)]) (fun z=>[(26,.cells ((zb4 w9 z TB.switches).map Switch.c).flatten (decide (0<TB.switches.length)))]) (fun z=>z) (TB.switches.length) (fun _=>True) (0) ?_;rintro kB1 ⟨hk,-⟩;(try dsimp only at hk ⊢);rcases Nat.lt_or_ge kB1 TB.switches.length with hlt|hge
          ·have hlt2:kB1<TB.switches.length:=by assumption
           have d1:=zbo w9 hlt2
           have d2:=zbt (c:=Switch.c) (l:=zb4 w9 kB1 TB.switches) (k:=kB1) (i:=2) (by rw[zaW];exact hlt2) (by omega) (.i .i64 9) (w9 kB1 (nth TB.switches kB1)) (by rw[zbe _ hlt2];rfl)
           rw[d1]at d2
           (have hX:=@d2;(repeat' first|refine zaa [0,1,2,3,4,6,7,8,9,10,11,12,13,14,15,21,33,69] fun K hK=>?_|(refine hK.go ?_;clear hK K)|with_reducible exact wT|refine wA ?_|(refine wB (fun h=>?_) (fun h=>?_)<;>first|exact wN h|subst (h:(_:Bool)=_)|skip)|(refine wQ ?_;clear hQ hR)|fail);all_goals clear hX)
           all_goals first|(exfalso;contradiction)|exact ⟨kB1+1,by omega,by omega,by omega,rfl⟩|trace_state
          ·(repeat' first|refine zaa [0,1,2,3,4,6,7,8,9,10,11,12,13,14,15,21,33,69] fun K hK=>?_|(refine hK.go ?_;clear hK K)|with_reducible exact wT|refine wA ?_|(refine wB (fun h=>?_) (fun h=>?_)<;>first|exact wN h|subst (h:(_:Bool)=_)|skip)|(refine wQ ?_;clear hQ hR)|(refine AC.callK 90 (by omega) (by first|omega|exact wF|((refine no_implicit_lambda% (st ?_);try with_reducible exact wT);omega)) (zaq (F:=cd366) (hH.has _ _ rfl) (Nat.le_of_ble_eq_true rfl) fun Q hQ hR=>?_);dsimp only[cd366,qm,ql,qf,qi,qb,qc,qp,qv,qN,qT,qF,qt]at hQ ⊢;try (refine no_implicit_lambda% (st ?_);try with_reducible exact wT))|refine wS c7 ?_|fail)
           all_goals first|rfl|(exfalso;contradiction)|trace_state
    ·have kA:=zlk hH hI p sp s ss n
     have eA:cnR p s n=State.z:=by unfold cnR;rw[if_neg hA]
     have qA:=zbV hH smz (rfl:State.z=State.z)
     rw[eA]at c4 kA
     unfold State.z at c4 kA qA
     clear eA
     generalize cnC p s n=xA at *
     have kB:=zlB hH hI p sp s ss hB
     have eB:zhd p s=zdU s:=by unfold zhd;rw[if_pos hB]
     have sB:=(zoy hB).sm hB ss
     have qB:=zbV hH sB (rfl:zdU s=_)
     have rB:=zjG 5 (zdU s)
     rw[eB,hB]at c5
     have lB1:=sB.1
     have lB2:=sB.2.1
     have lB3:=sB.2.2
     clear eB
     generalize zdU s=TB at *
     unfold zgN zeZ at kB
     unfold zeZ at rB
     refine PC.fn hH cd358 fun w0 M Q hM hE hQ hR=>?_;dsimp only[cd358,qm,ql,qf,qi,qb,qc,qp,qv,qN,qT,qF,qt]at hQ ⊢
     skip
     (repeat' first|refine zaa [0,1,2,3,4,6,7,8,9,10,11,12,13,14,15,21,33,69] fun K hK=>?_|(refine hK.go ?_;clear hK K)|with_reducible exact wT|refine wA ?_|(refine wB (fun h=>?_) (fun h=>?_)<;>first|exact wN h|subst (h:(_:Bool)=_)|skip)|(refine wQ ?_;clear hQ hR)|refine wC c1 ?_|refine wC c2 ?_|refine wO c3 ?_|refine wS kA ?_|refine wC c4 ?_|refine wV kB ?_|refine wC c5 ?_|refine wS qA ?_|refine wS qB ?_|(refine AC.callK 60 (by omega) (by first|omega|exact wF|((refine no_implicit_lambda% (st ?_);try with_reducible exact wT);omega)) (zaq (F:=cd366) (hH.has _ _ rfl) (Nat.le_of_ble_eq_true rfl) fun Q hQ hR=>?_);dsimp only[cd366,qm,ql,qf,qi,qb,qc,qp,qv,qN,qT,qF,qt]at hQ ⊢;try (refine no_implicit_lambda% (st ?_);try with_reducible exact wT))|fail)
     all_goals first|(exfalso;contradiction)|skip
     skip
     refine zai (ι:=Nat) [1,2] (fun z=>[(2,.n z)]) (fun _=>[]) (fun z=>z) (0) (fun _=>True) (0) ?_;rintro kA2 ⟨hk,-⟩;(try dsimp only at hk ⊢);rcases Nat.lt_or_ge kA2 0 with hlt|hge
     ·exact absurd (show kA2<0 by assumption) (by omega)
     ·(repeat' first|refine zaa [0,1,2,3,4,6,7,8,9,10,11,12,13,14,15,21,33,69] fun K hK=>?_|(refine hK.go ?_;clear hK K)|with_reducible exact wT|refine wA ?_|(refine wB (fun h=>?_) (fun h=>?_)<;>first|exact wN h|subst (h:(_:Bool)=_)|skip)|(refine wQ ?_;clear hQ hR)|fail)
      refine zai (ι:=Nat) [1,3] (fun z=>[(3,.n z)]) (fun _=>[]) (fun z=>z) (0) (fun _=>True) (0) ?_;rintro kA0 ⟨hk,-⟩;(try dsimp only at hk ⊢);rcases Nat.lt_or_ge kA0 0 with hlt|hge
      ·exact absurd (show kA0<0 by assumption) (by omega)
      ·(repeat' first|refine zaa [0,1,2,3,4,6,7,8,9,10,11,12,13,14,15,21,33,69] fun K hK=>?_|(refine hK.go ?_;clear hK K)|with_reducible exact wT|refine wA ?_|(refine wB (fun h=>?_) (fun h=>?_)<;>first|exact wN h|subst (h:(_:Bool)=_)|skip)|(refine wQ ?_;clear hQ hR)|fail)
       refine zai (ι:=Nat) [1,4] (fun z=>[(4,.n z)]) (fun _=>[]) (fun z=>z) (0) (fun _=>True) (0) ?_;rintro kA1 ⟨hk,-⟩;(try dsimp only at hk ⊢);rcases Nat.lt_or_ge kA1 0 with hlt|hge
       ·exact absurd (show kA1<0 by assumption) (by omega)
       ·(repeat' first|refine zaa [0,1,2,3,4,6,7,8,9,10,11,12,13,14,15,21,33,69] fun K hK=>?_|(refine hK.go ?_;clear hK K)|with_reducible exact wT|refine wA ?_|(refine wB (fun h=>?_) (fun h=>?_)<;>first|exact wN h|subst (h:(_:Bool)=_)|skip)|(refine wQ ?_;clear hQ hR)|(refine AC.callK 90 (by omega) (by first|omega|exact wF|((refine no_implicit_lambda% (st ?_);try with_reducible exact wT);omega)) (zaq (F:=cd366) (hH.has _ _ rfl) (Nat.le_of_ble_eq_true rfl) fun Q hQ hR=>?_);dsimp only[cd366,qm,ql,qf,qi,qb,qc,qp,qv,qN,qT,qF,qt]at hQ ⊢;try (refine no_implicit_lambda% (st ?_);try with_reducible exact wT))|refine wS c7 ?_|fail)
        refine zai (ι:=Nat) [1,2] (fun z=>[(2,.n z)]) (fun z=>[(17,.cells ((zb4 k9 z TB.locks).map Lock.c).flatten (decide (0<TB.locks.length)))]) (fun z=>z) (TB.locks.length) (fun _=>True) (0) ?_;rintro kB2 ⟨hk,-⟩;(try dsimp only at hk ⊢);rcases Nat.lt_or_ge kB2 TB.locks.length with hlt|hge
        ·have hlt2:kB2<TB.locks.length:=by assumption
         have d1:=zbo k9 hlt2
         have d2:=zbt (c:=Lock.c) (l:=zb4 k9 kB2 TB.locks) (k:=kB2) (i:=1) (by rw[zaW];exact hlt2) (by omega) (.i .u8 9) (k9 kB2 (nth TB.locks kB2)) (by rw[zbe _ hlt2];rfl)
         rw[d1]at d2
         (have hX:=@d2;(repeat' first|refine zaa [0,1,2,3,4,6,7,8,9,10,11,12,13,14,15,21,33,69] fun K hK=>?_|(refine hK.go ?_;clear hK K)|with_reducible exact wT|refine wA ?_|(refine wB (fun h=>?_) (fun h=>?_)<;>first|exact wN h|subst (h:(_:Bool)=_)|skip)|(refine wQ ?_;clear hQ hR)|fail);all_goals clear hX)
         all_goals first|(exfalso;contradiction)|exact ⟨kB2+1,by omega,by omega,by omega,rfl⟩|trace_state
        ·(repeat' first|refine zaa [0,1,2,3,4,6,7,8,9,10,11,12,13,14,15,21,33,69] fun K hK=>?_|(refine hK.go ?_;clear hK K)|with_reducible exact wT|refine wA ?_|(refine wB (fun h=>?_) (fun h=>?_)<;>first|exact wN h|subst (h:(_:Bool)=_)|skip)|(refine wQ ?_;clear hQ hR)|fail)
         refine zai (ι:=Nat) [1,3] (fun z=>[(3,.n z)]) (fun z=>[(15,.cells ((zb4 t9 z TB.tracks).map Track.c).flatten (decide (0<TB.tracks.length)))]) (fun z=>z) (TB.tracks.length) (fun _=>True) (0) ?_;rintro kB0 ⟨hk,-⟩;(try dsimp only at hk ⊢);rcases Nat.lt_or_ge kB0 TB.tracks.length with hlt|hge
         ·have hlt2:kB0<TB.tracks.length:=by assumption
          have d1:=zbo t9 hlt2
          have d2:=zbt (c:=Track.c) (l:=zb4 t9 kB0 TB.tracks) (k:=kB0) (i:=1) (by rw[zaW];exact hlt2) (by omega) (.i .u8 9) (t9 kB0 (nth TB.tracks kB0)) (by rw[zbe _ hlt2];rfl)
          rw[d1]at d2
          (have hX:=@d2;(repeat' first|refine zaa [0,1,2,3,4,6,7,8,9,10,11,12,13,14,15,21,33,69] fun K hK=>?_|(refine hK.go ?_;clear hK K)|with_reducible exact wT|refine wA ?_|(refine wB (fun h=>?_) (fun h=>?_)<;>first|exact wN h|subst (h:(_:Bool)=_)|skip)|(refine wQ ?_;clear hQ hR)|fail);all_goals clear hX)
          all_goals first|(exfalso;contradiction)|exact ⟨kB0+1,by omega,by omega,by omega,rfl⟩|trace_state
         ·(repeat' first|refine zaa [0,1,2,3,4,6,7,8,9,10,11,12,13,14,15,21,33,69] fun K hK=>?_|(refine hK.go ?_;clear hK K)|with_reducible exact wT|refine wA ?_|(refine wB (fun h=>?_) (fun h=>?_)<;>first|exact wN h|subst (h:(_:Bool)=_)|skip)|(refine wQ ?_;clear hQ hR)|fail)
          refine zai (ι:=Nat) [1,4] (fun z=>[(4,.n z)]) (fun z=>[(16,.cells ((zb4 w9 z TB.switches).map Switch.c).flatten (decide (0<TB.switches.length)))]) (fun z=>z) (TB.switches.length) (fun _=>True) (0) ?_;rintro kB1 ⟨hk,-⟩;(try dsimp only at hk ⊢);rcases Nat.lt_or_ge kB1 TB.switches.length with hlt|hge
          ·have hlt2:kB1<TB.switches.length:=by assumption
           have d1:=zbo w9 hlt2
           have d2:=zbt (c:=Switch.c) (l:=zb4 w9 kB1 TB.switches) (k:=kB1) (i:=2) (by rw[zaW];exact hlt2) (by omega) (.i .i64 9) (w9 kB1 (nth TB.switches kB1)) (by rw[zbe _ hlt2];rfl)
           rw[d1]at d2
           (have hX:=@d2;(repeat' first|refine zaa [0,1,2,3,4,6,7,8,9,10,11,12,13,14,15,21,33,69] fun K hK=>?_|(refine hK.go ?_;clear hK K)|with_reducible exact wT|refine wA ?_|(refine wB (fun h=>?_) (fun h=>?_)<;>first|exact wN h|subst (h:(_:Bool)=_)|skip)|(refine wQ ?_;clear hQ hR)|fail);all_goals clear hX)
           all_goals first|(exfalso;contradiction)|exact ⟨kB1+1,by omega,by omega,by omega,rfl⟩|trace_state
          ·(repeat' first|refine zaa [0,1,2,3,4,6,7,8,9,10,11,12,13,14,15,21,33,69] fun K hK=>?_|(refine hK.go ?_;clear hK K)|with_reducible exact wT|refine wA ?_|(refine wB (fun h=>?_) (fun h=>?_)<;>first|exact wN h|subst (h:(_:Bool)=_)|skip)|(refine wQ ?_;clear hQ hR)|(refine AC.callK 90 (by omega) (by first|omega|exact wF|((refine no_implicit_lambda% (st ?_);try with_reducible exact wT);omega)) (zaq (F:=cd366) (hH.has _ _ rfl) (Nat.le_of_ble_eq_true rfl) fun Q hQ hR=>?_);dsimp only[cd366,qm,ql,qf,qi,qb,qc,qp,qv,qN,qT,qF,qt]at hQ ⊢;try (refine no_implicit_lambda% (st ?_);try with_reducible exact wT))|refine wS c7 ?_|fail)
           all_goals first|rfl|(exfalso;contradiction)|trace_state
   ·have hA:¬cnC p s n=0:=by unfold cnC;rw[if_neg hB];exact hB
    have kA:=zlk hH hI p sp s ss n
    have eA:cnR p s n=State.z:=by unfold cnR;rw[if_neg hA]
    have qA:=zbV hH smz (rfl:State.z=State.z)
    rw[eA]at c4 kA
    unfold State.z at c4 kA qA
    clear eA
    generalize cnC p s n=xA at *
    have kB:=tick_pc hH hI p sp s ss
    have eB:zhd p s=State.z:=by unfold zhd;rw[if_neg hB]
    have qB:=zbV hH smz (rfl:State.z=State.z)
    rw[eB]at c5 kB
    unfold State.z at c5 kB qB
    clear eB
    generalize zag p s=xB at *
    refine PC.fn hH cd358 fun w0 M Q hM hE hQ hR=>?_;dsimp only[cd358,qm,ql,qf,qi,qb,qc,qp,qv,qN,qT,qF,qt]at hQ ⊢
    skip
    (repeat' first|refine zaa [0,1,2,3,4,6,7,8,9,10,11,12,13,14,15,21,33,69] fun K hK=>?_|(refine hK.go ?_;clear hK K)|with_reducible exact wT|refine wA ?_|(refine wB (fun h=>?_) (fun h=>?_)<;>first|exact wN h|subst (h:(_:Bool)=_)|skip)|(refine wQ ?_;clear hQ hR)|refine wC c1 ?_|refine wC c2 ?_|refine wO c3 ?_|refine wS kA ?_|refine wC c4 ?_|refine wS kB ?_|refine wC c5 ?_|refine wS qA ?_|refine wS qB ?_|(refine AC.callK 60 (by omega) (by first|omega|exact wF|((refine no_implicit_lambda% (st ?_);try with_reducible exact wT);omega)) (zaq (F:=cd366) (hH.has _ _ rfl) (Nat.le_of_ble_eq_true rfl) fun Q hQ hR=>?_);dsimp only[cd366,qm,ql,qf,qi,qb,qc,qp,qv,qN,qT,qF,qt]at hQ ⊢;try (refine no_implicit_lambda% (st ?_);try with_reducible exact wT))|fail)
    all_goals first|(exfalso;contradiction)|skip
    skip
    refine zai (ι:=Nat) [1,2] (fun z=>[(2,.n z)]) (fun _=>[]) (fun z=>z) (0) (fun _=>True) (0) ?_;rintro kA2 ⟨hk,-⟩;(try dsimp only at hk ⊢);rcases Nat.lt_or_ge kA2 0 with hlt|hge
    ·exact absurd (show kA2<0 by assumption) (by omega)
    ·(repeat' first|refine zaa [0,1,2,3,4,6,7,8,9,10,11,12,13,14,15,21,33,69] fun K hK=>?_|(refine hK.go ?_;clear hK K)|with_reducible exact wT|refine wA ?_|(refine wB (fun h=>?_) (fun h=>?_)<;>first|exact wN h|subst (h:(_:Bool)=_)|skip)|(refine wQ ?_;clear hQ hR)|fail)
     refine zai (ι:=Nat) [1,3] (fun z=>[(3,.n z)]) (fun _=>[]) (fun z=>z) (0) (fun _=>True) (0) ?_;rintro kA0 ⟨hk,-⟩;(try dsimp only at hk ⊢);rcases Nat.lt_or_ge kA0 0 with hlt|hge
     ·exact absurd (show kA0<0 by assumption) (by omega)
     ·(repeat' first|refine zaa [0,1,2,3,4,6,7,8,9,10,11,12,13,14,15,21,33,69] fun K hK=>?_|(refine hK.go ?_;clear hK K)|with_reducible exact wT|refine wA ?_|(refine wB (fun h=>?_) (fun h=>?_)<;>first|exact wN h|subst (h:(_:Bool)=_)|skip)|(refine wQ ?_;clear hQ hR)|fail)
      refine zai (ι:=Nat) [1,4] (fun z=>[(4,.n z)]) (fun _=>[]) (fun z=>z) (0) (fun _=>True) (0) ?_;rintro kA1 ⟨hk,-⟩;(try dsimp only at hk ⊢);rcases Nat.lt_or_ge kA1 0 with hlt|hge
      ·exact absurd (show kA1<0 by assumption) (by omega)
      ·(repeat' first|refine zaa [0,1,2,3,4,6,7,8,9,10,11,12,13,14,15,21,33,69] fun K hK=>?_|(refine hK.go ?_;clear hK K)|with_reducible exact wT|refine wA ?_|(refine wB (fun h=>?_) (fun h=>?_)<;>first|exact wN h|subst (h:(_:Bool)=_)|skip)|(refine wQ ?_;clear hQ hR)|(refine AC.callK 90 (by omega) (by first|omega|exact wF|((refine no_implicit_lambda% (st ?_);try with_reducible exact wT);omega)) (zaq (F:=cd366) (hH.has _ _ rfl) (Nat.le_of_ble_eq_true rfl) fun Q hQ hR=>?_);dsimp only[cd366,qm,ql,qf,qi,qb,qc,qp,qv,qN,qT,qF,qt]at hQ ⊢;try (refine no_implicit_lambda% (st ?_);try with_reducible exact wT))|refine wS c7 ?_|fail)
       refine zai (ι:=Nat) [1,2] (fun z=>[(2,.n z)]) (fun _=>[]) (fun z=>z) (0) (fun _=>True) (0) ?_;rintro kB2 ⟨hk,-⟩;(try dsimp only at hk ⊢);rcases Nat.lt_or_ge kB2 0 with hlt|hge
       ·exact absurd (show kB2<0 by assumption) (by omega)
       ·(repeat' first|refine zaa [0,1,2,3,4,6,7,8,9,10,11,12,13,14,15,21,33,69] fun K hK=>?_|(refine hK.go ?_;clear hK K)|with_reducible exact wT|refine wA ?_|(refine wB (fun h=>?_) (fun h=>?_)<;>first|exact wN h|subst (h:(_:Bool)=_)|skip)|(refine wQ ?_;clear hQ hR)|fail)
        refine zai (ι:=Nat) [1,3] (fun z=>[(3,.n z)]) (fun _=>[]) (fun z=>z) (0) (fun _=>True) (0) ?_;rintro kB0 ⟨hk,-⟩;(try dsimp only at hk ⊢);rcases Nat.lt_or_ge kB0 0 with hlt|hge
        ·exact absurd (show kB0<0 by assumption) (by omega)
        ·(repeat' first|refine zaa [0,1,2,3,4,6,7,8,9,10,11,12,13,14,15,21,33,69] fun K hK=>?_|(refine hK.go ?_;clear hK K)|with_reducible exact wT|refine wA ?_|(refine wB (fun h=>?_) (fun h=>?_)<;>first|exact wN h|subst (h:(_:Bool)=_)|skip)|(refine wQ ?_;clear hQ hR)|fail)
         refine zai (ι:=Nat) [1,4] (fun z=>[(4,.n z)]) (fun _=>[]) (fun z=>z) (0) (fun _=>True) (0) ?_;rintro kB1 ⟨hk,-⟩;(try dsimp only at hk ⊢);rcases Nat.lt_or_ge kB1 0 with hlt|hge
         ·exact absurd (show kB1<0 by assumption) (by omega)
         ·(repeat' first|refine zaa [0,1,2,3,4,6,7,8,9,10,11,12,13,14,15,21,33,69] fun K hK=>?_|(refine hK.go ?_;clear hK K)|with_reducible exact wT|refine wA ?_|(refine wB (fun h=>?_) (fun h=>?_)<;>first|exact wN h|subst (h:(_:Bool)=_)|skip)|(refine wQ ?_;clear hQ hR)|(refine AC.callK 90 (by omega) (by first|omega|exact wF|((refine no_implicit_lambda% (st ?_);try with_reducible exact wT);omega)) (zaq (F:=cd366) (hH.has _ _ rfl) (Nat.le_of_ble_eq_true rfl) fun Q hQ hR=>?_);dsimp only[cd366,qm,ql,qf,qi,qb,qc,qp,qv,qN,qT,qF,qt]at hQ ⊢;try (refine no_implicit_lambda% (st ?_);try with_reducible exact wT))|refine wS c7 ?_|fail)
          all_goals first|rfl|(exfalso;contradiction)|trace_state
end Go.Lev
