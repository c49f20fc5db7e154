/-
  A part of the engine that walks the functions' codes, and of the functions' contracts. Conditions: those that each theorem names.
-/
import Derived.Test.YtjgelcegjmfgnaaGreatL8
import Derived.IntWalk
set_option linter.unusedSimpArgs false
set_option linter.unusedVariables false
set_option linter.unusedSectionVars false
namespace Go.Lev
open Go.Eng
end Go.Lev
namespace Go.Lev
open Go.Eng
set_option maxRecDepth 10000
set_option maxHeartbeats 4000000
variable {P:Program} {inv:Nat→Option Nat} {w0:World} {M:Nat→Prop}
theorem zpN {s:State} (h:SmS s) (n v:Int):SmS (zdh s n v):=⟨by unfold zdh;dsimp only;rw[za0];exact h.1,h.2⟩
end Go.Lev
namespace Go.Lev
open Go.Eng
end Go.Lev
namespace Go.Lev
open Go.Eng
section
variable {p:Pln} {s u:State} {a:ActD} (g:StepS p s a u)
include g
end
end Go.Lev
namespace Go.Lev
open Go.Eng
theorem tell_tl (p:Pln) (s:State) (n v:Int):(zbC p s n v).tracks.length=s.tracks.length:=za0 _ _ _ _
theorem zgk {p:Pln} {s:State} {n v:Int} (hs:SmS s):SmS (zbC p s n v):=⟨by rw[tell_tl];exact hs.1,hs.2.1,by rw[zdQ];exact hs.2.2⟩
theorem zpw (p:Pln) (s:State) (n v x:Int):zbB (zbC p s n v) x=zbB (zdh s n v) x:=rfl
section
variable {r:Rte} {is:Int→Int} {id:Int} (h0:0<r.path.length) (ht:1≤r.timer)
include h0 ht
theorem stl_D0 (h1:is (nth r.path (r.path.length-1))=0):za5 r is ⟨id,3,(r.path.length:Int)-1,r.timer⟩=⟨id,0,0,0⟩:=by
 have hp:zaq ⟨id,3,(r.path.length:Int)-1,r.timer⟩ r=true:=by simp[zaq];omega
 rw[←zcE hp h0 ht]
 have:zbv r is ⟨id,3,(r.path.length:Int)-1,r.timer⟩=⟨id,0,0,0⟩:=by
  unfold zbv
  rw[if_neg (by simp),if_neg (by simp),if_pos rfl,if_pos h1]
 rw[this]
 refine zbZ ?_
 unfold zbv
 rw[if_neg (by simp),if_neg (by simp),if_neg (by simp)]
theorem stl_A {l:Lock} (hl:l.id=id∧l.phase=1∧l.gone=0∧l.left=0) (h1:is (nth r.path 0)=1):za5 r is l=goL r id 0:=by
 obtain ⟨li,lp,lg,ll⟩:=l
 dsimp only at hl
 obtain ⟨rfl,rfl,rfl,rfl⟩:=hl
 have hp:zaq ⟨li,1,0,0⟩ r=true:=by simp[zaq]
 rw[←zcE hp h0 ht]
 have:zbv r is ⟨li,1,0,0⟩=⟨li,2,((0:Nat):Int),0⟩:=by
  unfold zbv
  rw[if_pos (.inl rfl),if_pos]
  ·rfl
  ·exact List.any_eq_true.2 ⟨_,zad h0,by simpa using h1⟩
 rw[this]
 exact stl_2 h0 ht h0 h1
end
section
variable (p:Pln) (at' d:Nat)
end
section
variable {p:Pln} {at' d:Nat} {i:Nat} {t:State}
variable (hd:d=1∨d=2) (g:TrI p at' d i t) (hi:i<(nth p.routes at').path.length)
include g
include hd hi
theorem TrI.front:zac p (zbC p t (nth (nth p.routes at').path i) 1)=0∧at'<(zbC p t (nth (nth p.routes at').path i) 1).locks.length ∧
  nth (zbC p t (nth (nth p.routes at').path i) 1).locks at'=(if i<d then goL (nth p.routes at') (nth p.routes at').id 0 else ⟨(nth p.routes at').id,2,((i-d:Nat):Int),0⟩) ∧
  ∀ k,k<(nth p.routes at').path.length→zbB (zbC p t (nth (nth p.routes at').path i) 1) (nth (nth p.routes at').path k)=if i-d≤k∧k<i+1 then 1 else 0:=by
 obtain ⟨h0,ht⟩:=g.pre
 have his:∀ k,k<(nth p.routes at').path.length→zbB (zdh t (nth (nth p.routes at').path i) 1) (nth (nth p.routes at').path k)=if i-d≤k∧k<i+1 then 1 else 0:=fun k hk=>by
  rw[zjS g.code g.ra hi hk,g.is k hk]
  by_cases e:k=i
  ·rw[if_pos e,if_pos (by omega)]
  ·rw[if_neg e]
   by_cases e2:i-d≤k∧k<i
   ·rw[if_pos e2,if_pos (by omega)]
   ·rw[if_neg e2,if_neg (by omega)]
 refine ⟨zhJ g.code (by decide),by rw[zdQ];exact g.lt, ?_,fun k hk=>by rw[zpw];exact his k hk⟩
 rw[zfn g.code (by decide) g.lt]
 rcases Nat.eq_zero_or_pos i with rfl|hpos
 ·rw[if_pos (by omega)]
  exact stl_A h0 ht (g.lk0 rfl) (by rw[his 0 h0,if_pos (by omega)])
 ·rw[g.lk hpos]
  have e:goL (nth p.routes at') (nth p.routes at').id (i-d)=⟨(nth p.routes at').id,2,((i-d:Nat):Int),0⟩:=by unfold goL;rw[if_neg (by omega)]
  rw[e,stl_2 h0 ht (by omega) (by rw[his _ (by omega),if_pos (by omega)]),e]
  by_cases h1:i<d
  ·rw[if_pos h1,show i-d=0 by omega]
   unfold goL
   rw[if_neg (by omega)]
  ·rw[if_neg h1]
theorem TrI.step0 (h1:i<d):TrI p at' d (i+1) (zbC p t (nth (nth p.routes at').path i) 1):=by
 obtain ⟨k1,k2,k3,k4⟩:=g.front hd hi
 refine ⟨k1,zgk g.sm,k2,fun k hk=>?_,fun e=>by omega,fun _=>?_⟩
 ·rw[k4 k hk,show i-d=i+1-d by omega]
 ·rw[k3,if_pos h1,show i+1-d=0 by omega]
theorem TrI.step1 (h1:d≤i):TrI p at' d (i+1) (zbC p (zbC p t (nth (nth p.routes at').path i) 1) (nth (nth p.routes at').path (i-d)) 0):=by
 obtain ⟨k1,k2,k3,k4⟩:=g.front hd hi
 obtain ⟨h0,ht⟩:=g.pre
 have his:∀ k,k<(nth p.routes at').path.length→zbB (zdh (zbC p t (nth (nth p.routes at').path i) 1) (nth (nth p.routes at').path (i-d)) 0) (nth (nth p.routes at').path k)=if i+1-d≤k∧k<i+1 then 1 else 0:=fun k hk=>by
  rw[zjS k1 g.ra (show i-d<_ by omega) hk,k4 k hk]
  by_cases e:k=i-d
  ·rw[if_pos e,if_neg (by omega)]
  ·rw[if_neg e]
   by_cases e2:i-d≤k∧k<i+1
   ·rw[if_pos e2,if_pos (by omega)]
   ·rw[if_neg e2,if_neg (by omega)]
 refine ⟨zhJ k1 (by decide),zgk (zgk g.sm),by rw[zdQ];exact k2,fun k hk=>by rw[zpw];exact his k hk,fun e=>by omega,fun _=>?_⟩
 rw[zfn k1 (by decide) k2,k3,if_neg (by omega),stl_C h0 ht (by omega) (by rw[his _ (by omega),if_neg (by omega)]) (by rw[his _ (by omega),if_pos (by omega)])]
 rw[show i-d+1=i+1-d by omega]
end
section
variable {p:Pln} {at' d:Nat} {i:Nat} {t:State} (g:TrI p at' d i t)
include g
theorem TrI.ended (hi:i=(nth p.routes at').path.length) (h1:d=1∨(d=2∧i=1)):nth t.locks at'=⟨(nth p.routes at').id,3,((nth p.routes at').path.length:Int)-1,(nth p.routes at').timer⟩∧zbB t (nth (nth p.routes at').path ((nth p.routes at').path.length-1))=1:=by
 obtain ⟨h0,ht⟩:=g.pre
 refine ⟨?_, ?_⟩
 ·rw[g.lk (by omega)]
  unfold goL
  rw[if_pos (by omega)]
 ·rw[g.is _ (by omega),if_pos (by omega)]
end
theorem zhI {p:Pln} {at':Nat} {t:State} (h:zac p t=0) (hl:at'<t.locks.length) (e:nth t.locks at'=⟨(nth p.routes at').id,3,((nth p.routes at').path.length:Int)-1,(nth p.routes at').timer⟩) :
  nth (zbC p t (nth (nth p.routes at').path ((nth p.routes at').path.length-1)) 0).locks at'=⟨(nth p.routes at').id,0,0,0⟩:=by
 have ha:at'<p.routes.length:=by have:=zag (zab h).2.1;omega
 have hr:nth p.routes at'∈p.routes:=zad ha
 have h0:0<(nth p.routes at').path.length:=by have:=(zbI (zae h) hr).1;omega
 have ht:=(zdm (zae h) hr).1
 rw[zfn h (by decide) hl,e]
 exact stl_D0 h0 ht (by rw[zjS h ha (show (nth p.routes at').path.length-1<_ by omega) (by omega),if_pos rfl])
theorem zgI (x:Int):∀ (l:List Int) (s:State),zbx s (l++[x])=zdh (zbx s l) x 0
 |[],_=>rfl
 |y::l,s=>by rw[List.cons_append,zbx,zgI x l];rfl
theorem zeK {p:Pln}:∀ (l:List Int) {s:State},zac p s=0→zac p (zbx s l)=0
 |[],_,h=>h
 |x::l,_,h=>zeK l (zcG h (by decide))
theorem zhB:∀ (l:List Int) {s:State},SmS s→SmS (zbx s l)
 |[],_,h=>h
 |x::l,_,h=>zhB l (zpN h _ _)
theorem ziE:∀ (l:List Int) (s:State),(zbx s l).locks=s.locks
 |[],_=>rfl
 |x::l,s=>by rw[zbx,ziE l];rfl
theorem zqF {s:State} {n x:Int} (h:zbB s x=0):zbB (zdh s n 0) x=0:=by
 rw[zfO]
 unfold zbB at h
 cases e:s.tracks.find? (fun t=>decide (t.id=x)) with
 |none=>rw[e]at h;cases h
 |some t =>
  rw[e]at h
  dsimp only at h ⊢
  split
  ·rfl
  ·exact h
theorem zjD {x:Int}:∀ (l:List Int) {s:State},zbB s x=0→zbB (zbx s l) x=0
 |[],_,h=>h
 |y::l,_,h=>zjD l (zqF h)
theorem zn5 {p:Pln}:∀ (l:List Int) {s:State},zac p s=0→(∀ x∈l,∃ q∈p.sections,q.id=x)→∀ x∈l,zbB (zbx s l) x=0
 |[],_,_,_,x,hx=>by cases hx
 |y::l,s,h,hs,x,hx=>by
  rw[zbx]
  rcases List.mem_cons.1 hx with rfl|hx
  ·exact zjD l (zg9 h (hs x (by simp)))
  ·exact zn5 l (zcG h (by decide)) (fun z hz=>hs z (by simp[hz])) x hx
theorem trI_0 {p:Pln} {s:State} {at' d:Nat} (h:zac p s=0) (hs:SmS s) (hl:at'<s.locks.length) (hph:(nth s.locks at').phase=1):TrI p at' d 0 (zbx s (nth p.routes at').path):=by
 have hpa:=(zab h).2.1
 have ha:at'<p.routes.length:=by have:=zag hpa;omega
 have h1:=zbR hpa hl
 simp only[zbs,zaq,hph,Bool.and_eq_true,decide_eq_true_eq]at h1
 have h2:=h1.2
 simp at h2
 refine ⟨zeK _ h,zhB _ hs,by rw[ziE];exact hl,fun k hk=>?_,fun _=>by rw[ziE];exact ⟨h1.1,hph,h2.1,h2.2⟩,fun e=>absurd e (Nat.lt_irrefl _)⟩
 rw[if_neg (by omega)]
 refine zn5 _ h (fun x hx=>?_) _ (zad hk)
 obtain ⟨j,hj,rfl⟩:=zdv hx
 exact zhw h ha hj
end Go.Lev
namespace Go.Lev
open Go.Eng
set_option maxRecDepth 10000
set_option maxHeartbeats 4000000
variable {P:Program} {inv:Nat→Option Nat} {w0:World} {M:Nat→Prop}
theorem zcC (hH:HasAll P inv) (hI:HasIds P inv) (p:Pln) (hp:Sm p) (s:State) (hs:SmS s) (h:zac p s=0) {n v:Int} (hn:∃ q∈p.sections,q.id=n) (hv:v=0∨v=1):PC P inv 368 [.agg p.c,.agg s.c,.n n,.n v] (·=.tup [.agg (zbC p s n v).c,.b true]):=by
 have c1:=zlb hH hI p hp s hs n v
 have he:zbw p s n v=0:=(zbO h).2 ⟨zhG (zab h).2.1 hn,hv⟩
 have e2:secR p s n v=zdh s n v:=by unfold secR;rw[if_pos he]
 have c2:=zdc hH hI p hp _ (zpN hs n v)
 have hc:=zcG (n:=n) (v:=v) h (by omega)
 rw[hc,show zcS p (zdh s n v)=zbC p s n v by unfold zcS zbC;rw[if_pos hc]]at c2
 rw[he,e2]at c1
 generalize zdh s n v=A at *
 generalize zbC p s n v=B at *
 clear h hn he e2
 refine PC.fn hH cd368 fun w0 M Q hM hE hQ hR=>?_;dsimp only[cd368,qm,ql,qf,qi,qb,qc,qp,qv,qN,qT,qF,qt]at hQ ⊢
 (repeat' first|refine zaa [0,1,2,3,4,5,8,9,10,11] fun K hK=>?_|(refine hK.go ?_;clear hK K)|with_reducible exact wT|refine wA ?_|(refine wB (fun h=>?_) (fun h=>?_)<;>first|exact wN h|subst (h:(_:Bool)=_)|skip)|(refine wQ ?_;clear hQ hR hE hM)|refine wC c1 ?_|refine wC c2 ?_|fail)
 all_goals first|rfl|(exfalso;contradiction)|trace_state
theorem zeI (hH:HasAll P inv) (hI:HasIds P inv) (p:Pln) (hp:Sm p) (s:State) (hs:SmS s) (h:zac p s=0) (id:Int) (l:List Int) (hl:l.length≤1000) (hx:∀ x∈l,nth (zav p s).1 x.toNat=id∧zlD p x=true):PC P inv 369 [.agg p.c,.agg s.c,.n id,.sl 1 (l.map zdl)] (·=.b true):=by
 have hc:∀ x∈l,PC P inv 67 [.agg p.c,.agg s.c,.n x] (·=.tup [.n id,.n 0]):=fun x hx'=>by
  have h1:=zqV hH hI p hp s hs x
  unfold zkC at h1
  rw[if_pos h,if_pos (hx x hx').2,(hx x hx').1]at h1
  exact h1
 clear hx h
 refine PC.fn hH cd369 fun w0 M Q hM hE hQ hR=>?_;dsimp only[cd369,qm,ql,qf,qi,qb,qc,qp,qv,qN,qT,qF,qt]at hQ ⊢
 (repeat' first|refine zaa [0,1,2,3,4,5,8,9,10,11,15,25,34] fun K hK=>?_|(refine hK.go ?_;clear hK K)|with_reducible exact wT|refine wA ?_|(refine wB (fun h=>?_) (fun h=>?_)<;>first|exact wN h|subst (h:(_:Bool)=_)|skip)|(refine wQ ?_;clear hQ hR hE hM)|fail)
 refine zap (ι:=Nat) [2,3,4,5,8,9] (fun z=>[(9,.n z)]) (fun _=>[]) (fun z=>z) (l.length) (fun _=>True) (0) ?_;rintro k ⟨hk,-⟩;(try dsimp only at hk ⊢);rcases Nat.lt_or_ge k l.length with hlt|hge
 ·have d1:=hc _ (zad hlt)
  have d0:=zca hlt
  (have hX:=@d0;(repeat' first|refine zaa [0,1,2,3,4,5,8,9,10,11,15,25,34] fun K hK=>?_|(refine hK.go ?_;clear hK K)|with_reducible exact wT|refine wA ?_|(refine wB (fun h=>?_) (fun h=>?_)<;>first|exact wN h|subst (h:(_:Bool)=_)|skip)|(refine wQ ?_;clear hQ hR hE hM)|refine wC d1 ?_|fail);all_goals clear hX)
  all_goals first|(exfalso;contradiction)|exact ⟨k+1,by omega,by omega,by omega⟩|trace_state
 ·(repeat' first|refine zaa [0,1,2,3,4,5,8,9,10,11,15,25,34] fun K hK=>?_|(refine hK.go ?_;clear hK K)|with_reducible exact wT|refine wA ?_|(refine wB (fun h=>?_) (fun h=>?_)<;>first|exact wN h|subst (h:(_:Bool)=_)|skip)|(refine wQ ?_;clear hQ hR hE hM)|fail)
  all_goals first|rfl|(exfalso;contradiction)|trace_state
theorem zim (hH:HasAll P inv) (hI:HasIds P inv) (p:Pln) (hp:Pln.ok p) (s:State) (at':Int):PC P inv 360 [.agg p.c,.agg s.c,.n at',.b false] (·=.b true):=by
 have c0:=zgT hH hI
 have c1:=zbK hH p
 have c2:=zdb hH s
 cases g1:zet p with
 |true =>
  rw[g1]at c1
  refine PC.fn hH cd360 fun w0 M Q hM hE hQ hR=>?_;dsimp only[cd360,qm,ql,qf,qi,qb,qc,qp,qv,qN,qT,qF,qt]at hQ ⊢
  (repeat' first|refine zaa [0,1,2,3,4,5,8,9,10,11,12,13,14,15,16,17,18,19,20,21,22,59,70,84,91,105,109,113,121,136,180,182,187,200,223] fun K hK=>?_|(refine hK.go ?_;clear hK K)|with_reducible exact wT|refine wA ?_|(refine wB (fun h=>?_) (fun h=>?_)<;>first|exact wN h|subst (h:(_:Bool)=_)|skip)|(refine wQ ?_;clear hQ hR hE hM)|refine wC c0 ?_|refine wC c1 ?_|fail)
 |false =>
  rw[g1]at c1
  cases g2:zfS s with
  |true =>
   rw[g2]at c2
   refine PC.fn hH cd360 fun w0 M Q hM hE hQ hR=>?_;dsimp only[cd360,qm,ql,qf,qi,qb,qc,qp,qv,qN,qT,qF,qt]at hQ ⊢
   (repeat' first|refine zaa [0,1,2,3,4,5,8,9,10,11,12,13,14,15,16,17,18,19,20,21,22,59,70,84,91,105,109,113,121,136,180,182,187,200,223] fun K hK=>?_|(refine hK.go ?_;clear hK K)|with_reducible exact wT|refine wA ?_|(refine wB (fun h=>?_) (fun h=>?_)<;>first|exact wN h|subst (h:(_:Bool)=_)|skip)|(refine wQ ?_;clear hQ hR hE hM)|refine wC c0 ?_|refine wC c1 ?_|refine wC c2 ?_|fail)
  |false =>
   rw[g2]at c2
   have sp:=zmr hp g1
   have ss:=zhO g2
   have c3:=zaT hH hI p sp s ss
   have hrl:=sp.rte
   have hl3:=ss.2.2
   by_cases hst:zac p s=0∧(0≤at'∧at'<s.locks.length)∧(nth s.locks at'.toNat).phase=1
   ·obtain ⟨hst,⟨ha1,ha2⟩,hph⟩:=hst
    obtain ⟨i,rfl⟩:∃ i:Nat,at'=i:=⟨at'.toNat,by omega⟩
    rw[Int.toNat_natCast]at hph
    have hi:i<s.locks.length:=by omega
    rw[hst]at c3
    have hir:i<p.routes.length:=by have:=zag (zab hst).2.1;omega
    have hln:=zbI (zae hst) (zad hir)
    have hpth:=fun k (hk:k<(nth p.routes i).path.length)=>zhw hst hir hk
    have dF:∀ k,k<(nth p.routes i).path.length→PC P inv 73 [.agg p.c,.agg (zbx s ((nth p.routes i).path.take k)).c,.n (nth (nth p.routes i).path k),.n 0] (·=.tup [.agg (zbx s ((nth p.routes i).path.take (k+1))).c,.n 0]):=fun k hk=>by
     have h1:=zeK (p:=p) ((nth p.routes i).path.take k) hst
     have h2:=zlb hH hI p sp _ (zhB ((nth p.routes i).path.take k) ss) (nth (nth p.routes i).path k) 0
     have he:zbw p (zbx s ((nth p.routes i).path.take k)) (nth (nth p.routes i).path k) 0=0:=(zbO h1).2 ⟨zhG (zab h1).2.1 (hpth k hk),.inl rfl⟩
     rw[he,show secR p (zbx s ((nth p.routes i).path.take k)) (nth (nth p.routes i).path k) 0=zbx s ((nth p.routes i).path.take (k+1)) by unfold secR;rw[if_pos he,←zjW hk,zgI]]at h2
     exact h2
    have g0:=fun d=>trI_0 (d:=d) hst ss hi hph
    have hpl1:0<(nth p.routes i).path.length:=by omega
    have hpl6:=hln.2.1
    clear hst hln
    refine PC.fn hH cd360 fun w0 M Q hM hE hQ hR=>?_;dsimp only[cd360,qm,ql,qf,qi,qb,qc,qp,qv,qN,qT,qF,qt]at hQ ⊢
    (repeat' first|refine zaa [0,1,2,3,4,5,8,9,10,11,12,13,14,15,16,17,18,19,20,21,22,59,70,84,91,105,109,113,121,136,180,182,187,200,223] fun K hK=>?_|(refine hK.go ?_;clear hK K)|with_reducible exact wT|refine wA ?_|(refine wB (fun h=>?_) (fun h=>?_)<;>first|exact wN h|subst (h:(_:Bool)=_)|skip)|(refine wQ ?_;clear hQ hR hE hM)|refine wC c0 ?_|refine wC c1 ?_|refine wC c2 ?_|refine wC c3 ?_|fail)
    all_goals first|(exfalso;contradiction)|(exfalso;omega)|skip
    refine zap (ι:=Nat) [2,3,4,5,8,9,10,11] (fun z=>[(11,.n z)]) (fun z=>[(1,.cells (zbx s ((nth p.routes i).path.take z)).c true)]) (fun z=>z) ((nth p.routes i).path.length) (fun _=>True) (0) ?_;rintro k ⟨hk,-⟩;(try dsimp only at hk ⊢);rcases Nat.lt_or_ge k (nth p.routes i).path.length with hlt|hge
    ·have hk9:k<(nth p.routes i).path.length:=by assumption
     have d1:=dF k hk9
     have x0:=zca hk9
     obtain ⟨V,hV⟩:∃ V,zbx s ((nth p.routes i).path.take (k+1))=V:=⟨_,rfl⟩
     rw[hV]at d1
     generalize zbx s ((nth p.routes i).path.take k)=U at *
     (have hX:=@x0;(repeat' first|refine zaa [0,1,2,3,4,5,8,9,10,11,12,13,14,15,16,17,18,19,20,21,22,59,70,84,91,105,109,113,121,136,180,182,187,200,223] fun K hK=>?_|(refine hK.go ?_;clear hK K)|with_reducible exact wT|refine wA ?_|(refine wB (fun h=>?_) (fun h=>?_)<;>first|exact wN h|subst (h:(_:Bool)=_)|skip)|(refine wQ ?_;clear hQ hR hE hM)|refine wC d1 ?_|refine wU d1 ?_|fail);all_goals clear hX)
     all_goals first|(exfalso;contradiction)|exact ⟨k+1,by omega,by omega,by omega,by rw[hV]⟩|exact ⟨k+1,by omega,by omega,by omega,by rw[hV];rfl⟩|trace_state
    ·rw[List.take_of_length_le (by assumption)]
     have g9:=g0 1
     (repeat' first|refine zaa [0,1,2,3,4,5,8,9,10,11,12,13,14,15,16,17,18,19,20,21,22,59,70,84,91,105,109,113,121,136,180,182,187,200,223] fun K hK=>?_|(refine hK.go ?_;clear hK K)|with_reducible exact wT|refine wA ?_|(refine wB (fun h=>?_) (fun h=>?_)<;>first|exact wN h|subst (h:(_:Bool)=_)|skip)|(refine wQ ?_;clear hQ hR hE hM)|fail)
     refine zap (ι:=Nat×State) [2,3,4,5,8,9,10,14,15] (fun z=>[(15,.n z.1)]) (fun z=>[(1,.cells z.2.c true)]) (fun z=>z.1) ((nth p.routes i).path.length) (fun z=>(TrI p i 1 z.1 z.2)) (0,zbx s (nth p.routes i).path) ?_;rintro ⟨j,U⟩ ⟨hk,g⟩;(try dsimp only at hk g ⊢);rcases Nat.lt_or_ge j (nth p.routes i).path.length with hlt|hge
     ·have hj:j<(nth p.routes i).path.length:=by assumption
      obtain ⟨q1,q2,q3,q4⟩:=g.front (by omega) hj
      have d1:=zcC hH hI p sp U g.sm g.code (hpth j hj) (.inr rfl)
      have x0:=zca hj
      have x1:=g.lt
      by_cases hjd:j<1
      ·have g2:=g.step0 (by omega) hj hjd
       have k0:=g2.lt
       have k1:=congrArg Lock.phase (g2.lk (by omega))
       have k2:=congrArg Lock.gone (g2.lk (by omega))
       rw[zfT]at k2
       have k3:=zeu (nth p.routes i) (nth p.routes i).id (j+1-1)
       rw[←k1]at k3
       have dH:=zeI hH hI p sp _ g2.sm g2.code (nth p.routes i).id ((nth p.routes i).path.drop (j+1-1)) (by rw[List.length_drop];omega) (fun x hx=>g2.holds (by omega) hx)
       rw[List.map_drop,show j+1-1=0 by omega]at dH
       rw[show j+1-1=0 by omega]at k2
       have m0:(if (0:Int)<(j:Int)-1+1 then (j:Int)-1+1 else 0)=0:=if_neg (by omega)
       clear q1 q2 q3 q4 k1
       generalize zbC p U (nth (nth p.routes i).path j) 1=V at *
       (have hX:=zA @x0 (zA @m0 @k2);(repeat' first|refine zaa [0,1,2,3,4,5,8,9,10,11,12,13,14,15,16,17,18,19,20,21,22,59,70,84,91,105,109,113,121,136,180,182,187,200,223] fun K hK=>?_|(refine hK.go ?_;clear hK K)|with_reducible exact wT|refine wA ?_|(refine wB (fun h=>?_) (fun h=>?_)<;>first|exact wN h|subst (h:(_:Bool)=_)|skip)|(refine wQ ?_;clear hQ hR hE hM)|refine wC d1 ?_|refine wU d1 ?_|refine wC dH ?_|fail);all_goals clear hX)
       all_goals first|(exfalso;contradiction)|(exfalso;omega)|exact ⟨(j+1,V),by dsimp only;omega,⟨by dsimp only;omega,g2⟩,by dsimp only;omega,rfl⟩|trace_state
      ·have g2:=g.step1 (by omega) hj (by omega)
       have k0:=g2.lt
       have k1:=congrArg Lock.phase (g2.lk (by omega))
       have k2:=congrArg Lock.gone (g2.lk (by omega))
       rw[zfT]at k2
       have k3:=zeu (nth p.routes i) (nth p.routes i).id (j+1-1)
       rw[←k1]at k3
       have dH:=zeI hH hI p sp _ g2.sm g2.code (nth p.routes i).id ((nth p.routes i).path.drop (j+1-1)) (by rw[List.length_drop];omega) (fun x hx=>g2.holds (by omega) hx)
       rw[List.map_drop]at dH
       have d2:=zcC hH hI p sp _ (zgk g.sm) q1 (hpth (j-1) (by omega)) (.inl rfl)
       have x2:=zca (show j-1<(nth p.routes i).path.length by omega)
       have x3:((j:Int)-1).toNat=j-1:=by omega
       have m0:(if (0:Int)<(j:Int)-1+1 then (j:Int)-1+1 else 0)=(j:Int)-1+1:=if_pos (by omega)
       have x4:((j:Int)-1+1).toNat=j+1-1:=by omega
       clear q1 q2 q3 q4 k1
       generalize zbC p U (nth (nth p.routes i).path j) 1=W at *
       generalize zbC p W (nth (nth p.routes i).path (j-1)) 0=V at *
       (have hX:=zA @x0 (zA @x2 (zA @x3 (zA @x4 (zA @m0 @k2))));(repeat' first|refine zaa [0,1,2,3,4,5,8,9,10,11,12,13,14,15,16,17,18,19,20,21,22,59,70,84,91,105,109,113,121,136,180,182,187,200,223] fun K hK=>?_|(refine hK.go ?_;clear hK K)|with_reducible exact wT|refine wA ?_|(refine wB (fun h=>?_) (fun h=>?_)<;>first|exact wN h|subst (h:(_:Bool)=_)|skip)|(refine wQ ?_;clear hQ hR hE hM)|refine wC d1 ?_|refine wU d1 ?_|refine wC d2 ?_|refine wC dH ?_|fail);all_goals clear hX)
       all_goals first|(exfalso;contradiction)|(exfalso;omega)|exact ⟨(j+1,V),by dsimp only;omega,⟨by dsimp only;omega,g2⟩,by dsimp only;omega,rfl⟩|trace_state
     ·obtain rfl:j=(nth p.routes i).path.length:=by omega
      have x0:=zca (show (nth p.routes i).path.length-1<(nth p.routes i).path.length by omega)
      have x1:(((nth p.routes i).path.length:Int)-1).toNat=(nth p.routes i).path.length-1:=by omega
      have x2:=g.lt
      obtain ⟨e1,_⟩:=g.ended rfl (.inl rfl)
      have d3:=zcC hH hI p sp U g.sm g.code (hpth ((nth p.routes i).path.length-1) (by omega)) (.inl rfl)
      have e2:=zhI g.code g.lt e1
      have y1:i<(zbC p U (nth (nth p.routes i).path ((nth p.routes i).path.length-1)) 0).locks.length:=by rw[zdQ];exact g.lt
      generalize zbC p U (nth (nth p.routes i).path ((nth p.routes i).path.length-1)) 0=X at *
      have a1:=congrArg Lock.phase e1
      have a2:=congrArg Lock.left e1
      have b1:=congrArg Lock.id e2
      have b2:=congrArg Lock.phase e2
      have b3:=congrArg Lock.gone e2
      have b4:=congrArg Lock.left e2
      dsimp only at a1 a2 b1 b2 b3 b4
      clear e1 e2
      (have hX:=zA @x0 (zA @x1 (zA @a1 (zA @a2 (zA @b1 (zA @b2 (zA @b3 @b4))))));(repeat' first|refine zaa [0,1,2,3,4,5,8,9,10,11,12,13,14,15,16,17,18,19,20,21,22,59,70,84,91,105,109,113,121,136,180,182,187,200,223] fun K hK=>?_|(refine hK.go ?_;clear hK K)|with_reducible exact wT|refine wA ?_|(refine wB (fun h=>?_) (fun h=>?_)<;>first|exact wN h|subst (h:(_:Bool)=_)|skip)|(refine wQ ?_;clear hQ hR hE hM)|refine wC d3 ?_|refine wU d3 ?_|fail);all_goals clear hX)
      all_goals first|rfl|(exfalso;contradiction)|(exfalso;omega)|trace_state
   ·have key:¬zac p s=0∨at'<0∨(s.locks.length:Int)≤at'∨(0≤at'∧at'<s.locks.length∧¬(nth s.locks at'.toNat).phase=1):=by
     by_cases h1:zac p s=0
     ·by_cases h2:at'<0
      ·exact .inr (.inl h2)
      ·by_cases h3:(s.locks.length:Int)≤at'
       ·exact .inr (.inr (.inl h3))
       ·exact .inr (.inr (.inr ⟨by omega,by omega,fun h4=>hst ⟨h1,⟨by omega,by omega⟩,h4⟩⟩))
     ·exact .inl h1
    clear hst
    generalize zac p s=e at *
    refine PC.fn hH cd360 fun w0 M Q hM hE hQ hR=>?_;dsimp only[cd360,qm,ql,qf,qi,qb,qc,qp,qv,qN,qT,qF,qt]at hQ ⊢
    (repeat' first|refine zaa [0,1,2,3,4,5,8,9,10,11,12,13,14,15,16,17,18,19,20,21,22,59,70,84,91,105,109,113,121,136,180,182,187,200,223] fun K hK=>?_|(refine hK.go ?_;clear hK K)|with_reducible exact wT|refine wA ?_|(refine wB (fun h=>?_) (fun h=>?_)<;>first|exact wN h|subst (h:(_:Bool)=_)|skip)|(refine wQ ?_;clear hQ hR hE hM)|refine wC c0 ?_|refine wC c1 ?_|refine wC c2 ?_|refine wC c3 ?_|fail)
    all_goals first|rfl|(exfalso;contradiction)|(exfalso;omega)|trace_state
theorem zja (hH:HasAll P inv) (hI:HasIds P inv) (p:Pln) (hp:Pln.ok p) (s:State) (at':Int):PC P inv 360 [.agg p.c,.agg s.c,.n at',.b true] (·=.b true):=by
 have c0:=zgT hH hI
 have c1:=zbK hH p
 have c2:=zdb hH s
 cases g1:zet p with
 |true =>
  rw[g1]at c1
  refine PC.fn hH cd360 fun w0 M Q hM hE hQ hR=>?_;dsimp only[cd360,qm,ql,qf,qi,qb,qc,qp,qv,qN,qT,qF,qt]at hQ ⊢
  (repeat' first|refine zaa [0,1,2,3,4,5,8,9,10,11,12,13,14,15,16,17,18,19,20,21,22,59,70,84,91,105,109,113,121,136,180,182,187,200,223] fun K hK=>?_|(refine hK.go ?_;clear hK K)|with_reducible exact wT|refine wA ?_|(refine wB (fun h=>?_) (fun h=>?_)<;>first|exact wN h|subst (h:(_:Bool)=_)|skip)|(refine wQ ?_;clear hQ hR hE hM)|refine wC c0 ?_|refine wC c1 ?_|fail)
 |false =>
  rw[g1]at c1
  cases g2:zfS s with
  |true =>
   rw[g2]at c2
   refine PC.fn hH cd360 fun w0 M Q hM hE hQ hR=>?_;dsimp only[cd360,qm,ql,qf,qi,qb,qc,qp,qv,qN,qT,qF,qt]at hQ ⊢
   (repeat' first|refine zaa [0,1,2,3,4,5,8,9,10,11,12,13,14,15,16,17,18,19,20,21,22,59,70,84,91,105,109,113,121,136,180,182,187,200,223] fun K hK=>?_|(refine hK.go ?_;clear hK K)|with_reducible exact wT|refine wA ?_|(refine wB (fun h=>?_) (fun h=>?_)<;>first|exact wN h|subst (h:(_:Bool)=_)|skip)|(refine wQ ?_;clear hQ hR hE hM)|refine wC c0 ?_|refine wC c1 ?_|refine wC c2 ?_|fail)
  |false =>
   rw[g2]at c2
   have sp:=zmr hp g1
   have ss:=zhO g2
   have c3:=zaT hH hI p sp s ss
   have hrl:=sp.rte
   have hl3:=ss.2.2
   by_cases hst:zac p s=0∧(0≤at'∧at'<s.locks.length)∧(nth s.locks at'.toNat).phase=1
   ·obtain ⟨hst,⟨ha1,ha2⟩,hph⟩:=hst
    obtain ⟨i,rfl⟩:∃ i:Nat,at'=i:=⟨at'.toNat,by omega⟩
    rw[Int.toNat_natCast]at hph
    have hi:i<s.locks.length:=by omega
    rw[hst]at c3
    have hir:i<p.routes.length:=by have:=zag (zab hst).2.1;omega
    have hln:=zbI (zae hst) (zad hir)
    have hpth:=fun k (hk:k<(nth p.routes i).path.length)=>zhw hst hir hk
    have dF:∀ k,k<(nth p.routes i).path.length→PC P inv 73 [.agg p.c,.agg (zbx s ((nth p.routes i).path.take k)).c,.n (nth (nth p.routes i).path k),.n 0] (·=.tup [.agg (zbx s ((nth p.routes i).path.take (k+1))).c,.n 0]):=fun k hk=>by
     have h1:=zeK (p:=p) ((nth p.routes i).path.take k) hst
     have h2:=zlb hH hI p sp _ (zhB ((nth p.routes i).path.take k) ss) (nth (nth p.routes i).path k) 0
     have he:zbw p (zbx s ((nth p.routes i).path.take k)) (nth (nth p.routes i).path k) 0=0:=(zbO h1).2 ⟨zhG (zab h1).2.1 (hpth k hk),.inl rfl⟩
     rw[he,show secR p (zbx s ((nth p.routes i).path.take k)) (nth (nth p.routes i).path k) 0=zbx s ((nth p.routes i).path.take (k+1)) by unfold secR;rw[if_pos he,←zjW hk,zgI]]at h2
     exact h2
    have g0:=fun d=>trI_0 (d:=d) hst ss hi hph
    have hpl1:0<(nth p.routes i).path.length:=by omega
    have hpl6:=hln.2.1
    clear hst hln
    refine PC.fn hH cd360 fun w0 M Q hM hE hQ hR=>?_;dsimp only[cd360,qm,ql,qf,qi,qb,qc,qp,qv,qN,qT,qF,qt]at hQ ⊢
    (repeat' first|refine zaa [0,1,2,3,4,5,8,9,10,11,12,13,14,15,16,17,18,19,20,21,22,59,70,84,91,105,109,113,121,136,180,182,187,200,223] fun K hK=>?_|(refine hK.go ?_;clear hK K)|with_reducible exact wT|refine wA ?_|(refine wB (fun h=>?_) (fun h=>?_)<;>first|exact wN h|subst (h:(_:Bool)=_)|skip)|(refine wQ ?_;clear hQ hR hE hM)|refine wC c0 ?_|refine wC c1 ?_|refine wC c2 ?_|refine wC c3 ?_|fail)
    all_goals first|(exfalso;contradiction)|(exfalso;omega)|skip
    refine zap (ι:=Nat) [2,3,4,5,8,9,10,11] (fun z=>[(11,.n z)]) (fun z=>[(1,.cells (zbx s ((nth p.routes i).path.take z)).c true)]) (fun z=>z) ((nth p.routes i).path.length) (fun _=>True) (0) ?_;rintro k ⟨hk,-⟩;(try dsimp only at hk ⊢);rcases Nat.lt_or_ge k (nth p.routes i).path.length with hlt|hge
    ·have hk9:k<(nth p.routes i).path.length:=by assumption
     have d1:=dF k hk9
     have x0:=zca hk9
     obtain ⟨V,hV⟩:∃ V,zbx s ((nth p.routes i).path.take (k+1))=V:=⟨_,rfl⟩
     rw[hV]at d1
     generalize zbx s ((nth p.routes i).path.take k)=U at *
     (have hX:=@x0;(repeat' first|refine zaa [0,1,2,3,4,5,8,9,10,11,12,13,14,15,16,17,18,19,20,21,22,59,70,84,91,105,109,113,121,136,180,182,187,200,223] fun K hK=>?_|(refine hK.go ?_;clear hK K)|with_reducible exact wT|refine wA ?_|(refine wB (fun h=>?_) (fun h=>?_)<;>first|exact wN h|subst (h:(_:Bool)=_)|skip)|(refine wQ ?_;clear hQ hR hE hM)|refine wC d1 ?_|refine wU d1 ?_|fail);all_goals clear hX)
     all_goals first|(exfalso;contradiction)|exact ⟨k+1,by omega,by omega,by omega,by rw[hV]⟩|exact ⟨k+1,by omega,by omega,by omega,by rw[hV];rfl⟩|trace_state
    ·rw[List.take_of_length_le (by assumption)]
     have g9:=g0 2
     (repeat' first|refine zaa [0,1,2,3,4,5,8,9,10,11,12,13,14,15,16,17,18,19,20,21,22,59,70,84,91,105,109,113,121,136,180,182,187,200,223] fun K hK=>?_|(refine hK.go ?_;clear hK K)|with_reducible exact wT|refine wA ?_|(refine wB (fun h=>?_) (fun h=>?_)<;>first|exact wN h|subst (h:(_:Bool)=_)|skip)|(refine wQ ?_;clear hQ hR hE hM)|fail)
     refine zap (ι:=Nat×State) [2,3,4,5,8,9,10,14,15] (fun z=>[(15,.n z.1)]) (fun z=>[(1,.cells z.2.c true)]) (fun z=>z.1) ((nth p.routes i).path.length) (fun z=>(TrI p i 2 z.1 z.2)) (0,zbx s (nth p.routes i).path) ?_;rintro ⟨j,U⟩ ⟨hk,g⟩;(try dsimp only at hk g ⊢);rcases Nat.lt_or_ge j (nth p.routes i).path.length with hlt|hge
     ·have hj:j<(nth p.routes i).path.length:=by assumption
      obtain ⟨q1,q2,q3,q4⟩:=g.front (by omega) hj
      have d1:=zcC hH hI p sp U g.sm g.code (hpth j hj) (.inr rfl)
      have x0:=zca hj
      have x1:=g.lt
      by_cases hjd:j<2
      ·have g2:=g.step0 (by omega) hj hjd
       have k0:=g2.lt
       have k1:=congrArg Lock.phase (g2.lk (by omega))
       have k2:=congrArg Lock.gone (g2.lk (by omega))
       rw[zfT]at k2
       have k3:=zeu (nth p.routes i) (nth p.routes i).id (j+1-2)
       rw[←k1]at k3
       have dH:=zeI hH hI p sp _ g2.sm g2.code (nth p.routes i).id ((nth p.routes i).path.drop (j+1-2)) (by rw[List.length_drop];omega) (fun x hx=>g2.holds (by omega) hx)
       rw[List.map_drop,show j+1-2=0 by omega]at dH
       rw[show j+1-2=0 by omega]at k2
       have m0:(if (0:Int)<(j:Int)-2+1 then (j:Int)-2+1 else 0)=0:=if_neg (by omega)
       clear q1 q2 q3 q4 k1
       generalize zbC p U (nth (nth p.routes i).path j) 1=V at *
       (have hX:=zA @x0 (zA @m0 @k2);(repeat' first|refine zaa [0,1,2,3,4,5,8,9,10,11,12,13,14,15,16,17,18,19,20,21,22,59,70,84,91,105,109,113,121,136,180,182,187,200,223] fun K hK=>?_|(refine hK.go ?_;clear hK K)|with_reducible exact wT|refine wA ?_|(refine wB (fun h=>?_) (fun h=>?_)<;>first|exact wN h|subst (h:(_:Bool)=_)|skip)|(refine wQ ?_;clear hQ hR hE hM)|refine wC d1 ?_|refine wU d1 ?_|refine wC dH ?_|fail);all_goals clear hX)
       all_goals first|(exfalso;contradiction)|(exfalso;omega)|exact ⟨(j+1,V),by dsimp only;omega,⟨by dsimp only;omega,g2⟩,by dsimp only;omega,rfl⟩|trace_state
      ·have g2:=g.step1 (by omega) hj (by omega)
       have k0:=g2.lt
       have k1:=congrArg Lock.phase (g2.lk (by omega))
       have k2:=congrArg Lock.gone (g2.lk (by omega))
       rw[zfT]at k2
       have k3:=zeu (nth p.routes i) (nth p.routes i).id (j+1-2)
       rw[←k1]at k3
       have dH:=zeI hH hI p sp _ g2.sm g2.code (nth p.routes i).id ((nth p.routes i).path.drop (j+1-2)) (by rw[List.length_drop];omega) (fun x hx=>g2.holds (by omega) hx)
       rw[List.map_drop]at dH
       have d2:=zcC hH hI p sp _ (zgk g.sm) q1 (hpth (j-2) (by omega)) (.inl rfl)
       have x2:=zca (show j-2<(nth p.routes i).path.length by omega)
       have x3:((j:Int)-2).toNat=j-2:=by omega
       have m0:(if (0:Int)<(j:Int)-2+1 then (j:Int)-2+1 else 0)=(j:Int)-2+1:=if_pos (by omega)
       have x4:((j:Int)-2+1).toNat=j+1-2:=by omega
       clear q1 q2 q3 q4 k1
       generalize zbC p U (nth (nth p.routes i).path j) 1=W at *
       generalize zbC p W (nth (nth p.routes i).path (j-2)) 0=V at *
       (have hX:=zA @x0 (zA @x2 (zA @x3 (zA @x4 (zA @m0 @k2))));(repeat' first|refine zaa [0,1,2,3,4,5,8,9,10,11,12,13,14,15,16,17,18,19,20,21,22,59,70,84,91,105,109,113,121,136,180,182,187,200,223] fun K hK=>?_|(refine hK.go ?_;clear hK K)|with_reducible exact wT|refine wA ?_|(refine wB (fun h=>?_) (fun h=>?_)<;>first|exact wN h|subst (h:(_:Bool)=_)|skip)|(refine wQ ?_;clear hQ hR hE hM)|refine wC d1 ?_|refine wU d1 ?_|refine wC d2 ?_|refine wC dH ?_|fail);all_goals clear hX)
       all_goals first|(exfalso;contradiction)|(exfalso;omega)|exact ⟨(j+1,V),by dsimp only;omega,⟨by dsimp only;omega,g2⟩,by dsimp only;omega,rfl⟩|trace_state
     ·obtain rfl:j=(nth p.routes i).path.length:=by omega
      have x0:=zca (show (nth p.routes i).path.length-1<(nth p.routes i).path.length by omega)
      have x1:(((nth p.routes i).path.length:Int)-1).toNat=(nth p.routes i).path.length-1:=by omega
      have x2:=g.lt
      by_cases hl1:(nth p.routes i).path.length=1
      ·skip
       obtain ⟨e1,_⟩:=g.ended rfl (.inr ⟨rfl,hl1⟩)
       have d3:=zcC hH hI p sp U g.sm g.code (hpth ((nth p.routes i).path.length-1) (by omega)) (.inl rfl)
       have e2:=zhI g.code g.lt e1
       have y1:i<(zbC p U (nth (nth p.routes i).path ((nth p.routes i).path.length-1)) 0).locks.length:=by rw[zdQ];exact g.lt
       generalize zbC p U (nth (nth p.routes i).path ((nth p.routes i).path.length-1)) 0=X at *
       have a1:=congrArg Lock.phase e1
       have a2:=congrArg Lock.left e1
       have b1:=congrArg Lock.id e2
       have b2:=congrArg Lock.phase e2
       have b3:=congrArg Lock.gone e2
       have b4:=congrArg Lock.left e2
       dsimp only at a1 a2 b1 b2 b3 b4
       clear e1 e2
       (have hX:=zA @x0 (zA @x1 (zA @a1 (zA @a2 (zA @b1 (zA @b2 (zA @b3 @b4))))));(repeat' first|refine zaa [0,1,2,3,4,5,8,9,10,11,12,13,14,15,16,17,18,19,20,21,22,59,70,84,91,105,109,113,121,136,180,182,187,200,223] fun K hK=>?_|(refine hK.go ?_;clear hK K)|with_reducible exact wT|refine wA ?_|(refine wB (fun h=>?_) (fun h=>?_)<;>first|exact wN h|subst (h:(_:Bool)=_)|skip)|(refine wQ ?_;clear hQ hR hE hM)|refine wC d3 ?_|refine wU d3 ?_|fail);all_goals clear hX)
       all_goals first|rfl|(exfalso;contradiction)|(exfalso;omega)|trace_state
      ·obtain ⟨t1,t2,e1⟩:=g.tail rfl rfl (by omega)
       have d4:=zcC hH hI p sp U g.sm g.code (hpth ((nth p.routes i).path.length-2) (by omega)) (.inl rfl)
       have x3:=zca (show (nth p.routes i).path.length-2<(nth p.routes i).path.length by omega)
       have x4:(((nth p.routes i).path.length:Int)-1-1).toNat=(nth p.routes i).path.length-2:=by omega
       have t3:=zgk (p:=p) (n:=nth (nth p.routes i).path ((nth p.routes i).path.length-2)) (v:=0) g.sm
       generalize zbC p U (nth (nth p.routes i).path ((nth p.routes i).path.length-2)) 0=Y at *
       skip
       have d3:=zcC hH hI p sp Y t3 t1 (hpth ((nth p.routes i).path.length-1) (by omega)) (.inl rfl)
       have e2:=zhI t1 t2 e1
       have y1:i<(zbC p Y (nth (nth p.routes i).path ((nth p.routes i).path.length-1)) 0).locks.length:=by rw[zdQ];exact t2
       generalize zbC p Y (nth (nth p.routes i).path ((nth p.routes i).path.length-1)) 0=X at *
       have a1:=congrArg Lock.phase e1
       have a2:=congrArg Lock.left e1
       have b1:=congrArg Lock.id e2
       have b2:=congrArg Lock.phase e2
       have b3:=congrArg Lock.gone e2
       have b4:=congrArg Lock.left e2
       dsimp only at a1 a2 b1 b2 b3 b4
       clear e1 e2
       (have hX:=zA @x0 (zA @x1 (zA @a1 (zA @a2 (zA @b1 (zA @b2 (zA @b3 (zA @b4 (zA @x3 @x4))))))));(repeat' first|refine zaa [0,1,2,3,4,5,8,9,10,11,12,13,14,15,16,17,18,19,20,21,22,59,70,84,91,105,109,113,121,136,180,182,187,200,223] fun K hK=>?_|(refine hK.go ?_;clear hK K)|with_reducible exact wT|refine wA ?_|(refine wB (fun h=>?_) (fun h=>?_)<;>first|exact wN h|subst (h:(_:Bool)=_)|skip)|(refine wQ ?_;clear hQ hR hE hM)|refine wC d3 ?_|refine wU d3 ?_|refine wC d4 ?_|refine wU d4 ?_|fail);all_goals clear hX)
       all_goals first|rfl|(exfalso;contradiction)|(exfalso;omega)|trace_state
   ·have key:¬zac p s=0∨at'<0∨(s.locks.length:Int)≤at'∨(0≤at'∧at'<s.locks.length∧¬(nth s.locks at'.toNat).phase=1):=by
     by_cases h1:zac p s=0
     ·by_cases h2:at'<0
      ·exact .inr (.inl h2)
      ·by_cases h3:(s.locks.length:Int)≤at'
       ·exact .inr (.inr (.inl h3))
       ·exact .inr (.inr (.inr ⟨by omega,by omega,fun h4=>hst ⟨h1,⟨by omega,by omega⟩,h4⟩⟩))
     ·exact .inl h1
    clear hst
    generalize zac p s=e at *
    refine PC.fn hH cd360 fun w0 M Q hM hE hQ hR=>?_;dsimp only[cd360,qm,ql,qf,qi,qb,qc,qp,qv,qN,qT,qF,qt]at hQ ⊢
    (repeat' first|refine zaa [0,1,2,3,4,5,8,9,10,11,12,13,14,15,16,17,18,19,20,21,22,59,70,84,91,105,109,113,121,136,180,182,187,200,223] fun K hK=>?_|(refine hK.go ?_;clear hK K)|with_reducible exact wT|refine wA ?_|(refine wB (fun h=>?_) (fun h=>?_)<;>first|exact wN h|subst (h:(_:Bool)=_)|skip)|(refine wQ ?_;clear hQ hR hE hM)|refine wC c0 ?_|refine wC c1 ?_|refine wC c2 ?_|refine wC c3 ?_|fail)
    all_goals first|rfl|(exfalso;contradiction)|(exfalso;omega)|trace_state
theorem passTrain_pc (hH:HasAll P inv) (hI:HasIds P inv) (p:Pln) (hp:Pln.ok p) (s:State) (at':Int) (b:Bool):PC P inv 360 [.agg p.c,.agg s.c,.n at',.b b] (·=.b true):=by
 cases b
 ·exact zim hH hI p hp s at'
 ·exact zja hH hI p hp s at'
end Go.Lev
