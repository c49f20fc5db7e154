/-
  A part of the engine that walks the functions' codes, and of the functions' contracts. Conditions: those that each theorem names.
-/
import Derived.Test.YtcpgcgandpofiaaGreatB1
import Derived.IntWalk
set_option linter.unusedSimpArgs false
set_option linter.unusedVariables false
set_option linter.unusedSectionVars false
namespace Go.Lev
open Go.Eng
theorem zio {p:Pln} {s:State} (h:zar p s=true) {k:Nat} (hk:k<s.switches.length):(nth s.switches k).id=(nth p.points k).id:=by
 have:=(zcB _ _ _).1 (by simp only[zar,Bool.and_eq_true]at h;exact h.2.1)
 have:=this.2 k hk
 simp only[zgp,Bool.and_eq_true,decide_eq_true_eq]at this
 exact this.1
theorem leF_true {p:Pln} {s:State} {n:Int} (hst:zan p s=0) {i0:Nat} (hi0:i0<s.locks.length) (hid:(nth s.locks i0).id=n) :
  leF p s n (lkC p s n) (zak p (nth p.routes i0)).1 (fun m=>nth (zaw p s).1 m.toNat) (fun m=>nth (zaw p s).2.1 m.toNat)=true:=by
 have ho:=zaA hst
 have hpa:=(zaj hst).2.1
 have hpl:=zaB hpa
 have hr:nth p.routes i0∈p.routes:=zal (by omega)
 have hC:=zn7 hst hi0 hid
 unfold leF
 refine zbp (·=true) (fun i _=>i≤i0) (Nat.zero_le _) ?_ (fun _ h=>by omega)
 intro i _ zcw hi hI hn
 by_cases he:(nth s.locks i).id=n
 ·obtain rfl:i=i0:=zg7 hst hi hi0 (he.trans hid.symm)
  rw[decide_eq_true he,Bool.not_true,cond_false]
  by_cases hph:(nth s.locks i).phase=0
  ·rw[decide_eq_true hph,Bool.not_true,cond_false]
   rw[if_pos hph,zly]at hC
   generalize hall:(zak p (nth p.routes i)).1.path++(zak p (nth p.routes i)).1.over=all at *
   refine zbp (·=true) (fun k _=>zcs (zaw p s).1 (frT s) (all.drop k)=zcs (zaw p s).1 (frT s) all) rfl ?_ ?_
   ·intro k _ next2 hk hK hn2
    rw[zap hk,zcs]at hK
    dsimp only
    by_cases h1:nth (zaw p s).1 (nth all k).toNat=0
    ·rw[decide_eq_true h1,Bool.not_true,cond_false]
     rw[if_pos h1,zjQ ho hpa]at hK
     by_cases h2:zfn s (nth all k)=0
     ·rw[decide_eq_true h2,Bool.not_true,cond_false]
      rw[decide_eq_true h2,if_pos rfl]at hK
      exact hn2 () hK
     ·rw[decide_eq_false h2,Bool.not_false,cond_true]
      rw[decide_eq_false h2,if_neg (by decide)]at hK
      rw[hC,←hK,zhA _ (by decide)];rfl
    ·rw[decide_eq_false h1,Bool.not_false,cond_true]
     rw[if_neg h1]at hK
     rw[hC,←hK,zhA _ (by decide)];rfl
   ·intro _ hK
    rw[List.drop_eq_nil_of_le (Nat.le_refl _),zcs]at hK
    rw[←hK,zo3]at hC
    refine zbp (·=true) (fun k _=>∀ j,j<k→zgc p s (zaw p s).2.1 (nth (zak p (nth p.routes i)).1.asks j)=true) (fun j hj=>by omega) ?_ ?_
    ·intro k _ next3 hk hA hn3
     obtain ⟨⟨x,hx,ex⟩,_⟩:=zbK ho hr (zal hk)
     obtain ⟨m0,hm0,rfl⟩:=zez hx
     have hms:m0<s.switches.length:=by omega
     have hsw:=zio hpa hms
     have hcl:zcu s (nth (zak p (nth p.routes i)).1.asks k).pnt=(nth s.switches m0).call:=by rw[←ex,←hsw];exact zhw ho hpa (zal hms)
     have hsc:zbU p (nth (zak p (nth p.routes i)).1.asks k).pnt=(nth p.points m0).sec:=by rw[←ex];exact zc6 ho hm0
     refine zbp (·=true) (fun m _=>m0<m→zgc p s (zaw p s).2.1 (nth (zak p (nth p.routes i)).1.asks k)=true) (fun h=>by omega) ?_ ?_
     ·intro m _ next4 hm hM hn4
      dsimp only
      by_cases h1:(nth s.switches m).id=(nth (zak p (nth p.routes i)).1.asks k).pnt
      ·obtain rfl:m=m0:=zkR Switch.id (by rw[zdf hpa];exact zbF ho) hm hms (by rw[h1,←ex,hsw])
       have hfr:zgc p s (zaw p s).2.1 (nth (zak p (nth p.routes i)).1.asks k)=(decide ((nth s.switches m).call=(nth (zak p (nth p.routes i)).1.asks k).lie)||(decide (nth (zaw p s).2.1 (nth s.switches m).id.toNat=0)&&decide (zfn s (nth p.points m).sec=0))):=by
        unfold zgc
        rw[hcl,hsc,zjQ ho hpa,h1]
       rw[decide_eq_true h1,Bool.true_and]
       cases hb:zgc p s (zaw p s).2.1 (nth (zak p (nth p.routes i)).1.asks k) with
       |true =>
        have:(!decide ((nth s.switches m).call=(nth (zak p (nth p.routes i)).1.asks k).lie)&&(!decide (nth (zaw p s).2.1 (nth s.switches m).id.toNat=0)||!decide (zfn s (nth p.points m).sec=0)))=false:=by
         rw[hb]at hfr
         generalize decide ((nth s.switches m).call=(nth (zak p (nth p.routes i)).1.asks k).lie)=a at *
         generalize decide (nth (zaw p s).2.1 (nth s.switches m).id.toNat=0)=b at *
         generalize decide (zfn s (nth p.points m).sec=0)=c at *
         revert hfr;revert a b c;decide
        rw[this,cond_false]
        exact hn4 () fun _=>hb
       |false =>
        have:(!decide ((nth s.switches m).call=(nth (zak p (nth p.routes i)).1.asks k).lie)&&(!decide (nth (zaw p s).2.1 (nth s.switches m).id.toNat=0)||!decide (zfn s (nth p.points m).sec=0)))=true:=by
         rw[hb]at hfr
         generalize decide ((nth s.switches m).call=(nth (zak p (nth p.routes i)).1.asks k).lie)=a at *
         generalize decide (nth (zaw p s).2.1 (nth s.switches m).id.toNat=0)=b at *
         generalize decide (zfn s (nth p.points m).sec=0)=c at *
         revert hfr;revert a b c;decide
        rw[this,cond_true]
        rw[if_neg (fun h=>by
         have:=List.all_eq_true.1 h _ (zal hk)
         rw[hb]at this
         cases this)]at hC
        rw[hC];rfl
      ·rw[decide_eq_false h1,Bool.false_and,Bool.false_and,cond_false]
       refine hn4 () fun h=>hM ?_
       rcases Nat.lt_or_ge m0 m with h2|h2
       ·exact h2
       ·obtain rfl:m0=m:=by omega
        exact absurd (by rw[hsw,ex]) h1
     ·intro _ hM
      refine hn3 () fun j hj=>?_
      rcases Nat.lt_or_ge j k with h|h
      ·exact hA j h
      ·obtain rfl:j=k:=by omega
       exact hM hms
    ·intro _ hA
     rw[if_pos (List.all_eq_true.2 fun a ha=>by obtain ⟨j,hj,rfl⟩:=zez ha;exact hA j hj)]at hC
     rw[hC];rfl
  ·rw[decide_eq_false hph,Bool.not_false,cond_true]
   rw[if_neg hph]at hC
   rw[hC];rfl
 ·rw[decide_eq_false he,Bool.not_false,cond_true]
  refine hn () ?_
  rcases Nat.lt_or_ge i i0 with h|h
  ·omega
  ·obtain rfl:i=i0:=by omega
   exact absurd hid he
end Go.Lev
namespace Go.Lev
open Go.Eng
set_option maxRecDepth 10000
set_option maxHeartbeats 4000000
variable {P:Program} {inv:Nat→Option Nat} {w0:World} {M:Nat→Prop}
theorem zh3 (hH:HasAll P inv) (hI:HasIds P inv) (p:Pln) (hp:Sm p) (s:State) (hs:SmS s) (n:Int):PC P inv 156 [.agg p.c,.agg s.c,.n n] (·=.tup [.agg (lkS p s n).c,.n (lkC p s n)]):=by
 unfold lkS
 by_cases he:lkC p s n=0
 ·have:=(zmy hH hI p hp s hs n he).pc
  rw[zfr]at this
  rw[if_pos he,he]
  exact this
 ·have c0:=zfE hH hI p hp s hs n
  rw[if_neg he]
  generalize lkC p s n=e at c0 he ⊢
  generalize lkW p s n=w at c0
  refine zae (F:=cd156) (hH.has _ _ rfl) (Nat.le_of_ble_eq_true rfl) fun w0 M Q hM hQ hR=>?_;have hE:=hH.callable;dsimp only[cd156,qm,ql,qf,qi,qb,qc,qp,qv,qN,qT,qF,qt]at hQ ⊢
  repeat' (first|refine zaa [0,1,2,3,4,6,7,8,9,11,12,21,27,28,29,30,43,44,45,54] fun K hK=>?_|refine AWp.block ?_|(refine hK.go ?_;clear hK K)|refine Cont.go (by assumption) ?_|(refine cnd2 rfl (fun h=>?_) (fun h=>?_)<;>(try first|exact h.elim|obtain rfl:(_:Bool)=true:=h|obtain rfl:(_:Bool)=false:=h)<;>first|(exfalso;omega)|skip)|((first|refine AWp.reg hE hM ?_|refine AWp.regd hE hM ?_|refine AWp.ret ?_|refine AWp.skip ?_|refine AWp.exit ?_|(refine pk2 (fun h=>?_) (fun h=>?_)<;>(try first|exact h.elim|obtain rfl:(_:Bool)=true:=h|obtain rfl:(_:Bool)=false:=h))|refine zab (fun h=>?_) ?_|refine zac hM (c0) ?_|(refine hQ _ _ _ rfl ?_;clear hQ hR hE hM)|(refine hR _ _ (hQ _ _ _ rfl ?_);clear hQ hR hE hM)|(refine zaf ?_ ?_;focus first|omega|(refine zad ?_;(refine no_implicit_lambda% (st ?_);try with_reducible exact True.intro);done)))<;>try (refine no_implicit_lambda% (st ?_);try with_reducible exact True.intro)))
  all_goals first|rfl|(exfalso;contradiction)|skip
end Go.Lev
namespace Go.Lev
open Go.Eng
set_option maxRecDepth 10000
set_option maxHeartbeats 4000000
variable {P:Program} {inv:Nat→Option Nat} {w0:World} {M:Nat→Prop}
theorem smC:Sm zkM:=⟨by decide,by decide,by decide,by decide,by decide,by decide⟩
theorem smQ:SmS stQ:=⟨by decide,by decide,by decide⟩
theorem okC:zbm zkM=true:=by decide +kernel
theorem atC:atS zkM=stN:=by decide +kernel
theorem zme (b:Nat) (s:State) (t:Bool):zdD 4 (zkq b s) (.tup [zmd b s,.b t])=.tup [.agg s.c,.b t]:=by
 rw[zei,zbR,zbR,zdt,zjg,sn_b]
theorem zjH (hH:HasAll P inv):PC P inv 157 [] (·=.agg zkM.c):=by
 have h:PC P inv 157 [] (·=.agg [.n 1,.n 0,.sl 3 (zkM.sections.map Section.c),.sl 2 (zkM.points.map Pnt.c),.sl 3 (zkM.signals.map Sgn.c),.sl 7 [[.n 1,.n 1,.n 0,.sl 1 [[.n 2],[.n 3]],.s0 1,.s0 2,.n 3],[.n 2,.n 1,.n 0,.sl 1 [[.n 2],[.n 4]],.s0 1,.s0 2,.n 4]]]):=by
  refine zae (F:=cd157) (hH.has _ _ rfl) (Nat.le_of_ble_eq_true rfl) fun w0 M Q hM hQ hR=>?_;have hE:=hH.callable;dsimp only[cd157,qm,ql,qf,qi,qb,qc,qp,qv,qN,qT,qF,qt]at hQ ⊢
  repeat' (first|refine zaa [0] fun K hK=>?_|refine AWp.block ?_|(refine hK.go ?_;clear hK K)|refine Cont.go (by assumption) ?_|(refine cnd2 rfl (fun h=>?_) (fun h=>?_)<;>(try first|exact h.elim|obtain rfl:(_:Bool)=true:=h|obtain rfl:(_:Bool)=false:=h)<;>first|(exfalso;omega)|skip)|((first|refine AWp.reg hE hM ?_|refine AWp.regd hE hM ?_|refine AWp.ret ?_|refine AWp.skip ?_|refine AWp.exit ?_|(refine pk2 (fun h=>?_) (fun h=>?_)<;>(try first|exact h.elim|obtain rfl:(_:Bool)=true:=h|obtain rfl:(_:Bool)=false:=h))|refine zab (fun h=>?_) ?_|(refine hQ _ _ _ rfl ?_;clear hQ hR hE hM)|(refine hR _ _ (hQ _ _ _ rfl ?_);clear hQ hR hE hM)|(refine zaf ?_ ?_;focus first|omega|(refine zad ?_;(refine no_implicit_lambda% (st ?_);try with_reducible exact True.intro);done)))<;>try (refine no_implicit_lambda% (st ?_);try with_reducible exact True.intro)))
  rfl
 exact h.nzr
theorem zmq (hH:HasAll P inv) (hI:HasIds P inv):PC P inv 155 [] (·=.tup [.agg stQ.c,.b true]):=by
 suffices h:PO P inv 155 [] (.tup [zmd 3 stQ,.b true]) (zkq 3 stQ) by
  have:=h.pc
  rw[zme]at this
  exact this
 have c0:=zjH hH
 have c1:=sAt_po hH hI zkM smC okC
 rw[atC]at c1
 unfold stV stR at c1
 have e1:stN.tracks.length=4:=rfl
 have e2:stN.switches.length=1:=rfl
 have e3:stN.locks.length=2:=rfl
 have q1:stN.tracks.mapIdx zoC=stQ.tracks:=rfl
 have q2:stN.switches=stQ.switches:=rfl
 have q3:stN.locks=stQ.locks:=rfl
 have r1:stQ.tracks.length=4:=rfl
 have r2:stQ.switches.length=1:=rfl
 have r3:stQ.locks.length=2:=rfl
 generalize stN=S at *
 generalize stQ=T at *
 rw[e1,e2,e3]at c1
 refine zbA (F:=cd155) (hH.has _ _ rfl) (Nat.le_of_ble_eq_true rfl) fun w0 M Q hM hQ hR=>?_;have hE:=hH.callable;dsimp only[cd155,qm,ql,qf,qi,qb,qc,qp,qv,qN,qT,qF,qt]at hQ ⊢
 repeat' (first|refine zaa [0,1,2,3,4,14] fun K hK=>?_|refine AWp.block ?_|(refine hK.go ?_;clear hK K)|refine Cont.go (by assumption) ?_|(refine cnd2 rfl (fun h=>?_) (fun h=>?_)<;>(try first|exact h.elim|obtain rfl:(_:Bool)=true:=h|obtain rfl:(_:Bool)=false:=h)<;>first|(exfalso;omega)|skip)|((first|refine AWp.reg hE hM ?_|refine AWp.regd hE hM ?_|refine AWp.ret ?_|refine AWp.skip ?_|refine AWp.exit ?_|(refine pk2 (fun h=>?_) (fun h=>?_)<;>(try first|exact h.elim|obtain rfl:(_:Bool)=true:=h|obtain rfl:(_:Bool)=false:=h))|refine zab (fun h=>?_) ?_|refine zac hM (c0) ?_|refine PO.callK hM ( c1) ?_|(refine zaf ?_ ?_;focus first|omega|(refine zad ?_;(refine no_implicit_lambda% (st ?_);try with_reducible exact True.intro);done)))<;>try simp -dsimp -implicitDefEqProofs (disch:=omega) only[go_sem,reduceIte,↓reduceIte,Nat.reduceEqDiff,Nat.reduceLT,Nat.reduceLeDiff,Nat.reduceAdd,Nat.reduceSub,Nat.reduceMul,Int.reduceToNat,Int.reduceLT,Int.reduceLE,Int.reduceEq,Int.reduceNeg,Int.reduceNe,reduceCtorEq,e1,e2,e3])|(refine hQ _ _ _ rfl ?_;clear hQ hR hE hM)|(refine hR _ _ (hQ _ _ _ rfl ?_);clear hQ hR hE hM))
 refine zah (ι:=Nat) [0,1,2,3,4] (fun zz=>[(4,.n zz)]) (fun zz=>[(3,.cells ((zij zoC zz S.tracks).map Track.c).flatten true)]) (fun zz=>zz≤4) (fun zz=>4-zz) (0) (Nat.zero_le _) (by (try dsimp only);(refine no_implicit_lambda% (st ?_);try with_reducible exact True.intro)<;>first|omega|(simp;done)) (by (try dsimp only);(refine no_implicit_lambda% (st ?_);try with_reducible exact True.intro)<;>first|omega|(simp;done)) ?_;rintro k hk;(try dsimp only at hk ⊢);rcases Nat.lt_or_ge k 4 with hlt|hge
 ·have hk:k<S.tracks.length:=by omega
  have d1:=zln zoC hk
  have d2:=zd7 (c:=Track.c) (l:=zij zoC k S.tracks) (k:=k) (i:=1) (by rw[zdV];exact hk) (by omega) (.i .u8 0) (zoC k (nth S.tracks k)) (by rw[zgd _ hk];rfl)
  rw[d1]at d2
  repeat' (first|refine zaa [0,1,2,3,4,14] fun K hK=>?_|refine AWp.block ?_|(refine hK.go ?_;clear hK K)|refine Cont.go (by assumption) ?_|(refine cnd2 rfl (fun h=>?_) (fun h=>?_)<;>(try first|exact h.elim|obtain rfl:(_:Bool)=true:=h|obtain rfl:(_:Bool)=false:=h)<;>first|(exfalso;omega)|skip)|((first|refine AWp.reg hE hM ?_|refine AWp.regd hE hM ?_|refine AWp.ret ?_|refine AWp.skip ?_|refine AWp.exit ?_|(refine pk2 (fun h=>?_) (fun h=>?_)<;>(try first|exact h.elim|obtain rfl:(_:Bool)=true:=h|obtain rfl:(_:Bool)=false:=h))|refine zab (fun h=>?_) ?_|(refine zaf ?_ ?_;focus first|omega|(refine zad ?_;(refine no_implicit_lambda% (st ?_);try with_reducible exact True.intro);done)))<;>try simp -dsimp -implicitDefEqProofs (disch:=omega) only[go_sem,reduceIte,↓reduceIte,Nat.reduceEqDiff,Nat.reduceLT,Nat.reduceLeDiff,Nat.reduceAdd,Nat.reduceSub,Nat.reduceMul,Int.reduceToNat,Int.reduceLT,Int.reduceLE,Int.reduceEq,Int.reduceNeg,Int.reduceNe,reduceCtorEq,d2])|(refine hQ _ _ _ rfl ?_;clear hQ hR hE hM)|(refine hR _ _ (hQ _ _ _ rfl ?_);clear hQ hR hE hM))
  exact ⟨k+1,by omega,by omega,by omega,rfl⟩
 ·rw[zlo _ (by omega),q1]
  repeat' (first|refine zaa [0,1,2,3,4,14] fun K hK=>?_|refine AWp.block ?_|(refine hK.go ?_;clear hK K)|refine Cont.go (by assumption) ?_|(refine cnd2 rfl (fun h=>?_) (fun h=>?_)<;>(try first|exact h.elim|obtain rfl:(_:Bool)=true:=h|obtain rfl:(_:Bool)=false:=h)<;>first|(exfalso;omega)|skip)|((first|refine AWp.reg hE hM ?_|refine AWp.regd hE hM ?_|refine AWp.ret ?_|refine AWp.skip ?_|refine AWp.exit ?_|(refine pk2 (fun h=>?_) (fun h=>?_)<;>(try first|exact h.elim|obtain rfl:(_:Bool)=true:=h|obtain rfl:(_:Bool)=false:=h))|refine zab (fun h=>?_) ?_|(refine zaf ?_ ?_;focus first|omega|(refine zad ?_;(refine no_implicit_lambda% (st ?_);try with_reducible exact True.intro);done)))<;>try (refine no_implicit_lambda% (st ?_);try with_reducible exact True.intro))|(refine hQ _ _ _ rfl ?_;clear hQ hR hE hM)|(refine hR _ _ (hQ _ _ _ rfl ?_);clear hQ hR hE hM))
  all_goals first|(exfalso;omega)|skip
  left
  unfold zmd zkq
  rw[r1,r2,r3,←q2,←q3]
  constructor
  ·(try (refine no_implicit_lambda% (st ?_);try with_reducible exact True.intro))
   first|rfl|(simp;done)|trace_state
  ·(try (refine no_implicit_lambda% (st ?_);try with_reducible exact True.intro))
   first|rfl|(simp;done)|trace_state
end Go.Lev
namespace Go.Lev
open Go.Eng
set_option maxRecDepth 10000
set_option maxHeartbeats 4000000
variable {P:Program} {inv:Nat→Option Nat} {w0:World} {M:Nat→Prop}
theorem setC1:lkC zkM stQ 1=0:=by decide +kernel
theorem setC2:lkS zkM stQ 1=stQ1:=by decide +kernel
theorem zif (hH:HasAll P inv) (hI:HasIds P inv):PC P inv 154 [] (·=.b true):=by
 have c0:=zjH hH
 have c1:=zmq hH hI
 have c2:=zh3 hH hI zkM smC stQ smQ 1
 rw[setC1,setC2]at c2
 unfold stQ at c1 c2
 unfold stQ1 at c2
 refine zae (F:=cd154) (hH.has _ _ rfl) (Nat.le_of_ble_eq_true rfl) fun w0 M Q hM hQ hR=>?_;have hE:=hH.callable;dsimp only[cd154,qm,ql,qf,qi,qb,qc,qp,qv,qN,qT,qF,qt]at hQ ⊢
 repeat' (first|refine zaa [0,1,2,3,4] fun K hK=>?_|refine AWp.block ?_|(refine hK.go ?_;clear hK K)|refine Cont.go (by assumption) ?_|(refine cnd2 rfl (fun h=>?_) (fun h=>?_)<;>(try first|exact h.elim|obtain rfl:(_:Bool)=true:=h|obtain rfl:(_:Bool)=false:=h)<;>first|(exfalso;omega)|skip)|((first|refine AWp.reg hE hM ?_|refine AWp.regd hE hM ?_|refine AWp.ret ?_|refine AWp.skip ?_|refine AWp.exit ?_|(refine pk2 (fun h=>?_) (fun h=>?_)<;>(try first|exact h.elim|obtain rfl:(_:Bool)=true:=h|obtain rfl:(_:Bool)=false:=h))|refine zab (fun h=>?_) ?_|refine zac hM (c1) ?_|refine zcV hM ( c0) ?_|refine zcV hM ( c2) ?_|(refine hQ _ _ _ rfl ?_;clear hQ hR hE hM)|(refine hR _ _ (hQ _ _ _ rfl ?_);clear hQ hR hE hM)|(refine zaf ?_ ?_;focus first|omega|(refine zad ?_;(refine no_implicit_lambda% (st ?_);try with_reducible exact True.intro);done)))<;>try (refine no_implicit_lambda% (st ?_);try with_reducible exact True.intro)))
 all_goals first|rfl|exact hF|(exfalso;contradiction)|trace_state
theorem zhg (hH:HasAll P inv) (s:State) (hs:s.tracks.length≤1000000000) (n:Int):PC P inv 332 [.agg s.c,.n n] (·=.b (decide (zfn s n=0))):=by
 unfold zfn
 refine zae (F:=cd332) (hH.has _ _ rfl) (Nat.le_of_ble_eq_true rfl) fun w0 M Q hM hQ hR=>?_;have hE:=hH.callable;dsimp only[cd332,qm,ql,qf,qi,qb,qc,qp,qv,qN,qT,qF,qt]at hQ ⊢
 repeat' (first|refine zaa [0,1,2,4,5,10,20] fun K hK=>?_|refine AWp.block ?_|(refine hK.go ?_;clear hK K)|refine Cont.go (by assumption) ?_|(refine cnd2 rfl (fun h=>?_) (fun h=>?_)<;>(try first|exact h.elim|obtain rfl:(_:Bool)=true:=h|obtain rfl:(_:Bool)=false:=h)<;>first|(exfalso;omega)|skip)|((first|refine AWp.reg hE hM ?_|refine AWp.regd hE hM ?_|refine AWp.ret ?_|refine AWp.skip ?_|refine AWp.exit ?_|(refine pk2 (fun h=>?_) (fun h=>?_)<;>(try first|exact h.elim|obtain rfl:(_:Bool)=true:=h|obtain rfl:(_:Bool)=false:=h))|refine zab (fun h=>?_) ?_|(refine hQ _ _ _ rfl ?_;clear hQ hR hE hM)|(refine hR _ _ (hQ _ _ _ rfl ?_);clear hQ hR hE hM)|(refine zaf ?_ ?_;focus first|omega|(refine zad ?_;(refine no_implicit_lambda% (st ?_);try with_reducible exact True.intro);done)))<;>try (refine no_implicit_lambda% (st ?_);try with_reducible exact True.intro)))
 refine zah (ι:=Nat) [1,2,4,5] (fun zz=>[(5,.n zz)]) (fun zz=>[]) (fun zz=>zz≤s.tracks.length∧((s.tracks.drop zz).find? (fun t=>decide (t.id=n))=s.tracks.find? (fun t=>decide (t.id=n)))) (fun zz=>s.tracks.length-zz) (0) ⟨Nat.zero_le _,(by first|rfl|assumption|omega|(simp;done)|(simp;omega)|grind)⟩ (by (try dsimp only);(refine no_implicit_lambda% (st ?_);try with_reducible exact True.intro)<;>first|omega|(simp;done)) (by (try dsimp only);(refine no_implicit_lambda% (st ?_);try with_reducible exact True.intro)<;>first|omega|(simp;done)) ?_;rintro k ⟨hk,hg⟩;(try dsimp only at hk hg ⊢);rcases Nat.lt_or_ge k s.tracks.length with hlt|hge
 ·rw[zap hlt,List.find?_cons]at hg
  by_cases h1:(nth s.tracks k).id=n
  ·rw[decide_eq_true h1]at hg
   have h2:decide ((nth s.tracks k).id=n)=true:=decide_eq_true h1
   repeat' (first|refine zaa [0,1,2,4,5,10,20] fun K hK=>?_|refine AWp.block ?_|(refine hK.go ?_;clear hK K)|refine Cont.go (by assumption) ?_|(refine cnd2 rfl (fun h=>?_) (fun h=>?_)<;>(try first|exact h.elim|obtain rfl:(_:Bool)=true:=h|obtain rfl:(_:Bool)=false:=h)<;>first|(exfalso;omega)|skip)|((first|refine AWp.reg hE hM ?_|refine AWp.regd hE hM ?_|refine AWp.ret ?_|refine AWp.skip ?_|refine AWp.exit ?_|(refine pk2 (fun h=>?_) (fun h=>?_)<;>(try first|exact h.elim|obtain rfl:(_:Bool)=true:=h|obtain rfl:(_:Bool)=false:=h))|refine zab (fun h=>?_) ?_|(refine hQ _ _ _ rfl ?_;clear hQ hR hE hM)|(refine hR _ _ (hQ _ _ _ rfl ?_);clear hQ hR hE hM)|(refine zaf ?_ ?_;focus first|omega|(refine zad ?_;(refine no_implicit_lambda% (st ?_);try with_reducible exact True.intro);done)))<;>try simp -dsimp -implicitDefEqProofs (disch:=omega) only[go_sem,reduceIte,↓reduceIte,Nat.reduceEqDiff,Nat.reduceLT,Nat.reduceLeDiff,Nat.reduceAdd,Nat.reduceSub,Nat.reduceMul,Int.reduceToNat,Int.reduceLT,Int.reduceLE,Int.reduceEq,Int.reduceNeg,Int.reduceNe,reduceCtorEq,h2]))
   all_goals first|(exfalso;contradiction)|(rw[←hg];done)|(rw[←hg];rfl)|trace_state
  ·rw[decide_eq_false h1]at hg
   have h2:decide ((nth s.tracks k).id=n)=false:=decide_eq_false h1
   repeat' (first|refine zaa [0,1,2,4,5,10,20] fun K hK=>?_|refine AWp.block ?_|(refine hK.go ?_;clear hK K)|refine Cont.go (by assumption) ?_|(refine cnd2 rfl (fun h=>?_) (fun h=>?_)<;>(try first|exact h.elim|obtain rfl:(_:Bool)=true:=h|obtain rfl:(_:Bool)=false:=h)<;>first|(exfalso;omega)|skip)|((first|refine AWp.reg hE hM ?_|refine AWp.regd hE hM ?_|refine AWp.ret ?_|refine AWp.skip ?_|refine AWp.exit ?_|(refine pk2 (fun h=>?_) (fun h=>?_)<;>(try first|exact h.elim|obtain rfl:(_:Bool)=true:=h|obtain rfl:(_:Bool)=false:=h))|refine zab (fun h=>?_) ?_|(refine hQ _ _ _ rfl ?_;clear hQ hR hE hM)|(refine hR _ _ (hQ _ _ _ rfl ?_);clear hQ hR hE hM)|(refine zaf ?_ ?_;focus first|omega|(refine zad ?_;(refine no_implicit_lambda% (st ?_);try with_reducible exact True.intro);done)))<;>try simp -dsimp -implicitDefEqProofs (disch:=omega) only[go_sem,reduceIte,↓reduceIte,Nat.reduceEqDiff,Nat.reduceLT,Nat.reduceLeDiff,Nat.reduceAdd,Nat.reduceSub,Nat.reduceMul,Int.reduceToNat,Int.reduceLT,Int.reduceLE,Int.reduceEq,Int.reduceNeg,Int.reduceNe,reduceCtorEq,h2]))
   all_goals first|(exfalso;contradiction)|exact ⟨k+1,by omega,⟨by omega,hg⟩,by omega⟩|trace_state
 ·rw[List.drop_eq_nil_of_le hge,List.find?_nil]at hg
  repeat' (first|refine zaa [0,1,2,4,5,10,20] fun K hK=>?_|refine AWp.block ?_|(refine hK.go ?_;clear hK K)|refine Cont.go (by assumption) ?_|(refine cnd2 rfl (fun h=>?_) (fun h=>?_)<;>(try first|exact h.elim|obtain rfl:(_:Bool)=true:=h|obtain rfl:(_:Bool)=false:=h)<;>first|(exfalso;omega)|skip)|((first|refine AWp.reg hE hM ?_|refine AWp.regd hE hM ?_|refine AWp.ret ?_|refine AWp.skip ?_|refine AWp.exit ?_|(refine pk2 (fun h=>?_) (fun h=>?_)<;>(try first|exact h.elim|obtain rfl:(_:Bool)=true:=h|obtain rfl:(_:Bool)=false:=h))|refine zab (fun h=>?_) ?_|(refine hQ _ _ _ rfl ?_;clear hQ hR hE hM)|(refine hR _ _ (hQ _ _ _ rfl ?_);clear hQ hR hE hM)|(refine zaf ?_ ?_;focus first|omega|(refine zad ?_;(refine no_implicit_lambda% (st ?_);try with_reducible exact True.intro);done)))<;>try (refine no_implicit_lambda% (st ?_);try with_reducible exact True.intro)))
  all_goals first|(rw[←hg];done)|(rw[←hg];rfl)|trace_state
theorem zop {l:List Int} {k:Nat} (h:k<l.length):(l.map ze6).flatten[k]?=some (.n (nth l k)):=by
 have:=ziU (c:=ze6) (l:=l) (k:=k) (i:=0) h (by omega)
 rw[Nat.mul_one,Nat.add_zero]at this
 rw[this]
 rfl
theorem lockErrors_pc (hH:HasAll P inv) (hI:HasIds P inv) (p:Pln) (hp:Pln.ok p) (s:State) (hs:s.ok) (n:Int):PC P inv 327 [.agg p.c,.agg s.c,.n n] (·=.b true):=by
 have c0:=zif hH hI
 have c1:=zcq hH p
 have c2:=zdE hH s
 cases g1:zfa p with
 |true =>
  rw[g1]at c1
  refine zae (F:=cd327) (hH.has _ _ rfl) (Nat.le_of_ble_eq_true rfl) fun w0 M Q hM hQ hR=>?_;have hE:=hH.callable;dsimp only[cd327,qm,ql,qf,qi,qb,qc,qp,qv,qN,qT,qF,qt]at hQ ⊢
  repeat' (first|refine zaa [0,1,2,3,4,6,7,8,9,10,11,12,13,14,15,16,17,18,19,20,37,47,57,64,77,83,87,97,101,103,114,115,125,132,149,181,184] fun K hK=>?_|refine AWp.block ?_|(refine hK.go ?_;clear hK K)|refine Cont.go (by assumption) ?_|(refine cnd2 rfl (fun h=>?_) (fun h=>?_)<;>(try first|exact h.elim|obtain rfl:(_:Bool)=true:=h|obtain rfl:(_:Bool)=false:=h)<;>first|(exfalso;omega)|skip)|((first|refine AWp.reg hE hM ?_|refine AWp.regd hE hM ?_|refine AWp.ret ?_|refine AWp.skip ?_|refine AWp.exit ?_|(refine pk2 (fun h=>?_) (fun h=>?_)<;>(try first|exact h.elim|obtain rfl:(_:Bool)=true:=h|obtain rfl:(_:Bool)=false:=h))|refine zab (fun h=>?_) ?_|refine zac hM (c0) ?_|refine zac hM (c1) ?_|(refine hQ _ _ _ rfl ?_;clear hQ hR hE hM)|(refine hR _ _ (hQ _ _ _ rfl ?_);clear hQ hR hE hM)|(refine zaf ?_ ?_;focus first|omega|(refine zad ?_;(refine no_implicit_lambda% (st ?_);try with_reducible exact True.intro);done)))<;>try (refine no_implicit_lambda% (st ?_);try with_reducible exact True.intro)))
 |false =>
  rw[g1]at c1
  cases g2:zf7 s with
  |true =>
   rw[g2]at c2
   refine zae (F:=cd327) (hH.has _ _ rfl) (Nat.le_of_ble_eq_true rfl) fun w0 M Q hM hQ hR=>?_;have hE:=hH.callable;dsimp only[cd327,qm,ql,qf,qi,qb,qc,qp,qv,qN,qT,qF,qt]at hQ ⊢
   repeat' (first|refine zaa [0,1,2,3,4,6,7,8,9,10,11,12,13,14,15,16,17,18,19,20,37,47,57,64,77,83,87,97,101,103,114,115,125,132,149,181,184] fun K hK=>?_|refine AWp.block ?_|(refine hK.go ?_;clear hK K)|refine Cont.go (by assumption) ?_|(refine cnd2 rfl (fun h=>?_) (fun h=>?_)<;>(try first|exact h.elim|obtain rfl:(_:Bool)=true:=h|obtain rfl:(_:Bool)=false:=h)<;>first|(exfalso;omega)|skip)|((first|refine AWp.reg hE hM ?_|refine AWp.regd hE hM ?_|refine AWp.ret ?_|refine AWp.skip ?_|refine AWp.exit ?_|(refine pk2 (fun h=>?_) (fun h=>?_)<;>(try first|exact h.elim|obtain rfl:(_:Bool)=true:=h|obtain rfl:(_:Bool)=false:=h))|refine zab (fun h=>?_) ?_|refine zac hM (c0) ?_|refine zac hM (c1) ?_|refine zac hM (c2) ?_|(refine hQ _ _ _ rfl ?_;clear hQ hR hE hM)|(refine hR _ _ (hQ _ _ _ rfl ?_);clear hQ hR hE hM)|(refine zaf ?_ ?_;focus first|omega|(refine zad ?_;(refine no_implicit_lambda% (st ?_);try with_reducible exact True.intro);done)))<;>try (refine no_implicit_lambda% (st ?_);try with_reducible exact True.intro)))
  |false =>
   rw[g2]at c2
   have sp:=zno hp g1
   have ss:=zjl g2
   have c3:=zb5 hH hI p sp s ss
   by_cases hst:zan p s=0
   ·rw[hst]at c3
    have c4:=zg6 hH hI p sp s ss n
    have hl1:=ss.1
    have hl2:=ss.2.1
    have hl3:=ss.2.2
    rcases zbb Lock.id n s.locks with ⟨_,hno⟩|⟨i0,hi0,_,hid⟩
    ·rw[lkC_no hst hno]at c4
     refine zae (F:=cd327) (hH.has _ _ rfl) (Nat.le_of_ble_eq_true rfl) fun w0 M Q hM hQ hR=>?_;have hE:=hH.callable;dsimp only[cd327,qm,ql,qf,qi,qb,qc,qp,qv,qN,qT,qF,qt]at hQ ⊢
     repeat' (first|refine zaa [0,1,2,3,4,6,7,8,9,10,11,12,13,14,15,16,17,18,19,20,37,47,57,64,77,83,87,97,101,103,114,115,125,132,149,181,184] fun K hK=>?_|refine AWp.block ?_|(refine hK.go ?_;clear hK K)|refine Cont.go (by assumption) ?_|(refine cnd2 rfl (fun h=>?_) (fun h=>?_)<;>(try first|exact h.elim|obtain rfl:(_:Bool)=true:=h|obtain rfl:(_:Bool)=false:=h)<;>first|(exfalso;omega)|skip)|((first|refine AWp.reg hE hM ?_|refine AWp.regd hE hM ?_|refine AWp.ret ?_|refine AWp.skip ?_|refine AWp.exit ?_|(refine pk2 (fun h=>?_) (fun h=>?_)<;>(try first|exact h.elim|obtain rfl:(_:Bool)=true:=h|obtain rfl:(_:Bool)=false:=h))|refine zab (fun h=>?_) ?_|refine zac hM (c0) ?_|refine zac hM (c1) ?_|refine zac hM (c2) ?_|refine zac hM (c3) ?_|refine zac hM (c4) ?_|(refine hQ _ _ _ rfl ?_;clear hQ hR hE hM)|(refine hR _ _ (hQ _ _ _ rfl ?_);clear hQ hR hE hM)|(refine zaf ?_ ?_;focus first|omega|(refine zad ?_;(refine no_implicit_lambda% (st ?_);try with_reducible exact True.intro);done)))<;>try (refine no_implicit_lambda% (st ?_);try with_reducible exact True.intro)))
     all_goals first|(exfalso;contradiction)|skip
     refine zah (ι:=Nat) [2,3,4,6,7,8,9] (fun zz=>[(9,.n zz)]) (fun zz=>[]) (fun zz=>zz≤s.locks.length) (fun zz=>s.locks.length-zz) (0) (Nat.zero_le _) (by (try dsimp only);(refine no_implicit_lambda% (st ?_);try with_reducible exact True.intro)<;>first|omega|(simp;done)) (by (try dsimp only);(refine no_implicit_lambda% (st ?_);try with_reducible exact True.intro)<;>first|omega|(simp;done)) ?_;rintro i hk;(try dsimp only at hk ⊢);rcases Nat.lt_or_ge i s.locks.length with hlt|hge
     ·have h2:decide ((nth s.locks i).id=n)=false:=decide_eq_false (hno _ (zal hlt))
      repeat' (first|refine zaa [0,1,2,3,4,6,7,8,9,10,11,12,13,14,15,16,17,18,19,20,37,47,57,64,77,83,87,97,101,103,114,115,125,132,149,181,184] fun K hK=>?_|refine AWp.block ?_|(refine hK.go ?_;clear hK K)|refine Cont.go (by assumption) ?_|(refine cnd2 rfl (fun h=>?_) (fun h=>?_)<;>(try first|exact h.elim|obtain rfl:(_:Bool)=true:=h|obtain rfl:(_:Bool)=false:=h)<;>first|(exfalso;omega)|skip)|((first|refine AWp.reg hE hM ?_|refine AWp.regd hE hM ?_|refine AWp.ret ?_|refine AWp.skip ?_|refine AWp.exit ?_|(refine pk2 (fun h=>?_) (fun h=>?_)<;>(try first|exact h.elim|obtain rfl:(_:Bool)=true:=h|obtain rfl:(_:Bool)=false:=h))|refine zab (fun h=>?_) ?_|(refine hQ _ _ _ rfl ?_;clear hQ hR hE hM)|(refine hR _ _ (hQ _ _ _ rfl ?_);clear hQ hR hE hM)|(refine zaf ?_ ?_;focus first|omega|(refine zad ?_;(refine no_implicit_lambda% (st ?_);try with_reducible exact True.intro);done)))<;>try simp -dsimp -implicitDefEqProofs (disch:=omega) only[go_sem,reduceIte,↓reduceIte,Nat.reduceEqDiff,Nat.reduceLT,Nat.reduceLeDiff,Nat.reduceAdd,Nat.reduceSub,Nat.reduceMul,Int.reduceToNat,Int.reduceLT,Int.reduceLE,Int.reduceEq,Int.reduceNeg,Int.reduceNe,reduceCtorEq,h2]))
      all_goals first|(exfalso;contradiction)|exact ⟨i+1,by omega,by omega,by omega⟩|trace_state
     ·repeat' (first|refine zaa [0,1,2,3,4,6,7,8,9,10,11,12,13,14,15,16,17,18,19,20,37,47,57,64,77,83,87,97,101,103,114,115,125,132,149,181,184] fun K hK=>?_|refine AWp.block ?_|(refine hK.go ?_;clear hK K)|refine Cont.go (by assumption) ?_|(refine cnd2 rfl (fun h=>?_) (fun h=>?_)<;>(try first|exact h.elim|obtain rfl:(_:Bool)=true:=h|obtain rfl:(_:Bool)=false:=h)<;>first|(exfalso;omega)|skip)|((first|refine AWp.reg hE hM ?_|refine AWp.regd hE hM ?_|refine AWp.ret ?_|refine AWp.skip ?_|refine AWp.exit ?_|(refine pk2 (fun h=>?_) (fun h=>?_)<;>(try first|exact h.elim|obtain rfl:(_:Bool)=true:=h|obtain rfl:(_:Bool)=false:=h))|refine zab (fun h=>?_) ?_|(refine hQ _ _ _ rfl ?_;clear hQ hR hE hM)|(refine hR _ _ (hQ _ _ _ rfl ?_);clear hQ hR hE hM)|(refine zaf ?_ ?_;focus first|omega|(refine zad ?_;(refine no_implicit_lambda% (st ?_);try with_reducible exact True.intro);done)))<;>try (refine no_implicit_lambda% (st ?_);try with_reducible exact True.intro)))
      all_goals first|rfl|exact hF|(exfalso;contradiction)|trace_state
    ·have hF:=leF_true hst hi0 hid
     have ho:=zaA hst
     have hpa:=(zaj hst).2.1
     have hpl:=zaB hpa
     have hr:nth p.routes i0∈p.routes:=zal (by omega)
     have hln:=zeA ho hr
     have hwl:=zcY ho hr
     have hwp:=zcC ((zbo (zaj hst).1).2.1 _ hr)
     have c5:=zjd hH hI p sp (nth s.locks i0).id
     rw[ofW_at hst hi0,hid]at c5
     dsimp only at c5
     have hone:∀ i,i<s.locks.length→(nth s.locks i).id=n→i=i0:=fun i hi e=>zg7 hst hi hi0 (e.trans hid.symm)
     have hS:∀ m∈(zak p (nth p.routes i0)).1.path++(zak p (nth p.routes i0)).1.over,PC P inv 67 [.agg p.c,.agg s.c,.n m] (·=.tup [.n (nth (zaw p s).1 m.toNat),.n 0]):=fun m hm=>by
      have h1:=zjP hH hI p sp s ss m
      unfold zhd at h1
      rw[hwp.1,hwp.2.1]at hm
      obtain ⟨q,hq,e⟩:=(zdZ ho hr).1 m hm
      rw[if_pos hst,if_pos (show zjN p m=true from List.any_eq_true.2 ⟨q,hq,by simpa using e⟩)]at h1
      exact h1
     have hA:∀ m,m<s.switches.length→PC P inv 77 [.agg p.c,.agg s.c,.n (nth s.switches m).id] (·=.tup [.n (nth (zaw p s).2.1 (nth s.switches m).id.toNat),.n 0]):=fun m hm=>by
      have h1:=zee hH hI p sp s ss (nth s.switches m).id
      unfold zcI at h1
      rw[if_pos hst,if_pos (show zcx p (nth s.switches m).id=true by rw[zio hpa hm];exact ze4 (by omega))]at h1
      exact h1
     have hfr:=fun m=>zhg hH s (by omega) m
     have hpo:0<(zak p (nth p.routes i0)).1.path.length:=by rw[hwp.1];omega
     have hplen:=hpl.2.1
     clear hwp hln hr hpl
     generalize (zak p (nth p.routes i0)).1=w at *
     generalize lkC p s n=e at *
     generalize hH1:(fun m:Int=>nth (zaw p s).1 m.toNat)=Hh at hF
     generalize hA1:(fun m:Int=>nth (zaw p s).2.1 m.toNat)=Aa at hF
     replace hS:∀ m∈w.path++w.over,PC P inv 67 [.agg p.c,.agg s.c,.n m] (·=.tup [.n (Hh m),.n 0]):=by subst hH1;exact hS
     replace hA:∀ m,m<s.switches.length→PC P inv 77 [.agg p.c,.agg s.c,.n (nth s.switches m).id] (·=.tup [.n (Aa (nth s.switches m).id),.n 0]):=by subst hA1;exact hA
     clear hH1 hA1 ho hpa hst
     have f0:(w.path.map ze6).flatten++(w.over.map ze6).flatten=((w.path++w.over).map ze6).flatten:=by simp
     have f1:w.path.length+w.over.length=(w.path++w.over).length:=by simp
     unfold leF at hF
     generalize w.path++w.over=all at *
     refine zae (F:=cd327) (hH.has _ _ rfl) (Nat.le_of_ble_eq_true rfl) fun w0 M Q hM hQ hR=>?_;have hE:=hH.callable;dsimp only[cd327,qm,ql,qf,qi,qb,qc,qp,qv,qN,qT,qF,qt]at hQ ⊢
     skip
     repeat' (first|refine zaa [0,1,2,3,4,6,7,8,9,10,11,12,13,14,15,16,17,18,19,20,37,47,57,64,77,83,87,97,101,103,114,115,125,132,149,181,184] fun K hK=>?_|refine AWp.block ?_|(refine hK.go ?_;clear hK K)|refine Cont.go (by assumption) ?_|(refine zfJ rfl (fun h0 h=>?_) (fun h0 h=>?_)<;>first|(exfalso;omega)|(first|exact h.elim|(((first|simp only[h0,cond_true,cond_false,Bool.true_or,Bool.or_true,Bool.false_or,Bool.or_false,Bool.true_and,Bool.and_true,Bool.false_and,Bool.and_false,Bool.not_true,Bool.not_false,Bool.not_not,reduceCtorEq,decide_true,decide_false,eq_self,Int.reduceEq,Nat.reduceEqDiff]at hF|skip)<;>(clear h0;try first|obtain rfl:(_:Bool)=true:=h|obtain rfl:(_:Bool)=false:=h));(try simp only[cond_true,cond_false,Bool.true_or,Bool.or_true,Bool.false_or,Bool.or_false,Bool.true_and,Bool.and_true,Bool.false_and,Bool.and_false,Bool.not_true,Bool.not_false,Bool.not_not,reduceCtorEq,decide_true,decide_false,eq_self,Int.reduceEq,Nat.reduceEqDiff]at hF))))|((first|refine AWp.reg hE hM ?_|refine AWp.regd hE hM ?_|refine AWp.ret ?_|refine AWp.skip ?_|refine AWp.exit ?_|(refine pk3 (fun h0 h=>?_) (fun h0 h=>?_)<;>(first|exact h.elim|(((first|simp only[h0,cond_true,cond_false,Bool.true_or,Bool.or_true,Bool.false_or,Bool.or_false,Bool.true_and,Bool.and_true,Bool.false_and,Bool.and_false,Bool.not_true,Bool.not_false,Bool.not_not,reduceCtorEq,decide_true,decide_false,eq_self,Int.reduceEq,Nat.reduceEqDiff]at hF|skip)<;>(clear h0;try first|obtain rfl:(_:Bool)=true:=h|obtain rfl:(_:Bool)=false:=h));(try simp only[cond_true,cond_false,Bool.true_or,Bool.or_true,Bool.false_or,Bool.or_false,Bool.true_and,Bool.and_true,Bool.false_and,Bool.and_false,Bool.not_true,Bool.not_false,Bool.not_not,reduceCtorEq,decide_true,decide_false,eq_self,Int.reduceEq,Nat.reduceEqDiff]at hF))))|refine zab (fun h=>?_) ?_|refine zac hM (c0) ?_|refine zac hM (c1) ?_|refine zac hM (c2) ?_|refine zac hM (c3) ?_|refine zac hM (c4) ?_|(refine hQ _ _ _ rfl ?_;clear hQ hR hE hM)|(refine hR _ _ (hQ _ _ _ rfl ?_);clear hQ hR hE hM)|(refine zaf ?_ ?_;focus first|omega|(refine zad ?_;(refine no_implicit_lambda% (st ?_);try with_reducible exact True.intro);done)))<;>try (refine no_implicit_lambda% (st ?_);try with_reducible exact True.intro)))
     all_goals first|(exfalso;contradiction)|skip
     refine zbH hF fun Bd Ed hBd hEd hF=>?_;refine zah (ι:=Nat) [2,3,4,6,7,8,9] (fun zz=>[(9,.n zz)]) (fun zz=>[]) (fun zz=>zz≤s.locks.length∧(zbI Bd Ed (s.locks.length-zz) zz ()=true)) (fun zz=>s.locks.length-zz) (0) ⟨Nat.zero_le _,(by first|rfl|assumption|omega|(simp;done)|(simp;omega)|grind)⟩ (by (try dsimp only);(refine no_implicit_lambda% (st ?_);try with_reducible exact True.intro)<;>first|omega|(simp;done)) (by (try dsimp only);(refine no_implicit_lambda% (st ?_);try with_reducible exact True.intro)<;>first|omega|(simp;done)) ?_;rintro i ⟨hk,hF⟩;(try dsimp only at hk hF ⊢);rcases Nat.lt_or_ge i s.locks.length with hlt|hge
     ·rw[zbc hBd hlt]at hF;(try dsimp only at hF)
      by_cases hid2:(nth s.locks i).id=n
      ·obtain rfl:=hone i hlt hid2
       repeat' (first|refine zaa [0,1,2,3,4,6,7,8,9,10,11,12,13,14,15,16,17,18,19,20,37,47,57,64,77,83,87,97,101,103,114,115,125,132,149,181,184] fun K hK=>?_|refine AWp.block ?_|(refine hK.go ?_;clear hK K)|refine Cont.go (by assumption) ?_|(refine zfJ rfl (fun h0 h=>?_) (fun h0 h=>?_)<;>first|(exfalso;omega)|(first|exact h.elim|(((first|simp only[h0,cond_true,cond_false,Bool.true_or,Bool.or_true,Bool.false_or,Bool.or_false,Bool.true_and,Bool.and_true,Bool.false_and,Bool.and_false,Bool.not_true,Bool.not_false,Bool.not_not,reduceCtorEq,decide_true,decide_false,eq_self,Int.reduceEq,Nat.reduceEqDiff]at hF|skip)<;>(clear h0;try first|obtain rfl:(_:Bool)=true:=h|obtain rfl:(_:Bool)=false:=h));(try simp only[cond_true,cond_false,Bool.true_or,Bool.or_true,Bool.false_or,Bool.or_false,Bool.true_and,Bool.and_true,Bool.false_and,Bool.and_false,Bool.not_true,Bool.not_false,Bool.not_not,reduceCtorEq,decide_true,decide_false,eq_self,Int.reduceEq,Nat.reduceEqDiff]at hF))))|((first|refine AWp.reg hE hM ?_|refine AWp.regd hE hM ?_|refine AWp.ret ?_|refine AWp.skip ?_|refine AWp.exit ?_|(refine pk3 (fun h0 h=>?_) (fun h0 h=>?_)<;>(first|exact h.elim|(((first|simp only[h0,cond_true,cond_false,Bool.true_or,Bool.or_true,Bool.false_or,Bool.or_false,Bool.true_and,Bool.and_true,Bool.false_and,Bool.and_false,Bool.not_true,Bool.not_false,Bool.not_not,reduceCtorEq,decide_true,decide_false,eq_self,Int.reduceEq,Nat.reduceEqDiff]at hF|skip)<;>(clear h0;try first|obtain rfl:(_:Bool)=true:=h|obtain rfl:(_:Bool)=false:=h));(try simp only[cond_true,cond_false,Bool.true_or,Bool.or_true,Bool.false_or,Bool.or_false,Bool.true_and,Bool.and_true,Bool.false_and,Bool.and_false,Bool.not_true,Bool.not_false,Bool.not_not,reduceCtorEq,decide_true,decide_false,eq_self,Int.reduceEq,Nat.reduceEqDiff]at hF))))|refine zab (fun h=>?_) ?_|refine zac hM (c5) ?_|(refine hQ _ _ _ rfl ?_;clear hQ hR hE hM)|(refine hR _ _ (hQ _ _ _ rfl ?_);clear hQ hR hE hM)|(refine zaf ?_ ?_;focus first|omega|(refine zad ?_;(refine no_implicit_lambda% (st ?_);try with_reducible exact True.intro);done)))<;>try simp -dsimp -implicitDefEqProofs (disch:=omega) only[go_sem,reduceIte,↓reduceIte,Nat.reduceEqDiff,Nat.reduceLT,Nat.reduceLeDiff,Nat.reduceAdd,Nat.reduceSub,Nat.reduceMul,Int.reduceToNat,Int.reduceLT,Int.reduceLE,Int.reduceEq,Int.reduceNeg,Int.reduceNe,reduceCtorEq,f0,f1]))
       all_goals first|rfl|exact hF|(exfalso;contradiction)|skip
       refine zbH hF fun Bd Ed hBd hEd hF=>?_;refine zah (ι:=Nat) [2,3,4,6,7,8,9,10,12,13] (fun zz=>[(13,.n zz)]) (fun zz=>[]) (fun zz=>zz≤all.length∧(zbI Bd Ed (all.length-zz) zz ()=true)) (fun zz=>all.length-zz) (0) ⟨Nat.zero_le _,(by first|rfl|assumption|omega|(simp;done)|(simp;omega)|grind)⟩ (by (try dsimp only);(refine no_implicit_lambda% (st ?_);try with_reducible exact True.intro)<;>first|omega|(simp;done)) (by (try dsimp only);(refine no_implicit_lambda% (st ?_);try with_reducible exact True.intro)<;>first|omega|(simp;done)) ?_;rintro k ⟨hk,hF⟩;(try dsimp only at hk hF ⊢);rcases Nat.lt_or_ge k all.length with hlt|hge
       ·rw[zbc hBd hlt]at hF;(try dsimp only at hF)
        have d1:=hS _ (zal (show k<all.length by assumption))
        have d2:=hfr (nth all k)
        have d0:=zop (l:=all) (k:=k) (by assumption)
        repeat' (first|refine zaa [0,1,2,3,4,6,7,8,9,10,11,12,13,14,15,16,17,18,19,20,37,47,57,64,77,83,87,97,101,103,114,115,125,132,149,181,184] fun K hK=>?_|refine AWp.block ?_|(refine hK.go ?_;clear hK K)|refine Cont.go (by assumption) ?_|(refine zfJ rfl (fun h0 h=>?_) (fun h0 h=>?_)<;>first|(exfalso;omega)|(first|exact h.elim|(((first|simp only[h0,cond_true,cond_false,Bool.true_or,Bool.or_true,Bool.false_or,Bool.or_false,Bool.true_and,Bool.and_true,Bool.false_and,Bool.and_false,Bool.not_true,Bool.not_false,Bool.not_not,reduceCtorEq,decide_true,decide_false,eq_self,Int.reduceEq,Nat.reduceEqDiff]at hF|skip)<;>(clear h0;try first|obtain rfl:(_:Bool)=true:=h|obtain rfl:(_:Bool)=false:=h));(try simp only[cond_true,cond_false,Bool.true_or,Bool.or_true,Bool.false_or,Bool.or_false,Bool.true_and,Bool.and_true,Bool.false_and,Bool.and_false,Bool.not_true,Bool.not_false,Bool.not_not,reduceCtorEq,decide_true,decide_false,eq_self,Int.reduceEq,Nat.reduceEqDiff]at hF))))|((first|refine AWp.reg hE hM ?_|refine AWp.regd hE hM ?_|refine AWp.ret ?_|refine AWp.skip ?_|refine AWp.exit ?_|(refine pk3 (fun h0 h=>?_) (fun h0 h=>?_)<;>(first|exact h.elim|(((first|simp only[h0,cond_true,cond_false,Bool.true_or,Bool.or_true,Bool.false_or,Bool.or_false,Bool.true_and,Bool.and_true,Bool.false_and,Bool.and_false,Bool.not_true,Bool.not_false,Bool.not_not,reduceCtorEq,decide_true,decide_false,eq_self,Int.reduceEq,Nat.reduceEqDiff]at hF|skip)<;>(clear h0;try first|obtain rfl:(_:Bool)=true:=h|obtain rfl:(_:Bool)=false:=h));(try simp only[cond_true,cond_false,Bool.true_or,Bool.or_true,Bool.false_or,Bool.or_false,Bool.true_and,Bool.and_true,Bool.false_and,Bool.and_false,Bool.not_true,Bool.not_false,Bool.not_not,reduceCtorEq,decide_true,decide_false,eq_self,Int.reduceEq,Nat.reduceEqDiff]at hF))))|refine zab (fun h=>?_) ?_|refine zac hM (d1) ?_|refine zac hM (d2) ?_|(refine hQ _ _ _ rfl ?_;clear hQ hR hE hM)|(refine hR _ _ (hQ _ _ _ rfl ?_);clear hQ hR hE hM)|(refine zaf ?_ ?_;focus first|omega|(refine zad ?_;(refine no_implicit_lambda% (st ?_);try with_reducible exact True.intro);done)))<;>try simp -dsimp -implicitDefEqProofs (disch:=omega) only[go_sem,reduceIte,↓reduceIte,Nat.reduceEqDiff,Nat.reduceLT,Nat.reduceLeDiff,Nat.reduceAdd,Nat.reduceSub,Nat.reduceMul,Int.reduceToNat,Int.reduceLT,Int.reduceLE,Int.reduceEq,Int.reduceNeg,Int.reduceNe,reduceCtorEq,d0]))
        all_goals first|exact hF|(exfalso;contradiction)|(refine ⟨k+1, ?_,⟨?_,hF⟩, ?_⟩<;>(try dsimp only)<;>(first|omega|rfl|(simp;done)|(simp;omega)|((refine no_implicit_lambda% (st ?_);try with_reducible exact True.intro);done)|(simp[List.map_set, *];done)|(simp[List.map_set, *];rfl)|((refine no_implicit_lambda% (st ?_);try with_reducible exact True.intro);simp[List.map_set, *];done)|((try (refine no_implicit_lambda% (st ?_);try with_reducible exact True.intro));(repeat' refine And.intro ?_ ?_)<;>first|omega|rfl|(simp;done)|(simp;omega)|(simp;rfl)|(simp[List.map_set, *];done)|(simp[List.map_set, *];rfl))))
       ·rw[zbG hge,hEd]at hF;(try dsimp only at hF)
        repeat' (first|refine zaa [0,1,2,3,4,6,7,8,9,10,11,12,13,14,15,16,17,18,19,20,37,47,57,64,77,83,87,97,101,103,114,115,125,132,149,181,184] fun K hK=>?_|refine AWp.block ?_|(refine hK.go ?_;clear hK K)|refine Cont.go (by assumption) ?_|(refine zfJ rfl (fun h0 h=>?_) (fun h0 h=>?_)<;>first|(exfalso;omega)|(first|exact h.elim|(((first|simp only[h0,cond_true,cond_false,Bool.true_or,Bool.or_true,Bool.false_or,Bool.or_false,Bool.true_and,Bool.and_true,Bool.false_and,Bool.and_false,Bool.not_true,Bool.not_false,Bool.not_not,reduceCtorEq,decide_true,decide_false,eq_self,Int.reduceEq,Nat.reduceEqDiff]at hF|skip)<;>(clear h0;try first|obtain rfl:(_:Bool)=true:=h|obtain rfl:(_:Bool)=false:=h));(try simp only[cond_true,cond_false,Bool.true_or,Bool.or_true,Bool.false_or,Bool.or_false,Bool.true_and,Bool.and_true,Bool.false_and,Bool.and_false,Bool.not_true,Bool.not_false,Bool.not_not,reduceCtorEq,decide_true,decide_false,eq_self,Int.reduceEq,Nat.reduceEqDiff]at hF))))|((first|refine AWp.reg hE hM ?_|refine AWp.regd hE hM ?_|refine AWp.ret ?_|refine AWp.skip ?_|refine AWp.exit ?_|(refine pk3 (fun h0 h=>?_) (fun h0 h=>?_)<;>(first|exact h.elim|(((first|simp only[h0,cond_true,cond_false,Bool.true_or,Bool.or_true,Bool.false_or,Bool.or_false,Bool.true_and,Bool.and_true,Bool.false_and,Bool.and_false,Bool.not_true,Bool.not_false,Bool.not_not,reduceCtorEq,decide_true,decide_false,eq_self,Int.reduceEq,Nat.reduceEqDiff]at hF|skip)<;>(clear h0;try first|obtain rfl:(_:Bool)=true:=h|obtain rfl:(_:Bool)=false:=h));(try simp only[cond_true,cond_false,Bool.true_or,Bool.or_true,Bool.false_or,Bool.or_false,Bool.true_and,Bool.and_true,Bool.false_and,Bool.and_false,Bool.not_true,Bool.not_false,Bool.not_not,reduceCtorEq,decide_true,decide_false,eq_self,Int.reduceEq,Nat.reduceEqDiff]at hF))))|refine zab (fun h=>?_) ?_|(refine hQ _ _ _ rfl ?_;clear hQ hR hE hM)|(refine hR _ _ (hQ _ _ _ rfl ?_);clear hQ hR hE hM)|(refine zaf ?_ ?_;focus first|omega|(refine zad ?_;(refine no_implicit_lambda% (st ?_);try with_reducible exact True.intro);done)))<;>try (refine no_implicit_lambda% (st ?_);try with_reducible exact True.intro)))
        refine zbH hF fun Bd Ed hBd hEd hF=>?_;refine zah (ι:=Nat) [2,3,4,6,7,8,9,10,16] (fun zz=>[(16,.n zz)]) (fun zz=>[]) (fun zz=>zz≤w.asks.length∧(zbI Bd Ed (w.asks.length-zz) zz ()=true)) (fun zz=>w.asks.length-zz) (0) ⟨Nat.zero_le _,(by first|rfl|assumption|omega|(simp;done)|(simp;omega)|grind)⟩ (by (try dsimp only);(refine no_implicit_lambda% (st ?_);try with_reducible exact True.intro)<;>first|omega|(simp;done)) (by (try dsimp only);(refine no_implicit_lambda% (st ?_);try with_reducible exact True.intro)<;>first|omega|(simp;done)) ?_;rintro a ⟨hk,hF⟩;(try dsimp only at hk hF ⊢);rcases Nat.lt_or_ge a w.asks.length with hlt|hge
        ·rw[zbc hBd hlt]at hF;(try dsimp only at hF)
         repeat' (first|refine zaa [0,1,2,3,4,6,7,8,9,10,11,12,13,14,15,16,17,18,19,20,37,47,57,64,77,83,87,97,101,103,114,115,125,132,149,181,184] fun K hK=>?_|refine AWp.block ?_|(refine hK.go ?_;clear hK K)|refine Cont.go (by assumption) ?_|(refine zfJ rfl (fun h0 h=>?_) (fun h0 h=>?_)<;>first|(exfalso;omega)|(first|exact h.elim|(((first|simp only[h0,cond_true,cond_false,Bool.true_or,Bool.or_true,Bool.false_or,Bool.or_false,Bool.true_and,Bool.and_true,Bool.false_and,Bool.and_false,Bool.not_true,Bool.not_false,Bool.not_not,reduceCtorEq,decide_true,decide_false,eq_self,Int.reduceEq,Nat.reduceEqDiff]at hF|skip)<;>(clear h0;try first|obtain rfl:(_:Bool)=true:=h|obtain rfl:(_:Bool)=false:=h));(try simp only[cond_true,cond_false,Bool.true_or,Bool.or_true,Bool.false_or,Bool.or_false,Bool.true_and,Bool.and_true,Bool.false_and,Bool.and_false,Bool.not_true,Bool.not_false,Bool.not_not,reduceCtorEq,decide_true,decide_false,eq_self,Int.reduceEq,Nat.reduceEqDiff]at hF))))|((first|refine AWp.reg hE hM ?_|refine AWp.regd hE hM ?_|refine AWp.ret ?_|refine AWp.skip ?_|refine AWp.exit ?_|(refine pk3 (fun h0 h=>?_) (fun h0 h=>?_)<;>(first|exact h.elim|(((first|simp only[h0,cond_true,cond_false,Bool.true_or,Bool.or_true,Bool.false_or,Bool.or_false,Bool.true_and,Bool.and_true,Bool.false_and,Bool.and_false,Bool.not_true,Bool.not_false,Bool.not_not,reduceCtorEq,decide_true,decide_false,eq_self,Int.reduceEq,Nat.reduceEqDiff]at hF|skip)<;>(clear h0;try first|obtain rfl:(_:Bool)=true:=h|obtain rfl:(_:Bool)=false:=h));(try simp only[cond_true,cond_false,Bool.true_or,Bool.or_true,Bool.false_or,Bool.or_false,Bool.true_and,Bool.and_true,Bool.false_and,Bool.and_false,Bool.not_true,Bool.not_false,Bool.not_not,reduceCtorEq,decide_true,decide_false,eq_self,Int.reduceEq,Nat.reduceEqDiff]at hF))))|refine zab (fun h=>?_) ?_|(refine hQ _ _ _ rfl ?_;clear hQ hR hE hM)|(refine hR _ _ (hQ _ _ _ rfl ?_);clear hQ hR hE hM)|(refine zaf ?_ ?_;focus first|omega|(refine zad ?_;(refine no_implicit_lambda% (st ?_);try with_reducible exact True.intro);done)))<;>try (refine no_implicit_lambda% (st ?_);try with_reducible exact True.intro)))
         refine zbH hF fun Bd Ed hBd hEd hF=>?_;refine zah (ι:=Nat) [2,3,4,6,7,8,9,10,16,17] (fun zz=>[(17,.n zz)]) (fun zz=>[]) (fun zz=>zz≤s.switches.length∧(zbI Bd Ed (s.switches.length-zz) zz ()=true)) (fun zz=>s.switches.length-zz) (0) ⟨Nat.zero_le _,(by first|rfl|assumption|omega|(simp;done)|(simp;omega)|grind)⟩ (by (try dsimp only);(refine no_implicit_lambda% (st ?_);try with_reducible exact True.intro)<;>first|omega|(simp;done)) (by (try dsimp only);(refine no_implicit_lambda% (st ?_);try with_reducible exact True.intro)<;>first|omega|(simp;done)) ?_;rintro m ⟨hk,hF⟩;(try dsimp only at hk hF ⊢);rcases Nat.lt_or_ge m s.switches.length with hlt|hge
         ·rw[zbc hBd hlt]at hF;(try dsimp only at hF)
          have d3:=hA m (by assumption)
          have d4:=hfr (nth p.points m).sec
          repeat' (first|refine zaa [0,1,2,3,4,6,7,8,9,10,11,12,13,14,15,16,17,18,19,20,37,47,57,64,77,83,87,97,101,103,114,115,125,132,149,181,184] fun K hK=>?_|refine AWp.block ?_|(refine hK.go ?_;clear hK K)|refine Cont.go (by assumption) ?_|(refine zfJ rfl (fun h0 h=>?_) (fun h0 h=>?_)<;>first|(exfalso;omega)|(first|exact h.elim|(((first|simp only[h0,cond_true,cond_false,Bool.true_or,Bool.or_true,Bool.false_or,Bool.or_false,Bool.true_and,Bool.and_true,Bool.false_and,Bool.and_false,Bool.not_true,Bool.not_false,Bool.not_not,reduceCtorEq,decide_true,decide_false,eq_self,Int.reduceEq,Nat.reduceEqDiff]at hF|skip)<;>(clear h0;try first|obtain rfl:(_:Bool)=true:=h|obtain rfl:(_:Bool)=false:=h));(try simp only[cond_true,cond_false,Bool.true_or,Bool.or_true,Bool.false_or,Bool.or_false,Bool.true_and,Bool.and_true,Bool.false_and,Bool.and_false,Bool.not_true,Bool.not_false,Bool.not_not,reduceCtorEq,decide_true,decide_false,eq_self,Int.reduceEq,Nat.reduceEqDiff]at hF))))|((first|refine AWp.reg hE hM ?_|refine AWp.regd hE hM ?_|refine AWp.ret ?_|refine AWp.skip ?_|refine AWp.exit ?_|(refine pk3 (fun h0 h=>?_) (fun h0 h=>?_)<;>(first|exact h.elim|(((first|simp only[h0,cond_true,cond_false,Bool.true_or,Bool.or_true,Bool.false_or,Bool.or_false,Bool.true_and,Bool.and_true,Bool.false_and,Bool.and_false,Bool.not_true,Bool.not_false,Bool.not_not,reduceCtorEq,decide_true,decide_false,eq_self,Int.reduceEq,Nat.reduceEqDiff]at hF|skip)<;>(clear h0;try first|obtain rfl:(_:Bool)=true:=h|obtain rfl:(_:Bool)=false:=h));(try simp only[cond_true,cond_false,Bool.true_or,Bool.or_true,Bool.false_or,Bool.or_false,Bool.true_and,Bool.and_true,Bool.false_and,Bool.and_false,Bool.not_true,Bool.not_false,Bool.not_not,reduceCtorEq,decide_true,decide_false,eq_self,Int.reduceEq,Nat.reduceEqDiff]at hF))))|refine zab (fun h=>?_) ?_|refine zac hM (d3) ?_|refine zac hM (d4) ?_|(refine hQ _ _ _ rfl ?_;clear hQ hR hE hM)|(refine hR _ _ (hQ _ _ _ rfl ?_);clear hQ hR hE hM)|(refine zaf ?_ ?_;focus first|omega|(refine zad ?_;(refine no_implicit_lambda% (st ?_);try with_reducible exact True.intro);done)))<;>try (refine no_implicit_lambda% (st ?_);try with_reducible exact True.intro)))
          all_goals first|exact hF|(exfalso;contradiction)|(refine ⟨m+1, ?_,⟨?_,hF⟩, ?_⟩<;>(try dsimp only)<;>(first|omega|rfl|(simp;done)|(simp;omega)|((refine no_implicit_lambda% (st ?_);try with_reducible exact True.intro);done)|(simp[List.map_set, *];done)|(simp[List.map_set, *];rfl)|((refine no_implicit_lambda% (st ?_);try with_reducible exact True.intro);simp[List.map_set, *];done)|((try (refine no_implicit_lambda% (st ?_);try with_reducible exact True.intro));(repeat' refine And.intro ?_ ?_)<;>first|omega|rfl|(simp;done)|(simp;omega)|(simp;rfl)|(simp[List.map_set, *];done)|(simp[List.map_set, *];rfl))))
         ·rw[zbG hge,hEd]at hF;(try dsimp only at hF)
          repeat' (first|refine zaa [0,1,2,3,4,6,7,8,9,10,11,12,13,14,15,16,17,18,19,20,37,47,57,64,77,83,87,97,101,103,114,115,125,132,149,181,184] fun K hK=>?_|refine AWp.block ?_|(refine hK.go ?_;clear hK K)|refine Cont.go (by assumption) ?_|(refine zfJ rfl (fun h0 h=>?_) (fun h0 h=>?_)<;>first|(exfalso;omega)|(first|exact h.elim|(((first|simp only[h0,cond_true,cond_false,Bool.true_or,Bool.or_true,Bool.false_or,Bool.or_false,Bool.true_and,Bool.and_true,Bool.false_and,Bool.and_false,Bool.not_true,Bool.not_false,Bool.not_not,reduceCtorEq,decide_true,decide_false,eq_self,Int.reduceEq,Nat.reduceEqDiff]at hF|skip)<;>(clear h0;try first|obtain rfl:(_:Bool)=true:=h|obtain rfl:(_:Bool)=false:=h));(try simp only[cond_true,cond_false,Bool.true_or,Bool.or_true,Bool.false_or,Bool.or_false,Bool.true_and,Bool.and_true,Bool.false_and,Bool.and_false,Bool.not_true,Bool.not_false,Bool.not_not,reduceCtorEq,decide_true,decide_false,eq_self,Int.reduceEq,Nat.reduceEqDiff]at hF))))|((first|refine AWp.reg hE hM ?_|refine AWp.regd hE hM ?_|refine AWp.ret ?_|refine AWp.skip ?_|refine AWp.exit ?_|(refine pk3 (fun h0 h=>?_) (fun h0 h=>?_)<;>(first|exact h.elim|(((first|simp only[h0,cond_true,cond_false,Bool.true_or,Bool.or_true,Bool.false_or,Bool.or_false,Bool.true_and,Bool.and_true,Bool.false_and,Bool.and_false,Bool.not_true,Bool.not_false,Bool.not_not,reduceCtorEq,decide_true,decide_false,eq_self,Int.reduceEq,Nat.reduceEqDiff]at hF|skip)<;>(clear h0;try first|obtain rfl:(_:Bool)=true:=h|obtain rfl:(_:Bool)=false:=h));(try simp only[cond_true,cond_false,Bool.true_or,Bool.or_true,Bool.false_or,Bool.or_false,Bool.true_and,Bool.and_true,Bool.false_and,Bool.and_false,Bool.not_true,Bool.not_false,Bool.not_not,reduceCtorEq,decide_true,decide_false,eq_self,Int.reduceEq,Nat.reduceEqDiff]at hF))))|refine zab (fun h=>?_) ?_|(refine hQ _ _ _ rfl ?_;clear hQ hR hE hM)|(refine hR _ _ (hQ _ _ _ rfl ?_);clear hQ hR hE hM)|(refine zaf ?_ ?_;focus first|omega|(refine zad ?_;(refine no_implicit_lambda% (st ?_);try with_reducible exact True.intro);done)))<;>try (refine no_implicit_lambda% (st ?_);try with_reducible exact True.intro)))
          all_goals (refine ⟨a+1, ?_,⟨?_,hF⟩, ?_⟩<;>(try dsimp only)<;>(first|omega|rfl|(simp;done)|(simp;omega)|((refine no_implicit_lambda% (st ?_);try with_reducible exact True.intro);done)|(simp[List.map_set, *];done)|(simp[List.map_set, *];rfl)|((refine no_implicit_lambda% (st ?_);try with_reducible exact True.intro);simp[List.map_set, *];done)|((try (refine no_implicit_lambda% (st ?_);try with_reducible exact True.intro));(repeat' refine And.intro ?_ ?_)<;>first|omega|rfl|(simp;done)|(simp;omega)|(simp;rfl)|(simp[List.map_set, *];done)|(simp[List.map_set, *];rfl))))
        ·rw[zbG hge,hEd]at hF;(try dsimp only at hF)
         repeat' (first|refine zaa [0,1,2,3,4,6,7,8,9,10,11,12,13,14,15,16,17,18,19,20,37,47,57,64,77,83,87,97,101,103,114,115,125,132,149,181,184] fun K hK=>?_|refine AWp.block ?_|(refine hK.go ?_;clear hK K)|refine Cont.go (by assumption) ?_|(refine zfJ rfl (fun h0 h=>?_) (fun h0 h=>?_)<;>first|(exfalso;omega)|(first|exact h.elim|(((first|simp only[h0,cond_true,cond_false,Bool.true_or,Bool.or_true,Bool.false_or,Bool.or_false,Bool.true_and,Bool.and_true,Bool.false_and,Bool.and_false,Bool.not_true,Bool.not_false,Bool.not_not,reduceCtorEq,decide_true,decide_false,eq_self,Int.reduceEq,Nat.reduceEqDiff]at hF|skip)<;>(clear h0;try first|obtain rfl:(_:Bool)=true:=h|obtain rfl:(_:Bool)=false:=h));(try simp only[cond_true,cond_false,Bool.true_or,Bool.or_true,Bool.false_or,Bool.or_false,Bool.true_and,Bool.and_true,Bool.false_and,Bool.and_false,Bool.not_true,Bool.not_false,Bool.not_not,reduceCtorEq,decide_true,decide_false,eq_self,Int.reduceEq,Nat.reduceEqDiff]at hF))))|((first|refine AWp.reg hE hM ?_|refine AWp.regd hE hM ?_|refine AWp.ret ?_|refine AWp.skip ?_|refine AWp.exit ?_|(refine pk3 (fun h0 h=>?_) (fun h0 h=>?_)<;>(first|exact h.elim|(((first|simp only[h0,cond_true,cond_false,Bool.true_or,Bool.or_true,Bool.false_or,Bool.or_false,Bool.true_and,Bool.and_true,Bool.false_and,Bool.and_false,Bool.not_true,Bool.not_false,Bool.not_not,reduceCtorEq,decide_true,decide_false,eq_self,Int.reduceEq,Nat.reduceEqDiff]at hF|skip)<;>(clear h0;try first|obtain rfl:(_:Bool)=true:=h|obtain rfl:(_:Bool)=false:=h));(try simp only[cond_true,cond_false,Bool.true_or,Bool.or_true,Bool.false_or,Bool.or_false,Bool.true_and,Bool.and_true,Bool.false_and,Bool.and_false,Bool.not_true,Bool.not_false,Bool.not_not,reduceCtorEq,decide_true,decide_false,eq_self,Int.reduceEq,Nat.reduceEqDiff]at hF))))|refine zab (fun h=>?_) ?_|(refine hQ _ _ _ rfl ?_;clear hQ hR hE hM)|(refine hR _ _ (hQ _ _ _ rfl ?_);clear hQ hR hE hM)|(refine zaf ?_ ?_;focus first|omega|(refine zad ?_;(refine no_implicit_lambda% (st ?_);try with_reducible exact True.intro);done)))<;>try (refine no_implicit_lambda% (st ?_);try with_reducible exact True.intro)))
         all_goals first|rfl|exact hF|(exfalso;contradiction)|trace_state
      ·repeat' (first|refine zaa [0,1,2,3,4,6,7,8,9,10,11,12,13,14,15,16,17,18,19,20,37,47,57,64,77,83,87,97,101,103,114,115,125,132,149,181,184] fun K hK=>?_|refine AWp.block ?_|(refine hK.go ?_;clear hK K)|refine Cont.go (by assumption) ?_|(refine zfJ rfl (fun h0 h=>?_) (fun h0 h=>?_)<;>first|(exfalso;omega)|(first|exact h.elim|(((first|simp only[h0,cond_true,cond_false,Bool.true_or,Bool.or_true,Bool.false_or,Bool.or_false,Bool.true_and,Bool.and_true,Bool.false_and,Bool.and_false,Bool.not_true,Bool.not_false,Bool.not_not,reduceCtorEq,decide_true,decide_false,eq_self,Int.reduceEq,Nat.reduceEqDiff]at hF|skip)<;>(clear h0;try first|obtain rfl:(_:Bool)=true:=h|obtain rfl:(_:Bool)=false:=h));(try simp only[cond_true,cond_false,Bool.true_or,Bool.or_true,Bool.false_or,Bool.or_false,Bool.true_and,Bool.and_true,Bool.false_and,Bool.and_false,Bool.not_true,Bool.not_false,Bool.not_not,reduceCtorEq,decide_true,decide_false,eq_self,Int.reduceEq,Nat.reduceEqDiff]at hF))))|((first|refine AWp.reg hE hM ?_|refine AWp.regd hE hM ?_|refine AWp.ret ?_|refine AWp.skip ?_|refine AWp.exit ?_|(refine pk3 (fun h0 h=>?_) (fun h0 h=>?_)<;>(first|exact h.elim|(((first|simp only[h0,cond_true,cond_false,Bool.true_or,Bool.or_true,Bool.false_or,Bool.or_false,Bool.true_and,Bool.and_true,Bool.false_and,Bool.and_false,Bool.not_true,Bool.not_false,Bool.not_not,reduceCtorEq,decide_true,decide_false,eq_self,Int.reduceEq,Nat.reduceEqDiff]at hF|skip)<;>(clear h0;try first|obtain rfl:(_:Bool)=true:=h|obtain rfl:(_:Bool)=false:=h));(try simp only[cond_true,cond_false,Bool.true_or,Bool.or_true,Bool.false_or,Bool.or_false,Bool.true_and,Bool.and_true,Bool.false_and,Bool.and_false,Bool.not_true,Bool.not_false,Bool.not_not,reduceCtorEq,decide_true,decide_false,eq_self,Int.reduceEq,Nat.reduceEqDiff]at hF))))|refine zab (fun h=>?_) ?_|(refine hQ _ _ _ rfl ?_;clear hQ hR hE hM)|(refine hR _ _ (hQ _ _ _ rfl ?_);clear hQ hR hE hM)|(refine zaf ?_ ?_;focus first|omega|(refine zad ?_;(refine no_implicit_lambda% (st ?_);try with_reducible exact True.intro);done)))<;>try (refine no_implicit_lambda% (st ?_);try with_reducible exact True.intro)))
       all_goals first|(exfalso;contradiction)|exact hF|(refine ⟨i+1, ?_,⟨?_,hF⟩, ?_⟩<;>(try dsimp only)<;>(first|omega|rfl|(simp;done)|(simp;omega)|((refine no_implicit_lambda% (st ?_);try with_reducible exact True.intro);done)|(simp[List.map_set, *];done)|(simp[List.map_set, *];rfl)|((refine no_implicit_lambda% (st ?_);try with_reducible exact True.intro);simp[List.map_set, *];done)|((try (refine no_implicit_lambda% (st ?_);try with_reducible exact True.intro));(repeat' refine And.intro ?_ ?_)<;>first|omega|rfl|(simp;done)|(simp;omega)|(simp;rfl)|(simp[List.map_set, *];done)|(simp[List.map_set, *];rfl))))
     ·rw[zbG hge,hEd]at hF;(try dsimp only at hF)
      repeat' (first|refine zaa [0,1,2,3,4,6,7,8,9,10,11,12,13,14,15,16,17,18,19,20,37,47,57,64,77,83,87,97,101,103,114,115,125,132,149,181,184] fun K hK=>?_|refine AWp.block ?_|(refine hK.go ?_;clear hK K)|refine Cont.go (by assumption) ?_|(refine zfJ rfl (fun h0 h=>?_) (fun h0 h=>?_)<;>first|(exfalso;omega)|(first|exact h.elim|(((first|simp only[h0,cond_true,cond_false,Bool.true_or,Bool.or_true,Bool.false_or,Bool.or_false,Bool.true_and,Bool.and_true,Bool.false_and,Bool.and_false,Bool.not_true,Bool.not_false,Bool.not_not,reduceCtorEq,decide_true,decide_false,eq_self,Int.reduceEq,Nat.reduceEqDiff]at hF|skip)<;>(clear h0;try first|obtain rfl:(_:Bool)=true:=h|obtain rfl:(_:Bool)=false:=h));(try simp only[cond_true,cond_false,Bool.true_or,Bool.or_true,Bool.false_or,Bool.or_false,Bool.true_and,Bool.and_true,Bool.false_and,Bool.and_false,Bool.not_true,Bool.not_false,Bool.not_not,reduceCtorEq,decide_true,decide_false,eq_self,Int.reduceEq,Nat.reduceEqDiff]at hF))))|((first|refine AWp.reg hE hM ?_|refine AWp.regd hE hM ?_|refine AWp.ret ?_|refine AWp.skip ?_|refine AWp.exit ?_|(refine pk3 (fun h0 h=>?_) (fun h0 h=>?_)<;>(first|exact h.elim|(((first|simp only[h0,cond_true,cond_false,Bool.true_or,Bool.or_true,Bool.false_or,Bool.or_false,Bool.true_and,Bool.and_true,Bool.false_and,Bool.and_false,Bool.not_true,Bool.not_false,Bool.not_not,reduceCtorEq,decide_true,decide_false,eq_self,Int.reduceEq,Nat.reduceEqDiff]at hF|skip)<;>(clear h0;try first|obtain rfl:(_:Bool)=true:=h|obtain rfl:(_:Bool)=false:=h));(try simp only[cond_true,cond_false,Bool.true_or,Bool.or_true,Bool.false_or,Bool.or_false,Bool.true_and,Bool.and_true,Bool.false_and,Bool.and_false,Bool.not_true,Bool.not_false,Bool.not_not,reduceCtorEq,decide_true,decide_false,eq_self,Int.reduceEq,Nat.reduceEqDiff]at hF))))|refine zab (fun h=>?_) ?_|(refine hQ _ _ _ rfl ?_;clear hQ hR hE hM)|(refine hR _ _ (hQ _ _ _ rfl ?_);clear hQ hR hE hM)|(refine zaf ?_ ?_;focus first|omega|(refine zad ?_;(refine no_implicit_lambda% (st ?_);try with_reducible exact True.intro);done)))<;>try (refine no_implicit_lambda% (st ?_);try with_reducible exact True.intro)))
      all_goals first|rfl|exact hF|(exfalso;contradiction)|trace_state
   ·generalize zan p s=e at c3 hst
    refine zae (F:=cd327) (hH.has _ _ rfl) (Nat.le_of_ble_eq_true rfl) fun w0 M Q hM hQ hR=>?_;have hE:=hH.callable;dsimp only[cd327,qm,ql,qf,qi,qb,qc,qp,qv,qN,qT,qF,qt]at hQ ⊢
    repeat' (first|refine zaa [0,1,2,3,4,6,7,8,9,10,11,12,13,14,15,16,17,18,19,20,37,47,57,64,77,83,87,97,101,103,114,115,125,132,149,181,184] fun K hK=>?_|refine AWp.block ?_|(refine hK.go ?_;clear hK K)|refine Cont.go (by assumption) ?_|(refine cnd2 rfl (fun h=>?_) (fun h=>?_)<;>(try first|exact h.elim|obtain rfl:(_:Bool)=true:=h|obtain rfl:(_:Bool)=false:=h)<;>first|(exfalso;omega)|skip)|((first|refine AWp.reg hE hM ?_|refine AWp.regd hE hM ?_|refine AWp.ret ?_|refine AWp.skip ?_|refine AWp.exit ?_|(refine pk2 (fun h=>?_) (fun h=>?_)<;>(try first|exact h.elim|obtain rfl:(_:Bool)=true:=h|obtain rfl:(_:Bool)=false:=h))|refine zab (fun h=>?_) ?_|refine zac hM (c0) ?_|refine zac hM (c1) ?_|refine zac hM (c2) ?_|refine zac hM (c3) ?_|(refine hQ _ _ _ rfl ?_;clear hQ hR hE hM)|(refine hR _ _ (hQ _ _ _ rfl ?_);clear hQ hR hE hM)|(refine zaf ?_ ?_;focus first|omega|(refine zad ?_;(refine no_implicit_lambda% (st ?_);try with_reducible exact True.intro);done)))<;>try (refine no_implicit_lambda% (st ?_);try with_reducible exact True.intro)))
    all_goals first|rfl|exact hF|(exfalso;contradiction)|skip
end Go.Lev
namespace Go.Lev
open Go.Eng
theorem zoi {p:Pln} {n:Int} (h:∃ x∈p.points,x.id=n):zcx p n=true:=by
 obtain ⟨x,hx,e⟩:=h
 exact List.any_eq_true.2 ⟨x,hx,by simpa using e⟩
section
variable {p:Pln} {s:State} {n:Int} {i:Nat} (h:MaySet p s n i)
include h
theorem MaySet.calm {k:Nat} (hk:k<s.switches.length) (hne:¬(nth s.switches k).call=(nth (zeq s n (zbs p i)).switches k).call):nth (zaw p s).2.1 (nth s.switches k).id.toNat=0∧zfn s (nth p.points k).sec=0:=by
 have ho:=zaA h.st
 have hpa:=(zaj h.st).2.1
 have hpl:=zaB hpa
 have hk2:k<p.points.length:=by omega
 obtain ⟨_,_,h3⟩:=zia (zbs p i) s.switches k hk
 rcases h3 with h3|⟨a,ha,e1,e2⟩
 ·exact absurd h3.symm hne
 ·have hsw:=zio hpa hk
  rcases h.ask a ha with h4|h4
  ·rw[e1,zhw ho hpa (zal hk)]at h4
   exact absurd (h4.trans e2.symm) hne
  ·rw[e1,hsw,zc6 ho hk2]at h4
   rw[hsw]
   exact h4
end
end Go.Lev
namespace Go.Lev
open Go.Eng
set_option maxRecDepth 10000
set_option maxHeartbeats 4000000
variable {P:Program} {inv:Nat→Option Nat} {w0:World} {M:Nat→Prop}
theorem setK_sm {s:State} (h:SmS s) (n:Int) (q:List AskR):SmS (zeq s n q):=⟨h.1,by show (za3 _ _).length≤_;rw[zcg];exact h.2.1,by show (zcm _ _ _ _).length≤_;rw[zbr];exact h.2.2⟩
theorem zlQ (hH:HasAll P inv) (hI:HasIds P inv) {p:Pln} (hp:Sm p) {s:State} (hs:SmS s) (hst:zan p s=0) {x n:Int} (hx:zjN p x=true) (e:nth (zaw p s).1 x.toNat=n):PC P inv 67 [.agg p.c,.agg s.c,.n x] (·=.tup [.n n,.n 0]):=by
 have h1:=zjP hH hI p hp s hs x
 unfold zhd at h1
 rw[if_pos hst,if_pos hx,e]at h1
 exact h1
theorem zo1 (hH:HasAll P inv) (hI:HasIds P inv) {p:Pln} (hp:Sm p) {s:State} (hs:SmS s) (hst:zan p s=0) {x n:Int} (hx:zcx p x=true) (e:nth (zaw p s).2.1 x.toNat=n):PC P inv 77 [.agg p.c,.agg s.c,.n x] (·=.tup [.n n,.n 0]):=by
 have h1:=zee hH hI p hp s hs x
 unfold zcI at h1
 rw[if_pos hst,if_pos hx,e]at h1
 exact h1
theorem lockHolds_pc (hH:HasAll P inv) (hI:HasIds P inv) (p:Pln) (hp:Pln.ok p) (s:State) (n:Int):PC P inv 326 [.agg p.c,.agg s.c,.n n] (·=.b true):=by
 have c0:=zif hH hI
 have c1:=zcq hH p
 have c2:=zdE hH s
 cases g1:zfa p with
 |true =>
  rw[g1]at c1
  refine zae (F:=cd326) (hH.has _ _ rfl) (Nat.le_of_ble_eq_true rfl) fun w0 M Q hM hQ hR=>?_;have hE:=hH.callable;dsimp only[cd326,qm,ql,qf,qi,qb,qc,qp,qv,qN,qT,qF,qt]at hQ ⊢
  repeat' (first|refine zaa [0,1,2,3,4,6,7,8,9,10,11,12,13,14,15,16,17,18,19,20,21,22,23,24,25,36,46,84,90,94,104,114,138,140,145,157,171,176,191,201,218,220,225,238,243,266] fun K hK=>?_|refine AWp.block ?_|(refine hK.go ?_;clear hK K)|refine Cont.go (by assumption) ?_|(refine cnd2 rfl (fun h=>?_) (fun h=>?_)<;>(try first|exact h.elim|obtain rfl:(_:Bool)=true:=h|obtain rfl:(_:Bool)=false:=h)<;>first|(exfalso;omega)|skip)|((first|refine AWp.reg hE hM ?_|refine AWp.regd hE hM ?_|refine AWp.ret ?_|refine AWp.skip ?_|refine AWp.exit ?_|(refine pk2 (fun h=>?_) (fun h=>?_)<;>(try first|exact h.elim|obtain rfl:(_:Bool)=true:=h|obtain rfl:(_:Bool)=false:=h))|refine zab (fun h=>?_) ?_|refine zac hM (c0) ?_|refine zac hM (c1) ?_|(refine hQ _ _ _ rfl ?_;clear hQ hR hE hM)|(refine hR _ _ (hQ _ _ _ rfl ?_);clear hQ hR hE hM)|(refine zaf ?_ ?_;focus first|omega|(refine zad ?_;(refine no_implicit_lambda% (st ?_);try with_reducible exact True.intro);done)))<;>try (refine no_implicit_lambda% (st ?_);try with_reducible exact True.intro)))
 |false =>
  rw[g1]at c1
  cases g2:zf7 s with
  |true =>
   rw[g2]at c2
   refine zae (F:=cd326) (hH.has _ _ rfl) (Nat.le_of_ble_eq_true rfl) fun w0 M Q hM hQ hR=>?_;have hE:=hH.callable;dsimp only[cd326,qm,ql,qf,qi,qb,qc,qp,qv,qN,qT,qF,qt]at hQ ⊢
   repeat' (first|refine zaa [0,1,2,3,4,6,7,8,9,10,11,12,13,14,15,16,17,18,19,20,21,22,23,24,25,36,46,84,90,94,104,114,138,140,145,157,171,176,191,201,218,220,225,238,243,266] fun K hK=>?_|refine AWp.block ?_|(refine hK.go ?_;clear hK K)|refine Cont.go (by assumption) ?_|(refine cnd2 rfl (fun h=>?_) (fun h=>?_)<;>(try first|exact h.elim|obtain rfl:(_:Bool)=true:=h|obtain rfl:(_:Bool)=false:=h)<;>first|(exfalso;omega)|skip)|((first|refine AWp.reg hE hM ?_|refine AWp.regd hE hM ?_|refine AWp.ret ?_|refine AWp.skip ?_|refine AWp.exit ?_|(refine pk2 (fun h=>?_) (fun h=>?_)<;>(try first|exact h.elim|obtain rfl:(_:Bool)=true:=h|obtain rfl:(_:Bool)=false:=h))|refine zab (fun h=>?_) ?_|refine zac hM (c0) ?_|refine zac hM (c1) ?_|refine zac hM (c2) ?_|(refine hQ _ _ _ rfl ?_;clear hQ hR hE hM)|(refine hR _ _ (hQ _ _ _ rfl ?_);clear hQ hR hE hM)|(refine zaf ?_ ?_;focus first|omega|(refine zad ?_;(refine no_implicit_lambda% (st ?_);try with_reducible exact True.intro);done)))<;>try (refine no_implicit_lambda% (st ?_);try with_reducible exact True.intro)))
  |false =>
   rw[g2]at c2
   have sp:=zno hp g1
   have ss:=zjl g2
   have c4:=zh3 hH hI p sp s ss n
   by_cases he:lkC p s n=0
   ·obtain ⟨i0,hm⟩:=zn6.1 he
    rw[he,hm.lkS]at c4
    have hst:=hm.st
    have ho:=zaA hst
    have hpa:=(zaj hst).2.1
    have hpl:=zaB hpa
    have c5:=zjd hH hI p sp (nth s.locks i0).id
    rw[ofW_at hst hm.lt,hm.id]at c5
    dsimp only at c5
    have hT:=hm.code
    have hTs:=setK_sm ss n (zbs p i0)
    have c6:=zb5 hH hI p sp (zeq s n (zbs p i0)) hTs
    rw[hT]at c6
    have hwl:=zcY ho hm.rt
    have hS1:∀ x∈zc2 p i0,PC P inv 67 [.agg p.c,.agg s.c,.n x] (·=.tup [.n 0,.n 0]):=fun x hx=>zlQ hH hI sp ss hst (hm.secR hx).1 (hm.sec x hx).1
    have hS2:∀ x∈zc2 p i0,PC P inv 67 [.agg p.c,.agg (zeq s n (zbs p i0)).c,.n x] (·=.tup [.n n,.n 0]):=fun x hx=>zlQ hH hI sp hTs hT (hm.secR hx).1 (hm.holds hx)
    have hfr:∀ x∈zc2 p i0,PC P inv 332 [.agg s.c,.n x] (·=.b true):=fun x hx=>by
     have:=zhg hH s (by have:=ss.1;omega) x
     rw[(hm.sec x hx).2]at this
     exact this
    have hA:∀ k,k<(zak p (nth p.routes i0)).1.asks.length→PC P inv 77 [.agg p.c,.agg (zeq s n (zbs p i0)).c,.n (nth (zak p (nth p.routes i0)).1.asks k).pnt] (·=.tup [.n (nth (zak p (nth p.routes i0)).1.asks k).lie,.n 0]):=fun k hk =>
     zo1 hH hI sp hTs hT (zoi (zbK ho hm.rt (zal hk)).1) (hm.asks (zal hk))
    have hC:∀ k,k<s.switches.length→¬(nth s.switches k).call=(nth (zeq s n (zbs p i0)).switches k).call→PC P inv 77 [.agg p.c,.agg s.c,.n (nth s.switches k).id] (·=.tup [.n 0,.n 0])∧PC P inv 332 [.agg s.c,.n (nth p.points k).sec] (·=.b true):=fun k hk hne=>by
     obtain ⟨h1,h2⟩:=hm.calm hk hne
     refine ⟨zo1 hH hI sp ss hst (by rw[zio hpa hk];exact ze4 (by omega)) h1, ?_⟩
     have:=zhg hH s (by have:=ss.1;omega) (nth p.points k).sec
     rw[h2]at this
     exact this
    have hL:∀ k,k<s.locks.length→¬(nth s.locks k).id=n→nth (zeq s n (zbs p i0)).locks k=nth s.locks k:=fun k hk hne=>by
     rw[hm.lock hk,if_neg (fun e=>hne (by rw[e];exact hm.id))]
    have hUl:(zeq s n (zbs p i0)).switches.length=s.switches.length:=zcg _ _
    have hLl:(zeq s n (zbs p i0)).locks.length=s.locks.length:=zbr _ _ _ _
    have hTt:(zeq s n (zbs p i0)).tracks=s.tracks:=rfl
    have hpp:=hpl.2.1
    have hl1:=ss.1
    have hl2:=ss.2.1
    have hl3:=ss.2.2
    have f0:((zak p (nth p.routes i0)).1.path.map ze6).flatten++((zak p (nth p.routes i0)).1.over.map ze6).flatten=((zc2 p i0).map ze6).flatten:=by unfold zc2;simp
    have f1:(zak p (nth p.routes i0)).1.path.length+(zak p (nth p.routes i0)).1.over.length=(zc2 p i0).length:=by unfold zc2;simp
    generalize zeq s n (zbs p i0)=T at *
    generalize zc2 p i0=all at *
    generalize (zak p (nth p.routes i0)).1=w at *
    obtain ⟨Tt,U,L⟩:=T
    dsimp only at hUl hLl hTt hC hL
    subst hTt
    clear hm hst ho hpa hpl hT hTs he
    refine zae (F:=cd326) (hH.has _ _ rfl) (Nat.le_of_ble_eq_true rfl) fun w0 M Q hM hQ hR=>?_;have hE:=hH.callable;dsimp only[cd326,qm,ql,qf,qi,qb,qc,qp,qv,qN,qT,qF,qt]at hQ ⊢
    repeat' (first|refine zaa [0,1,2,3,4,6,7,8,9,10,11,12,13,14,15,16,17,18,19,20,21,22,23,24,25,36,46,84,90,94,104,114,138,140,145,157,171,176,191,201,218,220,225,238,243,266] fun K hK=>?_|refine AWp.block ?_|(refine hK.go ?_;clear hK K)|refine Cont.go (by assumption) ?_|(refine cnd2 rfl (fun h=>?_) (fun h=>?_)<;>(try first|exact h.elim|obtain rfl:(_:Bool)=true:=h|obtain rfl:(_:Bool)=false:=h)<;>first|(exfalso;omega)|skip)|((first|refine AWp.reg hE hM ?_|refine AWp.regd hE hM ?_|refine AWp.ret ?_|refine AWp.skip ?_|refine AWp.exit ?_|(refine pk2 (fun h=>?_) (fun h=>?_)<;>(try first|exact h.elim|obtain rfl:(_:Bool)=true:=h|obtain rfl:(_:Bool)=false:=h))|refine zab (fun h=>?_) ?_|refine zac hM (c0) ?_|refine zac hM (c1) ?_|refine zac hM (c2) ?_|refine zac hM (c4) ?_|refine zac hM (c5) ?_|refine zac hM (c6) ?_|(refine hQ _ _ _ rfl ?_;clear hQ hR hE hM)|(refine hR _ _ (hQ _ _ _ rfl ?_);clear hQ hR hE hM)|(refine zaf ?_ ?_;focus first|omega|(refine zad ?_;(refine no_implicit_lambda% (st ?_);try with_reducible exact True.intro);done)))<;>try simp -dsimp -implicitDefEqProofs (disch:=omega) only[go_sem,reduceIte,↓reduceIte,Nat.reduceEqDiff,Nat.reduceLT,Nat.reduceLeDiff,Nat.reduceAdd,Nat.reduceSub,Nat.reduceMul,Int.reduceToNat,Int.reduceLT,Int.reduceLE,Int.reduceEq,Int.reduceNeg,Int.reduceNe,reduceCtorEq,f0,f1]))
    all_goals first|(exfalso;contradiction)|skip
    refine zah (ι:=Nat) [2,3,4,6,7,8,10,12,13] (fun zz=>[(13,.n zz)]) (fun zz=>[]) (fun zz=>zz≤all.length) (fun zz=>all.length-zz) (0) (Nat.zero_le _) (by (try dsimp only);(refine no_implicit_lambda% (st ?_);try with_reducible exact True.intro)<;>first|omega|(simp;done)) (by (try dsimp only);(refine no_implicit_lambda% (st ?_);try with_reducible exact True.intro)<;>first|omega|(simp;done)) ?_;rintro k hk;(try dsimp only at hk ⊢);rcases Nat.lt_or_ge k all.length with hlt|hge
    ·have hx:=zal hlt
     have d1:=hS1 _ hx
     have d2:=hS2 _ hx
     have d3:=hfr _ hx
     have d0:=zop (l:=all) (k:=k) hlt
     repeat' (first|refine zaa [0,1,2,3,4,6,7,8,9,10,11,12,13,14,15,16,17,18,19,20,21,22,23,24,25,36,46,84,90,94,104,114,138,140,145,157,171,176,191,201,218,220,225,238,243,266] fun K hK=>?_|refine AWp.block ?_|(refine hK.go ?_;clear hK K)|refine Cont.go (by assumption) ?_|(refine cnd2 rfl (fun h=>?_) (fun h=>?_)<;>(try first|exact h.elim|obtain rfl:(_:Bool)=true:=h|obtain rfl:(_:Bool)=false:=h)<;>first|(exfalso;omega)|skip)|((first|refine AWp.reg hE hM ?_|refine AWp.regd hE hM ?_|refine AWp.ret ?_|refine AWp.skip ?_|refine AWp.exit ?_|(refine pk2 (fun h=>?_) (fun h=>?_)<;>(try first|exact h.elim|obtain rfl:(_:Bool)=true:=h|obtain rfl:(_:Bool)=false:=h))|refine zab (fun h=>?_) ?_|refine zac hM (d1) ?_|refine zac hM (d2) ?_|refine zac hM (d3) ?_|(refine hQ _ _ _ rfl ?_;clear hQ hR hE hM)|(refine hR _ _ (hQ _ _ _ rfl ?_);clear hQ hR hE hM)|(refine zaf ?_ ?_;focus first|omega|(refine zad ?_;(refine no_implicit_lambda% (st ?_);try with_reducible exact True.intro);done)))<;>try simp -dsimp -implicitDefEqProofs (disch:=omega) only[go_sem,reduceIte,↓reduceIte,Nat.reduceEqDiff,Nat.reduceLT,Nat.reduceLeDiff,Nat.reduceAdd,Nat.reduceSub,Nat.reduceMul,Int.reduceToNat,Int.reduceLT,Int.reduceLE,Int.reduceEq,Int.reduceNeg,Int.reduceNe,reduceCtorEq,d0]))
     all_goals first|(exfalso;contradiction)|exact ⟨k+1,by omega,by omega,by omega⟩|trace_state
    ·repeat' (first|refine zaa [0,1,2,3,4,6,7,8,9,10,11,12,13,14,15,16,17,18,19,20,21,22,23,24,25,36,46,84,90,94,104,114,138,140,145,157,171,176,191,201,218,220,225,238,243,266] fun K hK=>?_|refine AWp.block ?_|(refine hK.go ?_;clear hK K)|refine Cont.go (by assumption) ?_|(refine cnd2 rfl (fun h=>?_) (fun h=>?_)<;>(try first|exact h.elim|obtain rfl:(_:Bool)=true:=h|obtain rfl:(_:Bool)=false:=h)<;>first|(exfalso;omega)|skip)|((first|refine AWp.reg hE hM ?_|refine AWp.regd hE hM ?_|refine AWp.ret ?_|refine AWp.skip ?_|refine AWp.exit ?_|(refine pk2 (fun h=>?_) (fun h=>?_)<;>(try first|exact h.elim|obtain rfl:(_:Bool)=true:=h|obtain rfl:(_:Bool)=false:=h))|refine zab (fun h=>?_) ?_|(refine hQ _ _ _ rfl ?_;clear hQ hR hE hM)|(refine hR _ _ (hQ _ _ _ rfl ?_);clear hQ hR hE hM)|(refine zaf ?_ ?_;focus first|omega|(refine zad ?_;(refine no_implicit_lambda% (st ?_);try with_reducible exact True.intro);done)))<;>try (refine no_implicit_lambda% (st ?_);try with_reducible exact True.intro)))
     refine zah (ι:=Nat) [2,3,4,6,7,8,10,18] (fun zz=>[(18,.n zz)]) (fun zz=>[]) (fun zz=>zz≤w.asks.length) (fun zz=>w.asks.length-zz) (0) (Nat.zero_le _) (by (try dsimp only);(refine no_implicit_lambda% (st ?_);try with_reducible exact True.intro)<;>first|omega|(simp;done)) (by (try dsimp only);(refine no_implicit_lambda% (st ?_);try with_reducible exact True.intro)<;>first|omega|(simp;done)) ?_;rintro k2 hk;(try dsimp only at hk ⊢);rcases Nat.lt_or_ge k2 w.asks.length with hlt|hge
     ·have d1:=hA _ hlt
      repeat' (first|refine zaa [0,1,2,3,4,6,7,8,9,10,11,12,13,14,15,16,17,18,19,20,21,22,23,24,25,36,46,84,90,94,104,114,138,140,145,157,171,176,191,201,218,220,225,238,243,266] fun K hK=>?_|refine AWp.block ?_|(refine hK.go ?_;clear hK K)|refine Cont.go (by assumption) ?_|(refine cnd2 rfl (fun h=>?_) (fun h=>?_)<;>(try first|exact h.elim|obtain rfl:(_:Bool)=true:=h|obtain rfl:(_:Bool)=false:=h)<;>first|(exfalso;omega)|skip)|((first|refine AWp.reg hE hM ?_|refine AWp.regd hE hM ?_|refine AWp.ret ?_|refine AWp.skip ?_|refine AWp.exit ?_|(refine pk2 (fun h=>?_) (fun h=>?_)<;>(try first|exact h.elim|obtain rfl:(_:Bool)=true:=h|obtain rfl:(_:Bool)=false:=h))|refine zab (fun h=>?_) ?_|refine zac hM (d1) ?_|(refine hQ _ _ _ rfl ?_;clear hQ hR hE hM)|(refine hR _ _ (hQ _ _ _ rfl ?_);clear hQ hR hE hM)|(refine zaf ?_ ?_;focus first|omega|(refine zad ?_;(refine no_implicit_lambda% (st ?_);try with_reducible exact True.intro);done)))<;>try (refine no_implicit_lambda% (st ?_);try with_reducible exact True.intro)))
      all_goals first|(exfalso;contradiction)|exact ⟨k2+1,by omega,by omega,by omega⟩|trace_state
     ·repeat' (first|refine zaa [0,1,2,3,4,6,7,8,9,10,11,12,13,14,15,16,17,18,19,20,21,22,23,24,25,36,46,84,90,94,104,114,138,140,145,157,171,176,191,201,218,220,225,238,243,266] fun K hK=>?_|refine AWp.block ?_|(refine hK.go ?_;clear hK K)|refine Cont.go (by assumption) ?_|(refine cnd2 rfl (fun h=>?_) (fun h=>?_)<;>(try first|exact h.elim|obtain rfl:(_:Bool)=true:=h|obtain rfl:(_:Bool)=false:=h)<;>first|(exfalso;omega)|skip)|((first|refine AWp.reg hE hM ?_|refine AWp.regd hE hM ?_|refine AWp.ret ?_|refine AWp.skip ?_|refine AWp.exit ?_|(refine pk2 (fun h=>?_) (fun h=>?_)<;>(try first|exact h.elim|obtain rfl:(_:Bool)=true:=h|obtain rfl:(_:Bool)=false:=h))|refine zab (fun h=>?_) ?_|(refine hQ _ _ _ rfl ?_;clear hQ hR hE hM)|(refine hR _ _ (hQ _ _ _ rfl ?_);clear hQ hR hE hM)|(refine zaf ?_ ?_;focus first|omega|(refine zad ?_;(refine no_implicit_lambda% (st ?_);try with_reducible exact True.intro);done)))<;>try (refine no_implicit_lambda% (st ?_);try with_reducible exact True.intro)))
      refine zah (ι:=Nat) [2,3,4,6,7,8,21] (fun zz=>[(21,.n zz)]) (fun zz=>[]) (fun zz=>zz≤s.switches.length) (fun zz=>s.switches.length-zz) (0) (Nat.zero_le _) (by (try dsimp only);(refine no_implicit_lambda% (st ?_);try with_reducible exact True.intro)<;>first|omega|(simp;done)) (by (try dsimp only);(refine no_implicit_lambda% (st ?_);try with_reducible exact True.intro)<;>first|omega|(simp;done)) ?_;rintro k3 hk;(try dsimp only at hk ⊢);rcases Nat.lt_or_ge k3 s.switches.length with hlt|hge
      ·by_cases hq:(nth s.switches k3).call=(nth U k3).call
       ·repeat' (first|refine zaa [0,1,2,3,4,6,7,8,9,10,11,12,13,14,15,16,17,18,19,20,21,22,23,24,25,36,46,84,90,94,104,114,138,140,145,157,171,176,191,201,218,220,225,238,243,266] fun K hK=>?_|refine AWp.block ?_|(refine hK.go ?_;clear hK K)|refine Cont.go (by assumption) ?_|(refine cnd2 rfl (fun h=>?_) (fun h=>?_)<;>(try first|exact h.elim|obtain rfl:(_:Bool)=true:=h|obtain rfl:(_:Bool)=false:=h)<;>first|(exfalso;omega)|skip)|((first|refine AWp.reg hE hM ?_|refine AWp.regd hE hM ?_|refine AWp.ret ?_|refine AWp.skip ?_|refine AWp.exit ?_|(refine pk2 (fun h=>?_) (fun h=>?_)<;>(try first|exact h.elim|obtain rfl:(_:Bool)=true:=h|obtain rfl:(_:Bool)=false:=h))|refine zab (fun h=>?_) ?_|(refine hQ _ _ _ rfl ?_;clear hQ hR hE hM)|(refine hR _ _ (hQ _ _ _ rfl ?_);clear hQ hR hE hM)|(refine zaf ?_ ?_;focus first|omega|(refine zad ?_;(refine no_implicit_lambda% (st ?_);try with_reducible exact True.intro);done)))<;>try simp -dsimp -implicitDefEqProofs (disch:=omega) only[go_sem,reduceIte,↓reduceIte,Nat.reduceEqDiff,Nat.reduceLT,Nat.reduceLeDiff,Nat.reduceAdd,Nat.reduceSub,Nat.reduceMul,Int.reduceToNat,Int.reduceLT,Int.reduceLE,Int.reduceEq,Int.reduceNeg,Int.reduceNe,reduceCtorEq,hUl]))
        all_goals first|(exfalso;contradiction)|exact ⟨k3+1,by omega,by omega,by omega⟩|trace_state
       ·obtain ⟨d1,d2⟩:=hC _ hlt hq
        repeat' (first|refine zaa [0,1,2,3,4,6,7,8,9,10,11,12,13,14,15,16,17,18,19,20,21,22,23,24,25,36,46,84,90,94,104,114,138,140,145,157,171,176,191,201,218,220,225,238,243,266] fun K hK=>?_|refine AWp.block ?_|(refine hK.go ?_;clear hK K)|refine Cont.go (by assumption) ?_|(refine cnd2 rfl (fun h=>?_) (fun h=>?_)<;>(try first|exact h.elim|obtain rfl:(_:Bool)=true:=h|obtain rfl:(_:Bool)=false:=h)<;>first|(exfalso;omega)|skip)|((first|refine AWp.reg hE hM ?_|refine AWp.regd hE hM ?_|refine AWp.ret ?_|refine AWp.skip ?_|refine AWp.exit ?_|(refine pk2 (fun h=>?_) (fun h=>?_)<;>(try first|exact h.elim|obtain rfl:(_:Bool)=true:=h|obtain rfl:(_:Bool)=false:=h))|refine zab (fun h=>?_) ?_|refine zac hM (d1) ?_|refine zac hM (d2) ?_|(refine hQ _ _ _ rfl ?_;clear hQ hR hE hM)|(refine hR _ _ (hQ _ _ _ rfl ?_);clear hQ hR hE hM)|(refine zaf ?_ ?_;focus first|omega|(refine zad ?_;(refine no_implicit_lambda% (st ?_);try with_reducible exact True.intro);done)))<;>try simp -dsimp -implicitDefEqProofs (disch:=omega) only[go_sem,reduceIte,↓reduceIte,Nat.reduceEqDiff,Nat.reduceLT,Nat.reduceLeDiff,Nat.reduceAdd,Nat.reduceSub,Nat.reduceMul,Int.reduceToNat,Int.reduceLT,Int.reduceLE,Int.reduceEq,Int.reduceNeg,Int.reduceNe,reduceCtorEq,hUl]))
        all_goals first|(exfalso;contradiction)|exact ⟨k3+1,by omega,by omega,by omega⟩|trace_state
      ·repeat' (first|refine zaa [0,1,2,3,4,6,7,8,9,10,11,12,13,14,15,16,17,18,19,20,21,22,23,24,25,36,46,84,90,94,104,114,138,140,145,157,171,176,191,201,218,220,225,238,243,266] fun K hK=>?_|refine AWp.block ?_|(refine hK.go ?_;clear hK K)|refine Cont.go (by assumption) ?_|(refine cnd2 rfl (fun h=>?_) (fun h=>?_)<;>(try first|exact h.elim|obtain rfl:(_:Bool)=true:=h|obtain rfl:(_:Bool)=false:=h)<;>first|(exfalso;omega)|skip)|((first|refine AWp.reg hE hM ?_|refine AWp.regd hE hM ?_|refine AWp.ret ?_|refine AWp.skip ?_|refine AWp.exit ?_|(refine pk2 (fun h=>?_) (fun h=>?_)<;>(try first|exact h.elim|obtain rfl:(_:Bool)=true:=h|obtain rfl:(_:Bool)=false:=h))|refine zab (fun h=>?_) ?_|(refine hQ _ _ _ rfl ?_;clear hQ hR hE hM)|(refine hR _ _ (hQ _ _ _ rfl ?_);clear hQ hR hE hM)|(refine zaf ?_ ?_;focus first|omega|(refine zad ?_;(refine no_implicit_lambda% (st ?_);try with_reducible exact True.intro);done)))<;>try (refine no_implicit_lambda% (st ?_);try with_reducible exact True.intro)))
       refine zah (ι:=Nat) [2,4,6,7,8,24] (fun zz=>[(24,.n zz)]) (fun zz=>[]) (fun zz=>zz≤s.tracks.length) (fun zz=>s.tracks.length-zz) (0) (Nat.zero_le _) (by (try dsimp only);(refine no_implicit_lambda% (st ?_);try with_reducible exact True.intro)<;>first|omega|(simp;done)) (by (try dsimp only);(refine no_implicit_lambda% (st ?_);try with_reducible exact True.intro)<;>first|omega|(simp;done)) ?_;rintro k4 hk;(try dsimp only at hk ⊢);rcases Nat.lt_or_ge k4 s.tracks.length with hlt|hge
       ·repeat' (first|refine zaa [0,1,2,3,4,6,7,8,9,10,11,12,13,14,15,16,17,18,19,20,21,22,23,24,25,36,46,84,90,94,104,114,138,140,145,157,171,176,191,201,218,220,225,238,243,266] fun K hK=>?_|refine AWp.block ?_|(refine hK.go ?_;clear hK K)|refine Cont.go (by assumption) ?_|(refine cnd2 rfl (fun h=>?_) (fun h=>?_)<;>(try first|exact h.elim|obtain rfl:(_:Bool)=true:=h|obtain rfl:(_:Bool)=false:=h)<;>first|(exfalso;omega)|skip)|((first|refine AWp.reg hE hM ?_|refine AWp.regd hE hM ?_|refine AWp.ret ?_|refine AWp.skip ?_|refine AWp.exit ?_|(refine pk2 (fun h=>?_) (fun h=>?_)<;>(try first|exact h.elim|obtain rfl:(_:Bool)=true:=h|obtain rfl:(_:Bool)=false:=h))|refine zab (fun h=>?_) ?_|(refine hQ _ _ _ rfl ?_;clear hQ hR hE hM)|(refine hR _ _ (hQ _ _ _ rfl ?_);clear hQ hR hE hM)|(refine zaf ?_ ?_;focus first|omega|(refine zad ?_;(refine no_implicit_lambda% (st ?_);try with_reducible exact True.intro);done)))<;>try (refine no_implicit_lambda% (st ?_);try with_reducible exact True.intro)))
        all_goals first|(exfalso;contradiction)|exact ⟨k4+1,by omega,by omega,by omega⟩|trace_state
       ·repeat' (first|refine zaa [0,1,2,3,4,6,7,8,9,10,11,12,13,14,15,16,17,18,19,20,21,22,23,24,25,36,46,84,90,94,104,114,138,140,145,157,171,176,191,201,218,220,225,238,243,266] fun K hK=>?_|refine AWp.block ?_|(refine hK.go ?_;clear hK K)|refine Cont.go (by assumption) ?_|(refine cnd2 rfl (fun h=>?_) (fun h=>?_)<;>(try first|exact h.elim|obtain rfl:(_:Bool)=true:=h|obtain rfl:(_:Bool)=false:=h)<;>first|(exfalso;omega)|skip)|((first|refine AWp.reg hE hM ?_|refine AWp.regd hE hM ?_|refine AWp.ret ?_|refine AWp.skip ?_|refine AWp.exit ?_|(refine pk2 (fun h=>?_) (fun h=>?_)<;>(try first|exact h.elim|obtain rfl:(_:Bool)=true:=h|obtain rfl:(_:Bool)=false:=h))|refine zab (fun h=>?_) ?_|(refine hQ _ _ _ rfl ?_;clear hQ hR hE hM)|(refine hR _ _ (hQ _ _ _ rfl ?_);clear hQ hR hE hM)|(refine zaf ?_ ?_;focus first|omega|(refine zad ?_;(refine no_implicit_lambda% (st ?_);try with_reducible exact True.intro);done)))<;>try (refine no_implicit_lambda% (st ?_);try with_reducible exact True.intro)))
        refine zah (ι:=Nat) [2,4,6,7,8,25] (fun zz=>[(25,.n zz)]) (fun zz=>[]) (fun zz=>zz≤s.locks.length) (fun zz=>s.locks.length-zz) (0) (Nat.zero_le _) (by (try dsimp only);(refine no_implicit_lambda% (st ?_);try with_reducible exact True.intro)<;>first|omega|(simp;done)) (by (try dsimp only);(refine no_implicit_lambda% (st ?_);try with_reducible exact True.intro)<;>first|omega|(simp;done)) ?_;rintro k5 hk;(try dsimp only at hk ⊢);rcases Nat.lt_or_ge k5 s.locks.length with hlt|hge
        ·by_cases hq:(nth s.locks k5).id=n
         ·repeat' (first|refine zaa [0,1,2,3,4,6,7,8,9,10,11,12,13,14,15,16,17,18,19,20,21,22,23,24,25,36,46,84,90,94,104,114,138,140,145,157,171,176,191,201,218,220,225,238,243,266] fun K hK=>?_|refine AWp.block ?_|(refine hK.go ?_;clear hK K)|refine Cont.go (by assumption) ?_|(refine cnd2 rfl (fun h=>?_) (fun h=>?_)<;>(try first|exact h.elim|obtain rfl:(_:Bool)=true:=h|obtain rfl:(_:Bool)=false:=h)<;>first|(exfalso;omega)|skip)|((first|refine AWp.reg hE hM ?_|refine AWp.regd hE hM ?_|refine AWp.ret ?_|refine AWp.skip ?_|refine AWp.exit ?_|(refine pk2 (fun h=>?_) (fun h=>?_)<;>(try first|exact h.elim|obtain rfl:(_:Bool)=true:=h|obtain rfl:(_:Bool)=false:=h))|refine zab (fun h=>?_) ?_|(refine hQ _ _ _ rfl ?_;clear hQ hR hE hM)|(refine hR _ _ (hQ _ _ _ rfl ?_);clear hQ hR hE hM)|(refine zaf ?_ ?_;focus first|omega|(refine zad ?_;(refine no_implicit_lambda% (st ?_);try with_reducible exact True.intro);done)))<;>try simp -dsimp -implicitDefEqProofs (disch:=omega) only[go_sem,reduceIte,↓reduceIte,Nat.reduceEqDiff,Nat.reduceLT,Nat.reduceLeDiff,Nat.reduceAdd,Nat.reduceSub,Nat.reduceMul,Int.reduceToNat,Int.reduceLT,Int.reduceLE,Int.reduceEq,Int.reduceNeg,Int.reduceNe,reduceCtorEq,hLl]))
          all_goals first|(exfalso;contradiction)|exact ⟨k5+1,by omega,by omega,by omega⟩|trace_state
         ·have hq2:=hL _ hlt hq
          repeat' (first|refine zaa [0,1,2,3,4,6,7,8,9,10,11,12,13,14,15,16,17,18,19,20,21,22,23,24,25,36,46,84,90,94,104,114,138,140,145,157,171,176,191,201,218,220,225,238,243,266] fun K hK=>?_|refine AWp.block ?_|(refine hK.go ?_;clear hK K)|refine Cont.go (by assumption) ?_|(refine cnd2 rfl (fun h=>?_) (fun h=>?_)<;>(try first|exact h.elim|obtain rfl:(_:Bool)=true:=h|obtain rfl:(_:Bool)=false:=h)<;>first|(exfalso;omega)|skip)|((first|refine AWp.reg hE hM ?_|refine AWp.regd hE hM ?_|refine AWp.ret ?_|refine AWp.skip ?_|refine AWp.exit ?_|(refine pk2 (fun h=>?_) (fun h=>?_)<;>(try first|exact h.elim|obtain rfl:(_:Bool)=true:=h|obtain rfl:(_:Bool)=false:=h))|refine zab (fun h=>?_) ?_|(refine hQ _ _ _ rfl ?_;clear hQ hR hE hM)|(refine hR _ _ (hQ _ _ _ rfl ?_);clear hQ hR hE hM)|(refine zaf ?_ ?_;focus first|omega|(refine zad ?_;(refine no_implicit_lambda% (st ?_);try with_reducible exact True.intro);done)))<;>try simp -dsimp -implicitDefEqProofs (disch:=omega) only[go_sem,reduceIte,↓reduceIte,Nat.reduceEqDiff,Nat.reduceLT,Nat.reduceLeDiff,Nat.reduceAdd,Nat.reduceSub,Nat.reduceMul,Int.reduceToNat,Int.reduceLT,Int.reduceLE,Int.reduceEq,Int.reduceNeg,Int.reduceNe,reduceCtorEq,hLl,hq2]))
          all_goals first|(exfalso;contradiction)|exact ⟨k5+1,by omega,by omega,by omega⟩|trace_state
        ·repeat' (first|refine zaa [0,1,2,3,4,6,7,8,9,10,11,12,13,14,15,16,17,18,19,20,21,22,23,24,25,36,46,84,90,94,104,114,138,140,145,157,171,176,191,201,218,220,225,238,243,266] fun K hK=>?_|refine AWp.block ?_|(refine hK.go ?_;clear hK K)|refine Cont.go (by assumption) ?_|(refine cnd2 rfl (fun h=>?_) (fun h=>?_)<;>(try first|exact h.elim|obtain rfl:(_:Bool)=true:=h|obtain rfl:(_:Bool)=false:=h)<;>first|(exfalso;omega)|skip)|((first|refine AWp.reg hE hM ?_|refine AWp.regd hE hM ?_|refine AWp.ret ?_|refine AWp.skip ?_|refine AWp.exit ?_|(refine pk2 (fun h=>?_) (fun h=>?_)<;>(try first|exact h.elim|obtain rfl:(_:Bool)=true:=h|obtain rfl:(_:Bool)=false:=h))|refine zab (fun h=>?_) ?_|(refine hQ _ _ _ rfl ?_;clear hQ hR hE hM)|(refine hR _ _ (hQ _ _ _ rfl ?_);clear hQ hR hE hM)|(refine zaf ?_ ?_;focus first|omega|(refine zad ?_;(refine no_implicit_lambda% (st ?_);try with_reducible exact True.intro);done)))<;>try (refine no_implicit_lambda% (st ?_);try with_reducible exact True.intro)))
         all_goals first|rfl|(exfalso;contradiction)|trace_state
   ·have e1:lkS p s n=State.z:=by unfold lkS;rw[if_neg he]
    have c5:=zg6 hH hI p sp s ss n
    rw[e1]at c4
    unfold State.z at c4
    clear e1
    generalize lkC p s n=e at *
    refine zae (F:=cd326) (hH.has _ _ rfl) (Nat.le_of_ble_eq_true rfl) fun w0 M Q hM hQ hR=>?_;have hE:=hH.callable;dsimp only[cd326,qm,ql,qf,qi,qb,qc,qp,qv,qN,qT,qF,qt]at hQ ⊢
    repeat' (first|refine zaa [0,1,2,3,4,6,7,8,9,10,11,12,13,14,15,16,17,18,19,20,21,22,23,24,25,36,46,84,90,94,104,114,138,140,145,157,171,176,191,201,218,220,225,238,243,266] fun K hK=>?_|refine AWp.block ?_|(refine hK.go ?_;clear hK K)|refine Cont.go (by assumption) ?_|(refine cnd2 rfl (fun h=>?_) (fun h=>?_)<;>(try first|exact h.elim|obtain rfl:(_:Bool)=true:=h|obtain rfl:(_:Bool)=false:=h)<;>first|(exfalso;omega)|skip)|((first|refine AWp.reg hE hM ?_|refine AWp.regd hE hM ?_|refine AWp.ret ?_|refine AWp.skip ?_|refine AWp.exit ?_|(refine pk2 (fun h=>?_) (fun h=>?_)<;>(try first|exact h.elim|obtain rfl:(_:Bool)=true:=h|obtain rfl:(_:Bool)=false:=h))|refine zab (fun h=>?_) ?_|refine zac hM (c0) ?_|refine zac hM (c1) ?_|refine zac hM (c2) ?_|refine zac hM (c4) ?_|refine zac hM (c5) ?_|(refine hQ _ _ _ rfl ?_;clear hQ hR hE hM)|(refine hR _ _ (hQ _ _ _ rfl ?_);clear hQ hR hE hM)|(refine zaf ?_ ?_;focus first|omega|(refine zad ?_;(refine no_implicit_lambda% (st ?_);try with_reducible exact True.intro);done)))<;>try (refine no_implicit_lambda% (st ?_);try with_reducible exact True.intro)))
    all_goals first|rfl|(exfalso;contradiction)|(exfalso;omega)|trace_state
end Go.Lev
