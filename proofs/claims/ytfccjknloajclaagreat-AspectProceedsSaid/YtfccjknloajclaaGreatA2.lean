/-
  A part of the engine that walks the functions' codes, and of the functions' contracts. Conditions: those that each theorem names.
-/
import Derived.Test.YtfccjknloajclaaGreatA1
import Derived.IntWalk
set_option linter.unusedSimpArgs false
set_option linter.unusedVariables false
set_option linter.unusedSectionVars false
namespace Go.Lev
open Go.Eng
theorem zlm (s:State) (n v x:Int):zdx (zhx s n v) x=match s.tracks.find? (fun t=>decide (t.id=x)) with|some t=>if t.id=n then v else t.is|none=>2:=by
 unfold zdx zhx zdG
 dsimp only
 rw[List.find?_map]
 have:((fun t:Track=>decide (t.id=x))∘fun t=>if t.id=n then (⟨t.id,v⟩:Track) else t)=fun t=>decide (t.id=x):=by
  funext t;simp only[Function.comp];split<;>rfl
 rw[this]
 cases s.tracks.find? (fun t=>decide (t.id=x)) with
 |none=>rfl
 |some t=>dsimp only[Option.map];split<;>rfl
theorem zll {s:State} {n v x:Int} (h:x≠n):zdx (zhx s n v) x=zdx s x:=by
 rw[zlm]
 unfold zdx
 cases e:s.tracks.find? (fun t=>decide (t.id=x)) with
 |none=>rfl
 |some t =>
  have:t.id=x:=by simpa using List.find?_some e
  dsimp only
  rw[if_neg (by rw[this];exact h)]
theorem ze3 {s:State} {n:Int}:zdx (zhx s n 1) n≠0:=by
 rw[zlm]
 cases e:s.tracks.find? (fun t=>decide (t.id=n)) with
 |none=>dsimp only;decide
 |some t =>
  have:t.id=n:=by simpa using List.find?_some e
  dsimp only
  rw[if_pos this]
  decide
theorem ziT {s:State} {n x:Int} (h:zdx (zhx s n 1) x=0):zdx s x=0∧x≠n:=by
 have hx:x≠n:=fun e=>by subst e;exact ze3 h
 exact ⟨by rw[←zll hx];exact h,hx⟩
theorem zoG (s:State) (x:Int):zdx s x=2∨∃ k,k<s.tracks.length∧(nth s.tracks k).id=x∧(nth s.tracks k).is=zdx s x:=by
 unfold zdx
 cases e:s.tracks.find? fun t=>decide (t.id=x) with
 |none=>exact .inl rfl
 |some t =>
  obtain ⟨k,hk,rfl⟩:=zbb (List.mem_of_find?_eq_some e)
  exact .inr ⟨k,hk,by simpa using List.find?_some e,rfl⟩
theorem isOf_img (p:Pln) (s:State) (x:Int):zdx (zgS p s) x=2:=by
 rcases zoG (zgS p s) x with h|⟨k,hk,_,h⟩
 ·exact h
 ·have hk':k<s.tracks.length:=by simpa [zgS] using hk
  rw[←h]
  show (nth (s.tracks.mapIdx imgT) k).is=2
  rw[zcT imgT hk']
  rfl
theorem prv_T {p:Pln} {s:State} {i:Nat} {n:Int} (h:zac p s=0) (hi:i<p.routes.length) (e:zaS p (zhx s n 1) (nth p.routes i)=true):zaS p s (nth p.routes i)=true∧n∉zbj p i:=by
 have g:=(zdQ (zee h (by decide)) hi).1 e
 exact ⟨(zdQ h hi).2 ⟨g.ph,fun x hx=>(ziT (g.sec x hx)).1,g.ask⟩,fun hn=>ze3 (g.sec n hn)⟩
theorem prv_L {p:Pln} {s:State} {i:Nat} {m:Int} (h:zac p s=0) (hi:i<p.routes.length) (e:zaS p (zkQ s m 0) (nth p.routes i)=true):zaS p s (nth p.routes i)=true:=by
 have g:=(zdQ (zdq h (by decide)) hi).1 e
 refine (zdQ h hi).2 ⟨g.ph,g.sec,fun a ha k hk ek=>?_⟩
 have e1:nth (zkQ s m 0).switches k=if (nth s.switches k).id=m then ⟨(nth s.switches k).id,0,(nth s.switches k).call⟩ else nth s.switches k:=zlg _ hk
 have h1:=g.ask a ha k (by rw[show (zkQ s m 0).switches.length=s.switches.length from zbE _ _ _ _];exact hk)
 rw[e1]at h1
 have hal:=(zbi (zap h) (zab hi) ha).2.2
 by_cases hm:(nth s.switches k).id=m
 ·rw[if_pos hm]at h1
  have:=h1 ek
  dsimp only at this
  omega
 ·rw[if_neg hm]at h1
  exact h1 ek
theorem zfA {p:Pln} {s:State} {i:Nat} (h:zac p s=0) (hi:i<p.routes.length):nth (nth p.routes i).path 0∈zbj p i:=by
 have hr:nth p.routes i∈p.routes:=zab hi
 have h0:=(zc0 (zap h) hr).1
 have hwp:=zbo ((zaD (zae h).1).2.1 _ hr)
 unfold zbj
 rw[hwp.1]
 exact List.mem_append.2 (.inl (zab (by omega)))
theorem prv_I {p:Pln} {s:State} {i:Nat} (h:zac p s=0) (hi:i<p.routes.length):zaS p (zgS p s) (nth p.routes i)=false:=by
 cases e:zaS p (zgS p s) (nth p.routes i) with
 |false=>rfl
 |true =>
  have g:=(zdQ (zcN h) hi).1 e
  have:=g.sec _ (zfA h hi)
  rw[isOf_img]at this
  cases this
theorem znm {p:Pln} {w:Wk} {id:Int} {s:Section} (h:zfB p w id=some s):w.inn.to=id:=by
 unfold zfB at h
 split at h
 ·assumption
 ·cases h
theorem zfa {p:Pln} {w:Wk} {s i:Int} {R:Int→Join→Bool} (h:(zaw p w s i R).lost=false):w.inn.to=s:=by
 unfold zaw at h
 split at h
 ·rename_i h1;rw[h1]at h;cases h
 ·split at h
  ·cases h
  ·rename_i h2;exact znm h2
theorem stayW_in {p:Pln} {w:Wk} {s i:Int} (h:(zdk p w s i).lost=false):w.inn.to=s:=by
 unfold zdk at h
 split at h
 ·cases h
 ·rename_i h2;exact znm h2
theorem stepW_in {p:Pln} {r:Rte} {y:Sgn} {all:List Int} {i:Nat} {s:Int} {w:Wk} (h:(zdI p r y all i s w).lost=false):w.inn.to=s:=by
 unfold zdI at h
 split at h
 ·exact zfa h
 ·split at h
  ·exact zfa h
  ·split at h
   ·exact stayW_in h
   ·exact zfa h
theorem zlb {p:Pln} {r:Rte} (h:(zah p r).2.2=0) (h0:0<r.path.length):nth r.path 0=(inOf p r.entry).to:=by
 unfold zah at h
 split at h
 ·cases h
 ·rename_i hl
  have hl:(zgc p r).lost=false:=by simpa using hl
  unfold zgc at hl
  generalize hall:r.path++r.over=all at hl
  have hle:r.path.length≤all.length:=by rw[←hall];simp
  cases all with
  |nil =>
   have h3:r.path.length≤0:=hle
   omega
  |cons x l =>
   rw[zby]at hl
   have h1:=(zgd hle l 1 _ (by rw[List.length_cons];omega) hl).1
   have h2:=stepW_in h1
   dsimp only at h2
   have h3:nth r.path 0=x:=by
    cases hp:r.path with
    |nil=>rw[hp]at h0;simp at h0
    |cons y l2=>rw[hp]at hall;simp at hall;exact hall.1
   rw[h3]
   exact h2.symm
theorem zpX {p:Pln} {s:State} {i j:Nat} (h:zac p s=0) (hi:i<p.routes.length) (hj:j<p.routes.length) (ei:zaS p s (nth p.routes i)=true) (ej:zaS p s (nth p.routes j)=true) (he:(nth p.routes i).entry=(nth p.routes j).entry):i=j:=by
 have hl:=zan (zae h).2.1
 have gi:=((zdQ h hi).1 ei).hd h hi
 have gj:=((zdQ h hj).1 ej).hd h hj
 have hw:=(zaD (zae h).1).2.1
 have ho:=zap h
 have e1:=zlb (hw _ (zab hi)) (by have:=(zc0 ho (zab hi)).1;omega)
 have e2:=zlb (hw _ (zab hj)) (by have:=(zc0 ho (zab hj)).1;omega)
 rcases Nat.lt_trichotomy i j with hlt|rfl|hlt
 ·exfalso
  have h3:=(zcW.1 h).2.2.1 i j (by omega) (by omega) (by omega)
  rw[gi,gj]at h3
  refine h3 _ (zfA h hi) ?_
  rw[e1,he,←e2]
  exact zfA h hj
 ·rfl
 ·exfalso
  have h3:=(zcW.1 h).2.2.1 i j (by omega) (by omega) (by omega)
  rw[gi,gj]at h3
  refine h3 _ (zfA h hi) ?_
  rw[e1,he,←e2]
  exact zfA h hj
theorem zeu {p:Pln} {s:State} (h:zac p s=0) (n:Int):(ziD p (zaS p s) n=0∧goB p s n=false)∨∃ i,i<p.routes.length∧(nth p.routes i).entry=n∧zaS p s (nth p.routes i)=true∧goB p s n=true ∧
  ((ziD p (zaS p s) n=2∧(nth p.routes i).exit≠0∧goB p s (nth p.routes i).exit=true)∨(ziD p (zaS p s) n=1∧¬((nth p.routes i).exit≠0∧goB p s (nth p.routes i).exit=true))):=by
 rcases goX_sp p (zaS p s) n with e|⟨i,hi,e,h1,h2⟩
 ·left
  constructor
  ·unfold ziD;rw[e];rfl
  ·cases hg:goB p s n with
   |false=>rfl
   |true=>have:=(zmK p s n).2 hg;omega
 ·right
  refine ⟨i,hi,h1,h2,(zif p s n).2 ⟨i,hi,h1,h2⟩, ?_⟩
  unfold ziD
  rw[e,if_neg (by omega),Int.toNat_natCast]
  simp only[zmK]
  by_cases hc:(nth p.routes i).exit≠0∧goB p s (nth p.routes i).exit=true
  ·rw[if_pos hc];exact .inl ⟨rfl,hc⟩
  ·rw[if_neg hc];exact .inr ⟨rfl,hc⟩
theorem asp_mono {p:Pln} {s t:State} (h:zac p s=0) (h':zac p t=0) (hle:∀ i,i<p.routes.length→zaS p t (nth p.routes i)=true→zaS p s (nth p.routes i)=true) (n:Int):ziD p (zaS p t) n≤ziD p (zaS p s) n:=by
 have hg:∀ m,goB p t m=true→goB p s m=true:=fun m e=>by
  obtain ⟨i,hi,e1,e2⟩:=(zif p t m).1 e
  exact (zif p s m).2 ⟨i,hi,e1,hle i hi e2⟩
 rcases zeu h' n with ⟨e,_⟩|⟨i,hi,e1,e2,e3,e4⟩
 ·rw[e]
  rcases zeu h n with ⟨e,_⟩|⟨j,_,_,_,_,⟨e,_⟩|⟨e,_⟩⟩<;>omega
 ·rcases zeu h n with ⟨_,g0⟩|⟨j,hj,g1,g2,g3,g4⟩
  ·rw[hg n e3]at g0;cases g0
  ·obtain rfl:i=j:=zpX h hi hj (hle i hi e2) g2 (by rw[e1,g1])
   rcases e4 with ⟨e4,e5⟩|⟨e4,e5⟩
   ·rcases g4 with ⟨g4,_⟩|⟨_,g5⟩
    ·omega
    ·exact absurd ⟨e5.1,hg _ e5.2⟩ g5
   ·rcases g4 with ⟨g4,_⟩|⟨g4,_⟩<;>omega
theorem asp_le {p:Pln} {s:State} (h:zac p s=0) (n:Int):0≤ziD p (zaS p s) n∧ziD p (zaS p s) n≤2:=by
 rcases zeu h n with ⟨e,_⟩|⟨j,_,_,_,_,⟨e,_⟩|⟨e,_⟩⟩<;>omega
theorem asp_img {p:Pln} {s:State} (h:zac p s=0) (n:Int):ziD p (zaS p (zgS p s)) n=0:=by
 rcases zeu (zcN h) n with ⟨e,_⟩|⟨j,hj,_,e,_⟩
 ·exact e
 ·rw[prv_I h hj]at e;cases e
theorem exit_sgn {p:Pln} (ho:OkP p) {r:Rte} (hr:r∈p.routes) (h0:r.exit≠0):ziS p r.exit=true:=by
 have h:=ho.rte r hr
 simp only[zcj,zhD,Bool.and_eq_true,Bool.not_eq_true',Bool.and_eq_false_iff,Bool.not_eq_false',Bool.or_eq_false_iff,decide_eq_true_eq,decide_eq_false_iff_not]at h
 rcases h.1.2.1 with h1|h1
 ·exact absurd (by simpa using h1) h0
 ·have:=h1.1
  unfold ziS
  rw[List.any_eq_true]
  simp only[Bool.not_eq_false',Option.isSome_iff_exists]at this
  obtain ⟨x,hx⟩:=this
  exact ⟨x,List.mem_of_find?_eq_some hx,by simpa using List.find?_some hx⟩
theorem sgn_at {p:Pln} {i:Nat} (hi:i<p.signals.length):ziS p (nth p.signals i).id=true:=List.any_eq_true.2 ⟨_,zab hi,by simp⟩
theorem zqt {p:Pln} (ho:OkP p) {m:Nat} (hm:m<p.routes.length):zaW (fun x=>decide (Rte.id x=(nth p.routes m).id)) 0 p.routes=(m:Int):=by
 rcases zaP Rte.id (nth p.routes m).id p.routes with ⟨_,h4⟩|⟨k,hk,h4,h5⟩
 ·exact absurd rfl (h4 _ (zab hm))
 ·rw[h4,zj4 Rte.id (zfD ho) hk hm h5]
theorem int_gt {l:List Int} {k:Nat} (h:k<l.length):(l.map zck).flatten[k]?=some (.n (nth l k)):=by
 have:=zhg (c:=zck) (l:=l) (k:=k) (i:=0) h (by omega)
 rw[Nat.mul_one,Nat.add_zero]at this
 rw[this]
 rfl
end Go.Lev
namespace Go.Lev
open Go.Eng
set_option maxRecDepth 10000
set_option maxHeartbeats 4000000
variable {P:Program} {inv:Nat→Option Nat} {w0:World} {M:Nat→Prop}
theorem smC:Sm zcZ:=⟨by decide,by decide,by decide,by decide,by decide,by decide⟩
theorem smQ:SmS stQ:=⟨by decide,by decide,by decide⟩
theorem okC:za3 zcZ=true:=by decide +kernel
theorem atC:atS zcZ=stN:=by decide +kernel
theorem zi5 (b:Nat) (s:State) (t:Bool):zed 4 (zl0 b s) (.tup [zlZ b s,.b t])=.tup [.agg s.c,.b t]:=by
 rw[zeZ,zca,zca,zdZ,zkF,sn_b]
end Go.Lev
namespace Go.Lev
open Go.Eng
set_option maxRecDepth 10000
set_option maxHeartbeats 4000000
variable {P:Program} {inv:Nat→Option Nat} {w0:World} {M:Nat→Prop}
theorem zoS {p:Pln} {s:State} {n v:Int} (h:zac p s=0):zbz p s n v=0↔zmE s n∧(0≤v∧v≤2):=by
 unfold zbz
 rw[if_pos h]
 by_cases h1:zmE s n
 ·rw[if_pos h1]
  by_cases h2:0≤v∧v≤2
  ·rw[if_pos h2];simp[h1,h2]
  ·rw[if_neg h2];simp[h2]
 ·rw[if_neg h1];simp[h1]
end Go.Lev
namespace Go.Lev
open Go.Eng
set_option maxRecDepth 10000
set_option maxHeartbeats 4000000
variable {P:Program} {inv:Nat→Option Nat} {w0:World} {M:Nat→Prop}
theorem zmi {s:State} (h:SmS s) (n v:Int):SmS (zhx s n v):=⟨by unfold zhx;dsimp only;rw[zbE];exact h.1,h.2⟩
end Go.Lev
namespace Go.Lev
open Go.Eng
set_option maxRecDepth 10000
set_option maxHeartbeats 4000000
variable {P:Program} {inv:Nat→Option Nat} {w0:World} {M:Nat→Prop}
theorem zk9 (hH:HasAll P inv):PC P inv 197 [] (·=.agg zcZ.c):=by
 have h:PC P inv 197 [] (·=.agg [.n 1,.n 0,.sl 3 (zcZ.sections.map Section.c),.sl 2 (zcZ.points.map Pnt.c),.sl 3 (zcZ.signals.map Sgn.c),.sl 7 [[.n 1,.n 1,.n 0,.sl 1 [[.n 2],[.n 3]],.s0 1,.s0 2,.n 3],[.n 2,.n 1,.n 0,.sl 1 [[.n 2],[.n 4]],.s0 1,.s0 2,.n 4]]]):=by
  refine PC.fn hH cd197 fun w0 M Q hM hE hQ hR=>?_;dsimp only[cd197,qm,ql,qf,qi,qb,qc,qp,qv,qN,qT,qF,qt]at hQ ⊢
  (repeat' first|refine zaa [0] fun K hK=>?_|(refine hK.go ?_;clear hK K)|with_reducible exact wT|refine wA ?_|(refine wB (fun h=>?_) (fun h=>?_)<;>first|exact wN h|subst (h:(_:Bool)=_)|skip)|(refine wQ ?_;clear hQ hR hE hM)|fail)
  rfl
 exact h.nzr
theorem zos (hH:HasAll P inv) (hI:HasIds P inv):PC P inv 196 [] (·=.tup [.agg stQ.c,.b true]):=by
 suffices h:PO P inv 196 [] (.tup [zlZ 3 stQ,.b true]) (zl0 3 stQ) by
  have:=h.pc
  rw[zi5]at this
  exact this
 have c0:=zk9 hH
 have c1:=sAt_po hH hI zcZ smC okC
 rw[atC]at c1
 unfold stV stR at c1
 have e1:stN.tracks.length=4:=rfl
 have e2:stN.switches.length=1:=rfl
 have e3:stN.locks.length=2:=rfl
 have q1:stN.tracks.mapIdx ziV=stQ.tracks:=rfl
 have q2:stN.switches=stQ.switches:=rfl
 have q3:stN.locks=stQ.locks:=rfl
 have r1:stQ.tracks.length=4:=rfl
 have r2:stQ.switches.length=1:=rfl
 have r3:stQ.locks.length=2:=rfl
 generalize stN=S at *
 generalize stQ=T at *
 rw[e1,e2,e3]at c1
 refine PO.fn hH cd196 fun w0 M Q hM hE hQ hR=>?_;dsimp only[cd196,qm,ql,qf,qi,qb,qc,qp,qv,qN,qT,qF,qt]at hQ ⊢
 (have hX:=zA @e1 (zA @e2 @e3);(repeat' first|refine zaa [0,1,2,3,4,14] fun K hK=>?_|(refine hK.go ?_;clear hK K)|with_reducible exact wT|refine wA ?_|(refine wB (fun h=>?_) (fun h=>?_)<;>first|exact wN h|subst (h:(_:Bool)=_)|skip)|(refine wR ?_;clear hQ hR hE hM)|refine wC c0 ?_|refine wO c1 ?_|fail);all_goals clear hX)
 refine zai (ι:=Nat) [0,1,2,3,4] (fun z=>[(4,.n z)]) (fun z=>[(3,.cells ((ze8 ziV z S.tracks).map Track.c).flatten true)]) (fun z=>z) (4) (fun _=>True) (0) ?_;rintro k ⟨hk,-⟩;(try dsimp only at hk ⊢);rcases Nat.lt_or_ge k 4 with hlt|hge
 ·have hk:k<S.tracks.length:=by omega
  have d1:=zex ziV hk
  have d2:=zcO (c:=Track.c) (l:=ze8 ziV k S.tracks) (k:=k) (i:=1) (by rw[zbX];exact hk) (by omega) (.i .u8 0) (ziV k (nth S.tracks k)) (by rw[zcw _ hk];rfl)
  rw[d1]at d2
  (have hX:=@d2;(repeat' first|refine zaa [0,1,2,3,4,14] fun K hK=>?_|(refine hK.go ?_;clear hK K)|with_reducible exact wT|refine wA ?_|(refine wB (fun h=>?_) (fun h=>?_)<;>first|exact wN h|subst (h:(_:Bool)=_)|skip)|(refine wR ?_;clear hQ hR hE hM)|fail);all_goals clear hX)
  exact ⟨k+1,by omega,by omega,by omega,rfl⟩
 ·rw[zey _ (by omega),q1]
  (repeat' first|refine zaa [0,1,2,3,4,14] fun K hK=>?_|(refine hK.go ?_;clear hK K)|with_reducible exact wT|refine wA ?_|(refine wB (fun h=>?_) (fun h=>?_)<;>first|exact wN h|subst (h:(_:Bool)=_)|skip)|(refine wR ?_;clear hQ hR hE hM)|fail)
  all_goals first|(exfalso;omega)|skip
  left
  unfold zlZ zl0
  rw[r1,r2,r3,←q2,←q3]
  constructor
  ·(try (refine no_implicit_lambda% (st ?_);try with_reducible exact wT))
   first|rfl|(simp;done)|trace_state
  ·(try (refine no_implicit_lambda% (st ?_);try with_reducible exact wT))
   first|rfl|(simp;done)|trace_state
theorem setQ1:lkC zcZ stQ 1=0:=by decide +kernel
theorem setQ2:lkS zcZ stQ 1=zpa:=by decide +kernel
theorem smQ1:SmS zpa:=⟨by decide,by decide,by decide⟩
theorem smQ2:SmS stQ2:=⟨by decide,by decide,by decide⟩
theorem det12:zbz zcZ zpa 5 1=0∧ziQ zcZ zpa 5 1=stQ2:=by
 have h:zbz zcZ zpa 5 1=0:=(zoS (by decide +kernel)).2 ⟨⟨⟨5,0,1⟩,by decide,rfl⟩,by decide⟩
 exact ⟨h,by unfold ziQ;rw[if_pos h];rfl⟩
theorem zjA (hH:HasAll P inv) (hI:HasIds P inv):PC P inv 195 [] (·=.b true):=by
 have c0:=zk9 hH
 have c1:=zos hH hI
 have c2:=zjg hH hI zcZ smC stQ smQ 1
 have c3:=zcy hH hI zcZ smC zpa smQ1 1
 have c4:=zlD hH hI zcZ smC zpa smQ1 5 1
 have c5:=zcy hH hI zcZ smC stQ2 smQ2 1
 rw[setQ1,setQ2]at c2
 rw[show sgC zcZ zpa 1=0 by decide +kernel,show goB zcZ zpa 1=false by decide +kernel]at c3
 rw[det12.1,det12.2]at c4
 rw[show sgC zcZ stQ2 1=0 by decide +kernel,show goB zcZ stQ2 1=true by decide +kernel]at c5
 unfold stQ at c1 c2
 unfold zpa at c2 c3 c4
 unfold stQ2 at c4 c5
 refine PC.fn hH cd195 fun w0 M Q hM hE hQ hR=>?_;dsimp only[cd195,qm,ql,qf,qi,qb,qc,qp,qv,qN,qT,qF,qt]at hQ ⊢
 (repeat' first|refine zaa [0,1,2,3,4,5,6,7,8,9,17,23,35] fun K hK=>?_|(refine hK.go ?_;clear hK K)|with_reducible exact wT|refine wA ?_|(refine wB (fun h=>?_) (fun h=>?_)<;>first|exact wN h|subst (h:(_:Bool)=_)|skip)|(refine wQ ?_;clear hQ hR hE hM)|refine wC c1 ?_|refine wU c0 ?_|refine wU c2 ?_|refine wU c3 ?_|refine wU c4 ?_|refine wU c5 ?_|refine wC c0 ?_|refine wC c2 ?_|refine wC c3 ?_|refine wC c4 ?_|refine wC c5 ?_|fail)
 all_goals first|rfl|(exfalso;contradiction)|trace_state
end Go.Lev
namespace Go.Lev
open Go.Eng
set_option maxRecDepth 10000
set_option maxHeartbeats 4000000
variable {P:Program} {inv:Nat→Option Nat} {w0:World} {M:Nat→Prop}
theorem proveJust_pc (hH:HasAll P inv) (hI:HasIds P inv) (p:Pln) (hp:Pln.ok p) (s:State) (at':Int):PC P inv 338 [.agg p.c,.agg s.c,.n at'] (·=.b true):=by
 have c0:=zjA hH hI
 have c1:=zbO hH p
 have c2:=zcX hH s
 cases g1:zeo p with
 |true =>
  rw[g1]at c1
  refine PC.fn hH cd338 fun w0 M Q hM hE hQ hR=>?_;dsimp only[cd338,qm,ql,qf,qi,qb,qc,qp,qv,qN,qT,qF,qt]at hQ ⊢
  (repeat' first|refine zaa [0,1,2,3,4,6,7,8,9,10,11,12,13,14,15,16,17,45,56,75,88,92,99,129,136] fun K hK=>?_|(refine hK.go ?_;clear hK K)|with_reducible exact wT|refine wA ?_|(refine wB (fun h=>?_) (fun h=>?_)<;>first|exact wN h|subst (h:(_:Bool)=_)|skip)|(refine wQ ?_;clear hQ hR hE hM)|refine wC c0 ?_|refine wC c1 ?_|fail)
 |false =>
  rw[g1]at c1
  cases g2:zfU s with
  |true =>
   rw[g2]at c2
   refine PC.fn hH cd338 fun w0 M Q hM hE hQ hR=>?_;dsimp only[cd338,qm,ql,qf,qi,qb,qc,qp,qv,qN,qT,qF,qt]at hQ ⊢
   (repeat' first|refine zaa [0,1,2,3,4,6,7,8,9,10,11,12,13,14,15,16,17,45,56,75,88,92,99,129,136] fun K hK=>?_|(refine hK.go ?_;clear hK K)|with_reducible exact wT|refine wA ?_|(refine wB (fun h=>?_) (fun h=>?_)<;>first|exact wN h|subst (h:(_:Bool)=_)|skip)|(refine wQ ?_;clear hQ hR hE hM)|refine wC c0 ?_|refine wC c1 ?_|refine wC c2 ?_|fail)
  |false =>
   rw[g2]at c2
   have sp:=zmc hp g1
   have ss:=zhp g2
   have c3:=zbR hH hI p sp s ss
   have hrl:=sp.rte
   by_cases hst:zac p s=0∧0≤at'∧at'<p.routes.length
   ·obtain ⟨hst,ha1,ha2⟩:=hst
    obtain ⟨i,rfl⟩:∃ i:Nat,at'=i:=⟨at'.toNat,by omega⟩
    have hi:i<p.routes.length:=by omega
    rw[hst]at c3
    have ho:=zap hst
    have hpa:=(zae hst).2.1
    have hpl:=zan hpa
    have hr:nth p.routes i∈p.routes:=zab hi
    have hwl:=zbI ho hr
    have his:i<s.locks.length:=by omega
    have c4:=zbr hH hI p sp s ss (nth p.routes i).id
    have e1:zoi p (nth p.routes i).id=(i:Int):=zqt ho hi
    rw[(show prC p s (nth p.routes i).id=0 by unfold prC;rw[if_pos hst,e1,if_neg (by omega)]),(show prR p s (nth p.routes i).id=zaS p s (nth p.routes i) by unfold prR;rw[e1,if_neg (by omega),Int.toNat_natCast])]at c4
    have c5:=zpj hH hI p sp (nth s.locks i).id
    rw[ofW_at hst his,←rt_id hpa his]at c5
    dsimp only at c5
    have hF:=pjF_eq hst hi
    generalize hX:zaS p s (nth p.routes i)=X at c4 hF
    have hl1:=ss.1
    have hl2:=ss.2.1
    have hl3:=ss.2.2
    have f0:((zah p (nth p.routes i)).1.path.map zck).flatten++((zah p (nth p.routes i)).1.over.map zck).flatten=((zbj p i).map zck).flatten:=by unfold zbj;simp
    have f1:(zah p (nth p.routes i)).1.path.length+(zah p (nth p.routes i)).1.over.length=(zbj p i).length:=by unfold zbj;simp
    have hask:(zah p (nth p.routes i)).1.asks=za1 p i:=rfl
    clear hst ho hpa hpl hr e1 hX
    unfold pjF at hF
    generalize zbj p i=all at *
    generalize za1 p i=asl9 at *
    generalize (zah p (nth p.routes i)).1=w at *
    obtain ⟨wp,wo,wa,wn⟩:=w
    dsimp only at c5 hwl f0 f1 hask
    subst hask
    refine PC.fn hH cd338 fun w0 M Q hM hE hQ hR=>?_;dsimp only[cd338,qm,ql,qf,qi,qb,qc,qp,qv,qN,qT,qF,qt]at hQ ⊢
    skip
    (have hX:=zA @f0 @f1;(repeat' first|refine zaa [0,1,2,3,4,6,7,8,9,10,11,12,13,14,15,16,17,45,56,75,88,92,99,129,136] fun K hK=>?_|(refine hK.go ?_;clear hK K)|with_reducible exact wT|refine wA ?_|(refine wE (fun h0 h=>?_) (fun h0 h=>?_)<;>first|exact wN h|((try replace hF:=wX hF);clear h0;first|exact hF.elim|((try subst (h:(_:Bool)=_));try replace hF:=wX hF)))|(refine wQ ?_;clear hQ hR hE hM)|refine wC c0 ?_|refine wC c1 ?_|refine wC c2 ?_|refine wC c3 ?_|refine wC c4 ?_|refine wC c5 ?_|refine wU c5 ?_|fail);all_goals clear hX)
    all_goals first|(exfalso;contradiction)|skip
    refine zaJ hF fun Bd Ed hBd hEd hF=>?_;refine zai (ι:=Nat×Bool) [4,6,7,8,10,12,13,14] (fun z=>[(12,.b z.2),(14,.n z.1)]) (fun _=>[]) (fun z=>z.1) (all.length) (fun z=>(zaB Bd Ed (all.length-z.1) z.1 z.2=X)) (0,decide ((nth s.locks i).phase=1)) ?_;rintro ⟨a,t⟩ ⟨hk,hF⟩;(try dsimp only at hk hF ⊢);rcases Nat.lt_or_ge a all.length with hlt|hge
    ·rw[zar hBd hlt]at hF;(try dsimp only at hF)
     have ha9:a<all.length:=by assumption
     have d0:=int_gt ha9
     (repeat' first|refine zaa [0,1,2,3,4,6,7,8,9,10,11,12,13,14,15,16,17,45,56,75,88,92,99,129,136] fun K hK=>?_|(refine hK.go ?_;clear hK K)|with_reducible exact wT|refine wA ?_|(refine wE (fun h0 h=>?_) (fun h0 h=>?_)<;>first|exact wN h|((try replace hF:=wX hF);clear h0;first|exact hF.elim|((try subst (h:(_:Bool)=_));try replace hF:=wX hF)))|(refine wQ ?_;clear hQ hR hE hM)|fail)
     refine zaJ hF fun Bd Ed hBd hEd hF=>?_;refine zai (ι:=Nat×Bool) [4,6,7,8,10,12,13,14,15] (fun z=>[(12,.b z.2),(15,.n z.1)]) (fun _=>[]) (fun z=>z.1) (s.tracks.length) (fun z=>(zaB Bd Ed (s.tracks.length-z.1) z.1 z.2=X)) (0,t) ?_;rintro ⟨k,t⟩ ⟨hk,hF⟩;(try dsimp only at hk hF ⊢);rcases Nat.lt_or_ge k s.tracks.length with hlt|hge
     ·rw[zar hBd hlt]at hF;(try dsimp only at hF)
      (have hX:=@d0;(repeat' first|refine zaa [0,1,2,3,4,6,7,8,9,10,11,12,13,14,15,16,17,45,56,75,88,92,99,129,136] fun K hK=>?_|(refine hK.go ?_;clear hK K)|with_reducible exact wT|refine wA ?_|(refine wE (fun h0 h=>?_) (fun h0 h=>?_)<;>first|exact wN h|((try replace hF:=wX hF);clear h0;first|exact hF.elim|((try subst (h:(_:Bool)=_));try replace hF:=wX hF)))|(refine wQ ?_;clear hQ hR hE hM)|fail);all_goals clear hX)
      all_goals first|(exfalso;contradiction)|exact nX (k+1,_)
     ·rw[zaI hge,hEd]at hF;(try dsimp only at hF)
      (repeat' first|refine zaa [0,1,2,3,4,6,7,8,9,10,11,12,13,14,15,16,17,45,56,75,88,92,99,129,136] fun K hK=>?_|(refine hK.go ?_;clear hK K)|with_reducible exact wT|refine wA ?_|(refine wE (fun h0 h=>?_) (fun h0 h=>?_)<;>first|exact wN h|((try replace hF:=wX hF);clear h0;first|exact hF.elim|((try subst (h:(_:Bool)=_));try replace hF:=wX hF)))|(refine wQ ?_;clear hQ hR hE hM)|fail)
      all_goals exact nX (a+1,_)
    ·rw[zaI hge,hEd]at hF;(try dsimp only at hF)
     (repeat' first|refine zaa [0,1,2,3,4,6,7,8,9,10,11,12,13,14,15,16,17,45,56,75,88,92,99,129,136] fun K hK=>?_|(refine hK.go ?_;clear hK K)|with_reducible exact wT|refine wA ?_|(refine wE (fun h0 h=>?_) (fun h0 h=>?_)<;>first|exact wN h|((try replace hF:=wX hF);clear h0;first|exact hF.elim|((try subst (h:(_:Bool)=_));try replace hF:=wX hF)))|(refine wQ ?_;clear hQ hR hE hM)|fail)
     refine zaJ hF fun Bd Ed hBd hEd hF=>?_;refine zai (ι:=Nat×Bool) [4,6,7,8,10,12,16] (fun z=>[(12,.b z.2),(16,.n z.1)]) (fun _=>[]) (fun z=>z.1) (wa.length) (fun z=>(zaB Bd Ed (wa.length-z.1) z.1 z.2=X)) (0,t) ?_;rintro ⟨a,t⟩ ⟨hk,hF⟩;(try dsimp only at hk hF ⊢);rcases Nat.lt_or_ge a wa.length with hlt|hge
     ·rw[zar hBd hlt]at hF;(try dsimp only at hF)
      (repeat' first|refine zaa [0,1,2,3,4,6,7,8,9,10,11,12,13,14,15,16,17,45,56,75,88,92,99,129,136] fun K hK=>?_|(refine hK.go ?_;clear hK K)|with_reducible exact wT|refine wA ?_|(refine wE (fun h0 h=>?_) (fun h0 h=>?_)<;>first|exact wN h|((try replace hF:=wX hF);clear h0;first|exact hF.elim|((try subst (h:(_:Bool)=_));try replace hF:=wX hF)))|(refine wQ ?_;clear hQ hR hE hM)|fail)
      refine zaJ hF fun Bd Ed hBd hEd hF=>?_;refine zai (ι:=Nat×Bool) [4,6,7,8,10,12,16,17] (fun z=>[(12,.b z.2),(17,.n z.1)]) (fun _=>[]) (fun z=>z.1) (s.switches.length) (fun z=>(zaB Bd Ed (s.switches.length-z.1) z.1 z.2=X)) (0,t) ?_;rintro ⟨k,t⟩ ⟨hk,hF⟩;(try dsimp only at hk hF ⊢);rcases Nat.lt_or_ge k s.switches.length with hlt|hge
      ·rw[zar hBd hlt]at hF;(try dsimp only at hF)
       (repeat' first|refine zaa [0,1,2,3,4,6,7,8,9,10,11,12,13,14,15,16,17,45,56,75,88,92,99,129,136] fun K hK=>?_|(refine hK.go ?_;clear hK K)|with_reducible exact wT|refine wA ?_|(refine wE (fun h0 h=>?_) (fun h0 h=>?_)<;>first|exact wN h|((try replace hF:=wX hF);clear h0;first|exact hF.elim|((try subst (h:(_:Bool)=_));try replace hF:=wX hF)))|(refine wQ ?_;clear hQ hR hE hM)|fail)
       all_goals first|(exfalso;contradiction)|exact nX (k+1,_)
      ·rw[zaI hge,hEd]at hF;(try dsimp only at hF)
       (repeat' first|refine zaa [0,1,2,3,4,6,7,8,9,10,11,12,13,14,15,16,17,45,56,75,88,92,99,129,136] fun K hK=>?_|(refine hK.go ?_;clear hK K)|with_reducible exact wT|refine wA ?_|(refine wE (fun h0 h=>?_) (fun h0 h=>?_)<;>first|exact wN h|((try replace hF:=wX hF);clear h0;first|exact hF.elim|((try subst (h:(_:Bool)=_));try replace hF:=wX hF)))|(refine wQ ?_;clear hQ hR hE hM)|fail)
       all_goals exact nX (a+1,_)
     ·rw[zaI hge,hEd]at hF;(try dsimp only at hF)
      (repeat' first|refine zaa [0,1,2,3,4,6,7,8,9,10,11,12,13,14,15,16,17,45,56,75,88,92,99,129,136] fun K hK=>?_|(refine hK.go ?_;clear hK K)|with_reducible exact wT|refine wA ?_|(refine wE (fun h0 h=>?_) (fun h0 h=>?_)<;>first|exact wN h|((try replace hF:=wX hF);clear h0;first|exact hF.elim|((try subst (h:(_:Bool)=_));try replace hF:=wX hF)))|(refine wQ ?_;clear hQ hR hE hM)|fail)
      all_goals first|rfl|(exfalso;contradiction)|(rw[hF];simp;done)|(simp[hF];done)|trace_state
   ·have key:¬zac p s=0∨at'<0∨(p.routes.length:Int)≤at':=by
     by_cases h1:zac p s=0
     ·right
      by_cases h2:at'<0
      ·exact .inl h2
      ·exact .inr (by omega)
     ·exact .inl h1
    clear hst
    generalize zac p s=e at *
    refine PC.fn hH cd338 fun w0 M Q hM hE hQ hR=>?_;dsimp only[cd338,qm,ql,qf,qi,qb,qc,qp,qv,qN,qT,qF,qt]at hQ ⊢
    (repeat' first|refine zaa [0,1,2,3,4,6,7,8,9,10,11,12,13,14,15,16,17,45,56,75,88,92,99,129,136] fun K hK=>?_|(refine hK.go ?_;clear hK K)|with_reducible exact wT|refine wA ?_|(refine wB (fun h=>?_) (fun h=>?_)<;>first|exact wN h|subst (h:(_:Bool)=_)|skip)|(refine wQ ?_;clear hQ hR hE hM)|refine wC c0 ?_|refine wC c1 ?_|refine wC c2 ?_|refine wC c3 ?_|fail)
    all_goals first|rfl|(exfalso;contradiction)|(exfalso;omega)|trace_state
end Go.Lev
namespace Go.Eng
end Go.Eng
namespace Go.Lev
open Go.Eng
set_option maxRecDepth 10000
set_option maxHeartbeats 2000000
variable {P:Program} {inv:Nat→Option Nat} {w0:World} {M:Nat→Prop}
theorem smZ:SmS State.z:=⟨by decide,by decide,by decide⟩
end Go.Lev
namespace Go.Lev
open Go.Eng
set_option maxRecDepth 10000
set_option maxHeartbeats 4000000
variable {P:Program} {inv:Nat→Option Nat} {w0:World} {M:Nat→Prop}
theorem zpF (p:Pln) {s:State} (h:SmS s) (n v:Int):SmS (secR p s n v):=by
 unfold secR
 split
 ·exact zmi h _ _
 ·exact smZ
theorem znk {s:State} (h:SmS s) (n v:Int):SmS (zkQ s n v):=⟨h.1,by unfold zkQ;dsimp only;rw[zbE];exact h.2.1,h.2.2⟩
theorem zra (p:Pln) {s:State} (h:SmS s) (n v:Int):SmS (ziQ p s n v):=by
 unfold ziQ
 split
 ·exact znk h _ _
 ·exact smZ
theorem zqH (p:Pln) {s:State} (h:SmS s):SmS (zcL p s):=by
 unfold zcL
 split
 ·exact ⟨by simp[zgS];exact h.1,by simp[zgS];exact h.2.1,by simp[zgS];exact h.2.2⟩
 ·exact smZ
theorem zp0 {p:Pln} {s:State} {n:Int} (h:prC p s n=0):zac p s=0∧∃ i,i<p.routes.length∧zoi p n=(i:Int)∧(nth p.routes i).id=n:=by
 unfold prC at h
 split at h
 ·rename_i hst
  refine ⟨hst, ?_⟩
  rcases zaP Rte.id n p.routes with ⟨h4,_⟩|⟨i,hi,h4,h5⟩
  ·rw[show zoi p n=-1 from h4,if_pos (by decide)]at h
   cases h
  ·exact ⟨i,hi,h4,h5⟩
 ·rename_i hst
  exact absurd h hst
theorem zeh {p:Pln} {t:State} {n:Int} {i:Nat} (h:zac p t=0) (hi:zoi p n=(i:Int)):prC p t n=0∧prR p t n=zaS p t (nth p.routes i):=by
 unfold prC prR
 rw[if_pos h,hi,if_neg (by omega),if_neg (by omega),Int.toNat_natCast]
 exact ⟨rfl,rfl⟩
theorem falls_T {p:Pln} {s:State} {n m:Int} (h:prC p s m=0) (he:zb2 p s n 1=0):prC p (secR p s n 1) m=0∧(prR p (secR p s n 1) m=true→prR p s m=true):=by
 obtain ⟨hst,i,hi,e1,_⟩:=zp0 h
 have e2:secR p s n 1=zhx s n 1:=by unfold secR;rw[if_pos he]
 rw[e2,(zeh hst e1).2,(zeh (zee hst (by decide)) e1).2]
 exact ⟨(zeh (zee hst (by decide)) e1).1,fun e=>(prv_T hst hi e).1⟩
theorem falls_L {p:Pln} {s:State} {n m:Int} (h:prC p s m=0) (he:zbz p s n 0=0):prC p (ziQ p s n 0) m=0∧(prR p (ziQ p s n 0) m=true→prR p s m=true):=by
 obtain ⟨hst,i,hi,e1,_⟩:=zp0 h
 have e2:ziQ p s n 0=zkQ s n 0:=by unfold ziQ;rw[if_pos he]
 rw[e2,(zeh hst e1).2,(zeh (zdq hst (by decide)) e1).2]
 exact ⟨(zeh (zdq hst (by decide)) e1).1,fun e=>prv_L hst hi e⟩
theorem falls_I {p:Pln} {s:State} {m:Int} (h:prC p s m=0):zac p s=0∧prC p (zcL p s) m=0∧prR p (zcL p s) m=false:=by
 obtain ⟨hst,i,hi,e1,_⟩:=zp0 h
 have e2:zcL p s=zgS p s:=by unfold zcL;rw[if_pos hst]
 rw[e2,(zeh (zcN hst) e1).2]
 exact ⟨hst,(zeh (zcN hst) e1).1,prv_I hst hi⟩
theorem proveFalls_pc (hH:HasAll P inv) (hI:HasIds P inv) (p:Pln) (hp:Pln.ok p) (s:State) (n m i:Int):PC P inv 340 [.agg p.c,.agg s.c,.n n,.n m,.n i] (·=.b true):=by
 have c0:=zjA hH hI
 have c1:=zbO hH p
 have c2:=zcX hH s
 cases g1:zeo p with
 |true =>
  rw[g1]at c1
  refine PC.fn hH cd340 fun w0 M Q hM hE hQ hR=>?_;dsimp only[cd340,qm,ql,qf,qi,qb,qc,qp,qv,qN,qT,qF,qt]at hQ ⊢
  (repeat' first|refine zaa [0,1,2,3,4,5,6,10,11,12,13,14,15,16,17,18,19,20,21,22,23,34,44,58,74,83,99] fun K hK=>?_|(refine hK.go ?_;clear hK K)|with_reducible exact wT|refine wA ?_|(refine wB (fun h=>?_) (fun h=>?_)<;>first|exact wN h|subst (h:(_:Bool)=_)|skip)|(refine wQ ?_;clear hQ hR hE hM)|refine wC c0 ?_|refine wC c1 ?_|fail)
 |false =>
  rw[g1]at c1
  cases g2:zfU s with
  |true =>
   rw[g2]at c2
   refine PC.fn hH cd340 fun w0 M Q hM hE hQ hR=>?_;dsimp only[cd340,qm,ql,qf,qi,qb,qc,qp,qv,qN,qT,qF,qt]at hQ ⊢
   (repeat' first|refine zaa [0,1,2,3,4,5,6,10,11,12,13,14,15,16,17,18,19,20,21,22,23,34,44,58,74,83,99] fun K hK=>?_|(refine hK.go ?_;clear hK K)|with_reducible exact wT|refine wA ?_|(refine wB (fun h=>?_) (fun h=>?_)<;>first|exact wN h|subst (h:(_:Bool)=_)|skip)|(refine wQ ?_;clear hQ hR hE hM)|refine wC c0 ?_|refine wC c1 ?_|refine wC c2 ?_|fail)
  |false =>
   rw[g2]at c2
   have sp:=zmc hp g1
   have ss:=zhp g2
   have c3:=zbr hH hI p sp s ss i
   have c4:=zpE hH hI p sp s ss n 1
   have c5:=zbr hH hI p sp _ (zpF p ss n 1) i
   have c6:=zlD hH hI p sp s ss m 0
   have c7:=zbr hH hI p sp _ (zra p ss m 0) i
   have c8:=zkh hH hI p sp s ss
   have c9:=zbr hH hI p sp _ (zqH p ss) i
   have f5:prC p s i=0→zb2 p s n 1=0→_:=fun h he=>falls_T (m:=i) h he
   have f7:prC p s i=0→zbz p s m 0=0→_:=fun h he=>falls_L (m:=i) h he
   have f9:prC p s i=0→_:=fun h=>falls_I (m:=i) h
   generalize secR p s n 1=A at *
   generalize ziQ p s m 0=B at *
   generalize zcL p s=I at *
   generalize zb2 p s n 1=eA at *
   generalize zbz p s m 0=eB at *
   generalize zac p s=eI at *
   by_cases he:prC p s i=0
   ·have f9:=f9 he
    rw[f9.2.1,f9.2.2]at c9
    rw[f9.1]at c8
    replace f5:=f5 he
    replace f7:=f7 he
    rw[he]at c3
    clear he f9
    generalize prR p s i=w at *
    generalize prC p A i=kA at *
    generalize prC p B i=kB at *
    generalize prR p A i=a at *
    generalize prR p B i=b at *
    have k5:eA=0→kA=0:=fun h=>(f5 h).1
    have k7:eB=0→kB=0:=fun h=>(f7 h).1
    have q5:eA=0→a=true→w=true:=fun h=>(f5 h).2
    have q7:eB=0→b=true→w=true:=fun h=>(f7 h).2
    clear f5 f7
    refine PC.fn hH cd340 fun w0 M Q hM hE hQ hR=>?_;dsimp only[cd340,qm,ql,qf,qi,qb,qc,qp,qv,qN,qT,qF,qt]at hQ ⊢
    (repeat' first|refine zaa [0,1,2,3,4,5,6,10,11,12,13,14,15,16,17,18,19,20,21,22,23,34,44,58,74,83,99] fun K hK=>?_|(refine hK.go ?_;clear hK K)|with_reducible exact wT|refine wA ?_|(refine wB (fun h=>?_) (fun h=>?_)<;>first|exact wN h|subst (h:(_:Bool)=_)|skip)|(refine wQ ?_;clear hQ hR hE hM)|refine wC c0 ?_|refine wC c1 ?_|refine wC c2 ?_|refine wC c3 ?_|refine wC c4 ?_|refine wC c5 ?_|refine wC c6 ?_|refine wC c7 ?_|refine wC c8 ?_|refine wC c9 ?_|fail)
    all_goals first|rfl|(exfalso;contradiction)|(exfalso;clear c0 c1 c2 c3 c4 c5 c6 c7 c8 c9 hH hI;simp_all;done)|trace_state
   ·rw[decide_eq_false he]at c3
    generalize prC p s i=e at *
    clear f5 f7 f9
    refine PC.fn hH cd340 fun w0 M Q hM hE hQ hR=>?_;dsimp only[cd340,qm,ql,qf,qi,qb,qc,qp,qv,qN,qT,qF,qt]at hQ ⊢
    (repeat' first|refine zaa [0,1,2,3,4,5,6,10,11,12,13,14,15,16,17,18,19,20,21,22,23,34,44,58,74,83,99] fun K hK=>?_|(refine hK.go ?_;clear hK K)|with_reducible exact wT|refine wA ?_|(refine wB (fun h=>?_) (fun h=>?_)<;>first|exact wN h|subst (h:(_:Bool)=_)|skip)|(refine wQ ?_;clear hQ hR hE hM)|refine wC c0 ?_|refine wC c1 ?_|refine wC c2 ?_|refine wC c3 ?_|fail)
    all_goals first|rfl|(exfalso;contradiction)|trace_state
end Go.Lev
namespace Go.Lev
open Go.Eng
set_option maxRecDepth 10000
set_option maxHeartbeats 4000000
variable {P:Program} {inv:Nat→Option Nat} {w0:World} {M:Nat→Prop}
theorem zk8 (hH:HasAll P inv):PC P inv 203 [] (·=.agg zcZ.c):=by
 have h:PC P inv 203 [] (·=.agg [.n 1,.n 0,.sl 3 (zcZ.sections.map Section.c),.sl 2 (zcZ.points.map Pnt.c),.sl 3 (zcZ.signals.map Sgn.c),.sl 7 [[.n 1,.n 1,.n 0,.sl 1 [[.n 2],[.n 3]],.s0 1,.s0 2,.n 3],[.n 2,.n 1,.n 0,.sl 1 [[.n 2],[.n 4]],.s0 1,.s0 2,.n 4]]]):=by
  refine PC.fn hH cd203 fun w0 M Q hM hE hQ hR=>?_;dsimp only[cd203,qm,ql,qf,qi,qb,qc,qp,qv,qN,qT,qF,qt]at hQ ⊢
  (repeat' first|refine zaa [0] fun K hK=>?_|(refine hK.go ?_;clear hK K)|with_reducible exact wT|refine wA ?_|(refine wB (fun h=>?_) (fun h=>?_)<;>first|exact wN h|subst (h:(_:Bool)=_)|skip)|(refine wQ ?_;clear hQ hR hE hM)|fail)
  rfl
 exact h.nzr
theorem zor (hH:HasAll P inv) (hI:HasIds P inv):PC P inv 201 [] (·=.tup [.agg stQ.c,.b true]):=by
 suffices h:PO P inv 201 [] (.tup [zlZ 3 stQ,.b true]) (zl0 3 stQ) by
  have:=h.pc
  rw[zi5]at this
  exact this
 have c0:=zk8 hH
 have c1:=sAt_po hH hI zcZ smC okC
 rw[atC]at c1
 unfold stV stR at c1
 have e1:stN.tracks.length=4:=rfl
 have e2:stN.switches.length=1:=rfl
 have e3:stN.locks.length=2:=rfl
 have q1:stN.tracks.mapIdx ziV=stQ.tracks:=rfl
 have q2:stN.switches=stQ.switches:=rfl
 have q3:stN.locks=stQ.locks:=rfl
 have r1:stQ.tracks.length=4:=rfl
 have r2:stQ.switches.length=1:=rfl
 have r3:stQ.locks.length=2:=rfl
 generalize stN=S at *
 generalize stQ=T at *
 rw[e1,e2,e3]at c1
 refine PO.fn hH cd201 fun w0 M Q hM hE hQ hR=>?_;dsimp only[cd201,qm,ql,qf,qi,qb,qc,qp,qv,qN,qT,qF,qt]at hQ ⊢
 (have hX:=zA @e1 (zA @e2 @e3);(repeat' first|refine zaa [0,1,2,3,4,14] fun K hK=>?_|(refine hK.go ?_;clear hK K)|with_reducible exact wT|refine wA ?_|(refine wB (fun h=>?_) (fun h=>?_)<;>first|exact wN h|subst (h:(_:Bool)=_)|skip)|(refine wR ?_;clear hQ hR hE hM)|refine wC c0 ?_|refine wO c1 ?_|fail);all_goals clear hX)
 refine zai (ι:=Nat) [0,1,2,3,4] (fun z=>[(4,.n z)]) (fun z=>[(3,.cells ((ze8 ziV z S.tracks).map Track.c).flatten true)]) (fun z=>z) (4) (fun _=>True) (0) ?_;rintro k ⟨hk,-⟩;(try dsimp only at hk ⊢);rcases Nat.lt_or_ge k 4 with hlt|hge
 ·have hk:k<S.tracks.length:=by omega
  have d1:=zex ziV hk
  have d2:=zcO (c:=Track.c) (l:=ze8 ziV k S.tracks) (k:=k) (i:=1) (by rw[zbX];exact hk) (by omega) (.i .u8 0) (ziV k (nth S.tracks k)) (by rw[zcw _ hk];rfl)
  rw[d1]at d2
  (have hX:=@d2;(repeat' first|refine zaa [0,1,2,3,4,14] fun K hK=>?_|(refine hK.go ?_;clear hK K)|with_reducible exact wT|refine wA ?_|(refine wB (fun h=>?_) (fun h=>?_)<;>first|exact wN h|subst (h:(_:Bool)=_)|skip)|(refine wR ?_;clear hQ hR hE hM)|fail);all_goals clear hX)
  exact ⟨k+1,by omega,by omega,by omega,rfl⟩
 ·rw[zey _ (by omega),q1]
  (repeat' first|refine zaa [0,1,2,3,4,14] fun K hK=>?_|(refine hK.go ?_;clear hK K)|with_reducible exact wT|refine wA ?_|(refine wB (fun h=>?_) (fun h=>?_)<;>first|exact wN h|subst (h:(_:Bool)=_)|skip)|(refine wR ?_;clear hQ hR hE hM)|fail)
  all_goals first|(exfalso;omega)|skip
  left
  unfold zlZ zl0
  rw[r1,r2,r3,←q2,←q3]
  constructor
  ·(try (refine no_implicit_lambda% (st ?_);try with_reducible exact wT))
   first|rfl|(simp;done)|trace_state
  ·(try (refine no_implicit_lambda% (st ?_);try with_reducible exact wT))
   first|rfl|(simp;done)|trace_state
theorem zgE (hH:HasAll P inv) (hI:HasIds P inv):PC P inv 200 [] (·=.b true):=by
 have c0:=zk8 hH
 have c1:=zor hH hI
 have c2:=zjg hH hI zcZ smC stQ smQ 1
 have c4:=zlD hH hI zcZ smC zpa smQ1 5 1
 have c5:=zdK hH hI zcZ smC stQ2 smQ2
 rw[setQ1,setQ2]at c2
 rw[det12.1,det12.2]at c4
 rw[show zdj zcZ stQ2=[⟨1,1⟩] by decide +kernel,show zac zcZ stQ2=0 by decide +kernel]at c5
 unfold stQ at c1 c2
 unfold zpa at c2 c4
 unfold stQ2 at c4 c5
 refine PC.fn hH cd200 fun w0 M Q hM hE hQ hR=>?_;dsimp only[cd200,qm,ql,qf,qi,qb,qc,qp,qv,qN,qT,qF,qt]at hQ ⊢
 (repeat' first|refine zaa [0,1,2,3,4,5,6,14,20,26] fun K hK=>?_|(refine hK.go ?_;clear hK K)|with_reducible exact wT|refine wA ?_|(refine wB (fun h=>?_) (fun h=>?_)<;>first|exact wN h|subst (h:(_:Bool)=_)|skip)|(refine wQ ?_;clear hQ hR hE hM)|refine wC c1 ?_|refine wU c0 ?_|refine wU c2 ?_|refine wU c4 ?_|refine wU c5 ?_|refine wC c0 ?_|refine wC c2 ?_|refine wC c4 ?_|refine wC c5 ?_|fail)
 all_goals first|rfl|(exfalso;contradiction)|trace_state
end Go.Lev
namespace Go.Lev
open Go.Eng
set_option maxRecDepth 10000
set_option maxHeartbeats 4000000
variable {P:Program} {inv:Nat→Option Nat} {w0:World} {M:Nat→Prop}
theorem zgz (x:Switch) (l:List Switch):zg5 (x::l)=if x.call=0 then zg5 l else ⟨x.id,x.call⟩::zg5 l:=by
 unfold zg5
 rw[List.filter_cons]
 by_cases h:x.call=0
 ·rw[if_pos h,if_neg (by simp[h])]
 ·rw[if_neg h,if_pos (by simp[h])]
  rfl
theorem zeP:∀ {l m:List Switch},zav ze2 l m=true→zg5 m=zg5 l
 |[],[],_=>rfl
 |[],_::_,h=>by simp[zav]at h
 |_::_,[],h=>by simp[zav]at h
 |x::l,y::m,h=>by
  simp only[zav,ze2,Bool.and_eq_true,decide_eq_true_eq]at h
  rw[zgz,zgz,zeP h.2,h.1.1,h.1.2]
theorem zoW {s t:State} (h:zjk s t=true):zlN t=zlN s:=by
 unfold zjk at h
 simp only[Bool.and_eq_true]at h
 first|exact zeP h.1|exact zeP h.2|exact zeP h.2.1
theorem zlM {p:Pln} {t:State} (h:zac p t=0):zd0 p t=zg5 t.switches:=by unfold zd0;rw[if_pos h];rfl
theorem zrh {p:Pln} {s t:State} (h:zac p t=0) (hk:zjk s t=true):zac p t=0∧zac p (zcL p t)=0∧zd0 p (zcL p t)=zg5 s.switches:=by
 have e:zcL p t=zgS p t:=by unfold zcL;rw[if_pos h]
 rw[e,zlM (zcN h)]
 exact ⟨h,zcN h,(zoW (zjj hk (znK p t)))⟩
theorem aspectCalls_pc (hH:HasAll P inv) (hI:HasIds P inv) (p:Pln) (hp:Pln.ok p) (s:State) (n m:Int):PC P inv 343 [.agg p.c,.agg s.c,.n n,.n m] (·=.b true):=by
 have c0:=zgE hH hI
 have c1:=zbO hH p
 have c2:=zcX hH s
 cases g1:zeo p with
 |true =>
  rw[g1]at c1
  refine PC.fn hH cd343 fun w0 M Q hM hE hQ hR=>?_;dsimp only[cd343,qm,ql,qf,qi,qb,qc,qp,qv,qN,qT,qF,qt]at hQ ⊢
  (repeat' first|refine zaa [0,1,2,3,4,5,8,9,10,11,12,13,14,15,16,17,18,19,20,31,40,51,60,92,98,107,117,143,147,158] fun K hK=>?_|(refine hK.go ?_;clear hK K)|with_reducible exact wT|refine wA ?_|(refine wB (fun h=>?_) (fun h=>?_)<;>first|exact wN h|subst (h:(_:Bool)=_)|skip)|(refine wQ ?_;clear hQ hR hE hM)|refine wC c0 ?_|refine wC c1 ?_|fail)
 |false =>
  rw[g1]at c1
  cases g2:zfU s with
  |true =>
   rw[g2]at c2
   refine PC.fn hH cd343 fun w0 M Q hM hE hQ hR=>?_;dsimp only[cd343,qm,ql,qf,qi,qb,qc,qp,qv,qN,qT,qF,qt]at hQ ⊢
   (repeat' first|refine zaa [0,1,2,3,4,5,8,9,10,11,12,13,14,15,16,17,18,19,20,31,40,51,60,92,98,107,117,143,147,158] fun K hK=>?_|(refine hK.go ?_;clear hK K)|with_reducible exact wT|refine wA ?_|(refine wB (fun h=>?_) (fun h=>?_)<;>first|exact wN h|subst (h:(_:Bool)=_)|skip)|(refine wQ ?_;clear hQ hR hE hM)|refine wC c0 ?_|refine wC c1 ?_|refine wC c2 ?_|fail)
  |false =>
   rw[g2]at c2
   have sp:=zmc hp g1
   have ss:=zhp g2
   have c3:=zkx hH hI p sp s ss
   by_cases hst:zac p s=0
   ·have hT:∃ (A:State) (eA:Int) (T1:State) (B:State) (eB:Int) (T2 I:State),PC P inv 73 [.agg p.c,.agg s.c,.n n,.n 0] (·=.tup [.agg A.c,.n eA])∧((eA=0∧A=T1)∨(¬eA=0∧s=T1)) ∧
      PC P inv 74 [.agg p.c,.agg T1.c,.n m,.n 0] (·=.tup [.agg B.c,.n eB])∧((eB=0∧B=T2)∨(¬eB=0∧s=T2))∧PC P inv 78 [.agg p.c,.agg T2.c] (·=.tup [.agg I.c,.n 0])∧PC P inv 204 [.agg p.c,.agg I.c] (·=.tup [.sl 2 ((zg5 s.switches).map Flk.c),.n 0]):=by
     obtain ⟨T1,h1,k1,s1,q1⟩:∃ T1,((zb2 p s n 0=0∧secR p s n 0=T1)∨(¬zb2 p s n 0=0∧s=T1))∧zac p T1=0∧SmS T1∧zjk s T1=true:=by
      by_cases he:zb2 p s n 0=0
      ·refine ⟨zhx s n 0,.inl ⟨he,by unfold secR;rw[if_pos he]⟩,zee hst (by decide),zmi ss _ _,zkO _ _ _⟩
      ·exact ⟨s,.inr ⟨he,rfl⟩,hst,ss,zlk s⟩
     obtain ⟨T2,h2,k2,s2,q2⟩:∃ T2,((zbz p T1 m 0=0∧ziQ p T1 m 0=T2)∨(¬zbz p T1 m 0=0∧s=T2))∧zac p T2=0∧SmS T2∧zjk s T2=true:=by
      by_cases he:zbz p T1 m 0=0
      ·refine ⟨zkQ T1 m 0,.inl ⟨he,by unfold ziQ;rw[if_pos he]⟩,zdq k1 (by decide),znk s1 _ _,zjj q1 (zkP _ _ _)⟩
      ·exact ⟨s,.inr ⟨he,rfl⟩,hst,ss,zlk s⟩
     have h3:=zkh hH hI p sp T2 s2
     have h4:=zkx hH hI p sp _ (zqH p s2)
     obtain ⟨e1,e2,e3⟩:=zrh k2 q2
     rw[e1]at h3
     rw[e2,e3]at h4
     exact ⟨_,_,T1,_,_,T2,_,zpE hH hI p sp s ss n 0,h1,zlD hH hI p sp T1 s1 m 0,h2,h3,h4⟩
    rw[hst,zlM hst]at c3
    obtain ⟨L,hL⟩:∃ L,zg5 s.switches=L:=⟨_,rfl⟩
    rw[hL]at c3 hT
    have hl2:=ss.2.1
    have hLl:L.length≤1000:=by
     rw[←hL];unfold zg5;rw[List.length_map];exact Nat.le_trans (List.length_filter_le _ _) hl2
    refine PC.fn hH cd343 fun w0 M Q hM hE hQ hR=>?_;dsimp only[cd343,qm,ql,qf,qi,qb,qc,qp,qv,qN,qT,qF,qt]at hQ ⊢
    (repeat' first|refine zaa [0,1,2,3,4,5,8,9,10,11,12,13,14,15,16,17,18,19,20,31,40,51,60,92,98,107,117,143,147,158] fun K hK=>?_|(refine hK.go ?_;clear hK K)|with_reducible exact wT|refine wA ?_|(refine wB (fun h=>?_) (fun h=>?_)<;>first|exact wN h|subst (h:(_:Bool)=_)|skip)|(refine wQ ?_;clear hQ hR hE hM)|refine wC c0 ?_|refine wC c1 ?_|refine wC c2 ?_|refine wC c3 ?_|fail)
    all_goals first|(exfalso;contradiction)|skip
    refine zai (ι:=Nat×Nat) [2,3,4,5,8,9,10,12,13] (fun z=>[(12,.n z.2),(13,.n z.1)]) (fun _=>[]) (fun z=>z.1) (s.switches.length) (fun z=>(z.2≤L.length)∧(zg5 (s.switches.drop z.1)=L.drop z.2)) (0,0) ?_;rintro ⟨k,n⟩ ⟨hk,hn,hg⟩;(try dsimp only at hk hn hg ⊢);rcases Nat.lt_or_ge k s.switches.length with hlt|hge
    ·rw[zad hlt,zgz]at hg
     by_cases h1:(nth s.switches k).call=0
     ·rw[if_pos h1]at hg
      have h2:decide ((nth s.switches k).call=0)=true:=decide_eq_true h1
      (have hX:=@h2;(repeat' first|refine zaa [0,1,2,3,4,5,8,9,10,11,12,13,14,15,16,17,18,19,20,31,40,51,60,92,98,107,117,143,147,158] fun K hK=>?_|(refine hK.go ?_;clear hK K)|with_reducible exact wT|refine wA ?_|(refine wB (fun h=>?_) (fun h=>?_)<;>first|exact wN h|subst (h:(_:Bool)=_)|skip)|(refine wQ ?_;clear hQ hR hE hM)|fail);all_goals clear hX)
      all_goals first|(exfalso;contradiction)|exact ⟨(k+1,n),by dsimp only;omega,⟨by dsimp only;omega,hn,hg⟩,rfl,by dsimp only;omega⟩|trace_state
     ·rw[if_neg h1]at hg
      have hnl:n<L.length:=by
       rcases Nat.lt_or_ge n L.length with h|h
       ·exact h
       ·rw[List.drop_eq_nil_of_le h]at hg;cases hg
      rw[zad hnl]at hg
      have hh:=List.cons.inj hg
      have h3:(nth L n).pnt=(nth s.switches k).id:=by rw[←hh.1]
      have h4:(nth L n).lie=(nth s.switches k).call:=by rw[←hh.1]
      (have hX:=zA @h3 @h4;(repeat' first|refine zaa [0,1,2,3,4,5,8,9,10,11,12,13,14,15,16,17,18,19,20,31,40,51,60,92,98,107,117,143,147,158] fun K hK=>?_|(refine hK.go ?_;clear hK K)|with_reducible exact wT|refine wA ?_|(refine wB (fun h=>?_) (fun h=>?_)<;>first|exact wN h|subst (h:(_:Bool)=_)|skip)|(refine wQ ?_;clear hQ hR hE hM)|fail);all_goals clear hX)
      all_goals first|(exfalso;contradiction)|exact ⟨(k+1,n+1),by dsimp only;omega,⟨by dsimp only;omega,by dsimp only;omega,hh.2⟩,by dsimp only;omega,by dsimp only;omega⟩|trace_state
    ·rw[List.drop_eq_nil_of_le hge]at hg
     obtain rfl:n=L.length:=by
      have:(L.drop n).length=0:=by rw[←hg];rfl
      rw[List.length_drop]at this
      omega
     clear hg hL
     obtain ⟨A,eA,T1,B,eB,T2,I,c4,h1,c5,h2,c6,c7⟩:=hT
     rcases h1 with ⟨h1,rfl⟩|⟨h1,rfl⟩<;>rcases h2 with ⟨h2,rfl⟩|⟨h2,rfl⟩
     all_goals ((repeat' first|refine zaa [0,1,2,3,4,5,8,9,10,11,12,13,14,15,16,17,18,19,20,31,40,51,60,92,98,107,117,143,147,158] fun K hK=>?_|(refine hK.go ?_;clear hK K)|with_reducible exact wT|refine wA ?_|(refine wB (fun h=>?_) (fun h=>?_)<;>first|exact wN h|subst (h:(_:Bool)=_)|skip)|(refine wQ ?_;clear hQ hR hE hM)|refine wC c4 ?_|refine wC c5 ?_|refine wC c6 ?_|refine wC c7 ?_|fail))
     all_goals first|(exfalso;contradiction)|skip
     all_goals (refine zai (ι:=Nat) [8,9,10,18,20] (fun z=>[(20,.n z)]) (fun _=>[]) (fun z=>z) (L.length) (fun _=>True) (0) ?_;rintro k ⟨hk,-⟩;(try dsimp only at hk ⊢);rcases Nat.lt_or_ge k L.length with hlt|hge)
     all_goals ((repeat' first|refine zaa [0,1,2,3,4,5,8,9,10,11,12,13,14,15,16,17,18,19,20,31,40,51,60,92,98,107,117,143,147,158] fun K hK=>?_|(refine hK.go ?_;clear hK K)|with_reducible exact wT|refine wA ?_|(refine wB (fun h=>?_) (fun h=>?_)<;>first|exact wN h|subst (h:(_:Bool)=_)|skip)|(refine wQ ?_;clear hQ hR hE hM)|fail))
     all_goals first|rfl|(exfalso;contradiction)|exact ⟨k+1,by omega,by omega,by omega⟩|trace_state
   ·rw[show zd0 p s=[] by unfold zd0;rw[if_neg hst]]at c3
    generalize zac p s=e at *
    refine PC.fn hH cd343 fun w0 M Q hM hE hQ hR=>?_;dsimp only[cd343,qm,ql,qf,qi,qb,qc,qp,qv,qN,qT,qF,qt]at hQ ⊢
    (repeat' first|refine zaa [0,1,2,3,4,5,8,9,10,11,12,13,14,15,16,17,18,19,20,31,40,51,60,92,98,107,117,143,147,158] fun K hK=>?_|(refine hK.go ?_;clear hK K)|with_reducible exact wT|refine wA ?_|(refine wB (fun h=>?_) (fun h=>?_)<;>first|exact wN h|subst (h:(_:Bool)=_)|skip)|(refine wQ ?_;clear hQ hR hE hM)|refine wC c0 ?_|refine wC c1 ?_|refine wC c2 ?_|refine wC c3 ?_|fail)
    all_goals first|rfl|(exfalso;contradiction)|trace_state
end Go.Lev
namespace Go.Lev
open Go.Eng
set_option maxRecDepth 10000
set_option maxHeartbeats 4000000
variable {P:Program} {inv:Nat→Option Nat} {w0:World} {M:Nat→Prop}
theorem znA:∀ (f g:Sgn→Shw) (l:List Sgn),(∀ x,(f x).sig=(g x).sig∧(f x).asp≤(g x).asp)→zeW (l.map f) (l.map g)=false
 |_,_,[],_=>rfl
 |f,g,x::l,h=>by rw[List.map_cons,List.map_cons,zeW,if_pos (h x)];exact znA f g l h
theorem zqj:∀ (a b:List Shw) (k:Nat),(a.length≤k∨b.length≤k)→k≤a.length→k≤b.length→zeW (a.drop k) (b.drop k)=!decide ((a.length:Int)=b.length):=by
 intro a b k h h1 h2
 rcases h with h|h
 ·obtain rfl:k=a.length:=by omega
  rw[List.drop_length]
  rcases Nat.lt_or_ge a.length b.length with h3|h3
  ·rw[zad h3,zeW,decide_eq_false (by omega)];rfl
  ·rw[List.drop_eq_nil_of_le h3,zeW,decide_eq_true (by omega)];rfl
 ·obtain rfl:k=b.length:=by omega
  rw[List.drop_length]
  rcases Nat.lt_or_ge b.length a.length with h3|h3
  ·rw[zad h3,zeW,decide_eq_false (by omega)];rfl
  ·rw[List.drop_eq_nil_of_le h3,zeW,decide_eq_true (by omega)];rfl
theorem zqi (hH:HasAll P inv) (a b:List Shw) (ha:a.length≤1000000000) (hb:b.length≤1000000000):PC P inv 350 [.sl 2 (a.map Shw.c),.sl 2 (b.map Shw.c)] (·=.b (zeW a b)):=by
 have hmin:∃ n,n=min a.length b.length:=⟨_,rfl⟩
 obtain ⟨n,hn⟩:=hmin
 have n1:n≤a.length:=by omega
 have n2:n≤b.length:=by omega
 have n3:a.length≤n∨b.length≤n:=by omega
 clear hn
 refine PC.fn hH cd350 fun w0 M Q hM hE hQ hR=>?_;dsimp only[cd350,qm,ql,qf,qi,qb,qc,qp,qv,qN,qT,qF,qt]at hQ ⊢
 (repeat' first|refine zaa [0,1,4,5,15,41] fun K hK=>?_|(refine hK.go ?_;clear hK K)|with_reducible exact wT|refine wA ?_|(refine wB (fun h=>?_) (fun h=>?_)<;>first|exact wN h|subst (h:(_:Bool)=_)|skip)|(refine wQ ?_;clear hQ hR hE hM)|fail)
 refine zai (ι:=Nat) [0,1,4,5] (fun z=>[(5,.n z)]) (fun _=>[]) (fun z=>z) (n) (fun z=>(zeW (a.drop z) (b.drop z)=zeW a b)) (0) ?_;rintro k ⟨hk,hg⟩;(try dsimp only at hk hg ⊢);rcases Nat.lt_or_ge k n with hlt|hge
 ·rw[zad (show k<a.length by omega),zad (show k<b.length by omega),zeW]at hg
  have h1:decide ((k:Int)<a.length)=true:=decide_eq_true (by omega)
  have h2:decide ((k:Int)<b.length)=true:=decide_eq_true (by omega)
  by_cases h3:(nth a k).sig=(nth b k).sig∧(nth a k).asp≤(nth b k).asp
  ·rw[if_pos h3]at hg
   obtain ⟨h3,h4⟩:=h3
   (repeat' first|refine zaa [0,1,4,5,15,41] fun K hK=>?_|(refine hK.go ?_;clear hK K)|with_reducible exact wT|refine wA ?_|(refine wB (fun h=>?_) (fun h=>?_)<;>first|exact wN h|subst (h:(_:Bool)=_)|skip)|(refine wQ ?_;clear hQ hR hE hM)|fail)
   all_goals first|(exfalso;contradiction)|(exfalso;omega)|exact ⟨k+1,by omega,⟨by omega,hg⟩,by omega⟩|trace_state
  ·rw[if_neg h3]at hg
   (repeat' first|refine zaa [0,1,4,5,15,41] fun K hK=>?_|(refine hK.go ?_;clear hK K)|with_reducible exact wT|refine wA ?_|(refine wB (fun h=>?_) (fun h=>?_)<;>first|exact wN h|subst (h:(_:Bool)=_)|skip)|(refine wQ ?_;clear hQ hR hE hM)|fail)
   all_goals first|(exfalso;contradiction)|(exfalso;omega)|(rw[←hg];done)|(rw[←hg];rfl)|trace_state
 ·rw[zqj a b k (by omega) (by omega) (by omega)]at hg
  (repeat' first|refine zaa [0,1,4,5,15,41] fun K hK=>?_|(refine hK.go ?_;clear hK K)|with_reducible exact wT|refine wA ?_|(refine wB (fun h=>?_) (fun h=>?_)<;>first|exact wN h|subst (h:(_:Bool)=_)|skip)|(refine wQ ?_;clear hQ hR hE hM)|fail)
  all_goals first|(exfalso;contradiction)|(exfalso;omega)|(rw[←hg];done)|(rw[←hg];simp;done)|trace_state
theorem zg9 (p:Pln) (t:State):(zdj p t).length≤p.signals.length:=by
 unfold zdj shwL
 split
 ·simp
 ·simp
theorem znf {p:Pln} {s t:State} (h:zac p s=0) (h':zac p t=0) (hle:∀ i,i<p.routes.length→zaS p t (nth p.routes i)=true→zaS p s (nth p.routes i)=true):zeW (zdj p t) (zdj p s)=false:=by
 unfold zdj
 rw[if_pos h,if_pos h']
 unfold shwL
 exact znA _ _ _ fun x=>⟨rfl,asp_mono h h' hle x.id⟩
theorem aspectFalls_pc (hH:HasAll P inv) (hI:HasIds P inv) (p:Pln) (hp:Pln.ok p) (s:State) (n m:Int):PC P inv 339 [.agg p.c,.agg s.c,.n n,.n m] (·=.b true):=by
 have c0:=zgE hH hI
 have c1:=zbO hH p
 have c2:=zcX hH s
 cases g1:zeo p with
 |true =>
  rw[g1]at c1
  refine PC.fn hH cd339 fun w0 M Q hM hE hQ hR=>?_;dsimp only[cd339,qm,ql,qf,qi,qb,qc,qp,qv,qN,qT,qF,qt]at hQ ⊢
  (repeat' first|refine zaa [0,1,2,3,4,5,8,9,10,11,12,13,14,15,16,17,18,19,20,21,22,33,42,52,65,70,81,94,104,111,120] fun K hK=>?_|(refine hK.go ?_;clear hK K)|with_reducible exact wT|refine wA ?_|(refine wB (fun h=>?_) (fun h=>?_)<;>first|exact wN h|subst (h:(_:Bool)=_)|skip)|(refine wQ ?_;clear hQ hR hE hM)|refine wC c0 ?_|refine wC c1 ?_|fail)
 |false =>
  rw[g1]at c1
  cases g2:zfU s with
  |true =>
   rw[g2]at c2
   refine PC.fn hH cd339 fun w0 M Q hM hE hQ hR=>?_;dsimp only[cd339,qm,ql,qf,qi,qb,qc,qp,qv,qN,qT,qF,qt]at hQ ⊢
   (repeat' first|refine zaa [0,1,2,3,4,5,8,9,10,11,12,13,14,15,16,17,18,19,20,21,22,33,42,52,65,70,81,94,104,111,120] fun K hK=>?_|(refine hK.go ?_;clear hK K)|with_reducible exact wT|refine wA ?_|(refine wB (fun h=>?_) (fun h=>?_)<;>first|exact wN h|subst (h:(_:Bool)=_)|skip)|(refine wQ ?_;clear hQ hR hE hM)|refine wC c0 ?_|refine wC c1 ?_|refine wC c2 ?_|fail)
  |false =>
   rw[g2]at c2
   have sp:=zmc hp g1
   have ss:=zhp g2
   have c3:=zdK hH hI p sp s ss
   by_cases hst:zac p s=0
   ·rw[hst]at c3
    have hsl:=sp.sgn
    have hrl:=sp.rte
    have c4:=zpE hH hI p sp s ss n 1
    have c6:=zlD hH hI p sp s ss m 0
    have c7:=zdK hH hI p sp _ (zra p ss m 0)
    have c8:=zqi hH (zdj p (ziQ p s m 0)) (zdj p s) (by have:=zg9 p (ziQ p s m 0);omega) (by have:=zg9 p s;omega)
    have f7:zbz p s m 0=0→zac p (ziQ p s m 0)=0∧zeW (zdj p (ziQ p s m 0)) (zdj p s)=false:=fun he=>by
     have e2:ziQ p s m 0=zkQ s m 0:=by unfold ziQ;rw[if_pos he]
     rw[e2]
     exact ⟨zdq hst (by decide),znf hst (zdq hst (by decide)) fun i hi e=>prv_L hst hi e⟩
    by_cases he:zb2 p s n 1=0
    ·have c5:=zdK hH hI p sp _ (zpF p ss n 1)
     have e2:secR p s n 1=zhx s n 1:=by unfold secR;rw[if_pos he]
     have hTc:=zee (n:=n) (v:=1) hst (by decide)
     have c9:=zqi hH (zdj p (secR p s n 1)) (zdj p s) (by have:=zg9 p (secR p s n 1);omega) (by have:=zg9 p s;omega)
     rw[e2]at c4 c5 c9
     rw[znf hst hTc fun i hi e=>(prv_T hst hi e).1]at c9
     rw[hTc]at c5
     rw[he]at c4
     have hRt:∀ i,i<p.routes.length→∀ k,k<(nth p.routes i).path.length→nth (nth p.routes i).path k=n→PC P inv 198 [.agg p.c,.agg (zhx s n 1).c,.n (nth p.routes i).id] (·=.tup [.b false,.n 0]):=fun i hi k hk e=>by
      have h1:=zbr hH hI p sp _ (zmi ss n 1) (nth p.routes i).id
      have e1:zoi p (nth p.routes i).id=(i:Int):=zqt (zap hst) hi
      obtain ⟨e3,e4⟩:=zeh hTc e1
      have hwp:=zbo ((zaD (zae hst).1).2.1 _ (zab hi))
      rw[e3,e4,show zaS p (zhx s n 1) (nth p.routes i)=false by
       cases h2:zaS p (zhx s n 1) (nth p.routes i) with
       |false=>rfl
       |true =>
        refine absurd ?_ (prv_T hst hi h2).2
        unfold zbj
        rw[hwp.1,←e]
        exact List.mem_append.2 (.inl (zab hk))]at h1
      exact h1
     have hpl:∀ i,i<p.routes.length→(nth p.routes i).path.length≤6:=fun i hi=>(zc0 (zap hst) (zab hi)).2.1
     clear he e2 hTc hst
     generalize zdj p s=L at *
     generalize zhx s n 1=A at *
     generalize zdj p A=LA at *
     generalize ziQ p s m 0=B at *
     generalize zbz p s m 0=eB at *
     generalize zac p B=kB at *
     generalize zdj p B=LB at *
     generalize zeW LB L=mB at *
     have k7:eB=0→kB=0:=fun h=>(f7 h).1
     have q7:eB=0→mB=false:=fun h=>(f7 h).2
     clear f7
     refine PC.fn hH cd339 fun w0 M Q hM hE hQ hR=>?_;dsimp only[cd339,qm,ql,qf,qi,qb,qc,qp,qv,qN,qT,qF,qt]at hQ ⊢
     (repeat' first|refine zaa [0,1,2,3,4,5,8,9,10,11,12,13,14,15,16,17,18,19,20,21,22,33,42,52,65,70,81,94,104,111,120] fun K hK=>?_|(refine hK.go ?_;clear hK K)|with_reducible exact wT|refine wA ?_|(refine wB (fun h=>?_) (fun h=>?_)<;>first|exact wN h|subst (h:(_:Bool)=_)|skip)|(refine wQ ?_;clear hQ hR hE hM)|refine wC c0 ?_|refine wC c1 ?_|refine wC c2 ?_|refine wC c3 ?_|refine wC c4 ?_|refine wC c5 ?_|refine wC c9 ?_|fail)
     all_goals first|(exfalso;contradiction)|skip
     refine zai (ι:=Nat) [2,3,4,5,8,9,10,12,16] (fun z=>[(16,.n z)]) (fun _=>[]) (fun z=>z) (p.routes.length) (fun _=>True) (0) ?_;rintro i ⟨hk,-⟩;(try dsimp only at hk ⊢);rcases Nat.lt_or_ge i p.routes.length with hlt|hge
     ·have hi9:i<p.routes.length:=by assumption
      have hp6:=hpl i hi9
      (repeat' first|refine zaa [0,1,2,3,4,5,8,9,10,11,12,13,14,15,16,17,18,19,20,21,22,33,42,52,65,70,81,94,104,111,120] fun K hK=>?_|(refine hK.go ?_;clear hK K)|with_reducible exact wT|refine wA ?_|(refine wB (fun h=>?_) (fun h=>?_)<;>first|exact wN h|subst (h:(_:Bool)=_)|skip)|(refine wQ ?_;clear hQ hR hE hM)|fail)
      refine zai (ι:=Nat) [2,3,4,5,8,9,10,12,16,17] (fun z=>[(17,.n z)]) (fun _=>[]) (fun z=>z) ((nth p.routes i).path.length) (fun _=>True) (0) ?_;rintro k ⟨hk,-⟩;(try dsimp only at hk ⊢);rcases Nat.lt_or_ge k (nth p.routes i).path.length with hlt|hge
      ·have hk9:k<(nth p.routes i).path.length:=by assumption
       have d0:=int_gt hk9
       by_cases h1:nth (nth p.routes i).path k=n
       ·have d1:=hRt i hi9 k hk9 h1
        have h2:decide (nth (nth p.routes i).path k=n)=true:=decide_eq_true h1
        (have hX:=zA @d0 @h2;(repeat' first|refine zaa [0,1,2,3,4,5,8,9,10,11,12,13,14,15,16,17,18,19,20,21,22,33,42,52,65,70,81,94,104,111,120] fun K hK=>?_|(refine hK.go ?_;clear hK K)|with_reducible exact wT|refine wA ?_|(refine wB (fun h=>?_) (fun h=>?_)<;>first|exact wN h|subst (h:(_:Bool)=_)|skip)|(refine wQ ?_;clear hQ hR hE hM)|refine wC d1 ?_|fail);all_goals clear hX)
        all_goals first|(exfalso;contradiction)|exact ⟨k+1,by omega,by omega,by omega⟩|trace_state
       ·have h2:decide (nth (nth p.routes i).path k=n)=false:=decide_eq_false h1
        (have hX:=zA @d0 @h2;(repeat' first|refine zaa [0,1,2,3,4,5,8,9,10,11,12,13,14,15,16,17,18,19,20,21,22,33,42,52,65,70,81,94,104,111,120] fun K hK=>?_|(refine hK.go ?_;clear hK K)|with_reducible exact wT|refine wA ?_|(refine wB (fun h=>?_) (fun h=>?_)<;>first|exact wN h|subst (h:(_:Bool)=_)|skip)|(refine wQ ?_;clear hQ hR hE hM)|fail);all_goals clear hX)
        all_goals first|(exfalso;contradiction)|exact ⟨k+1,by omega,by omega,by omega⟩|trace_state
      ·(repeat' first|refine zaa [0,1,2,3,4,5,8,9,10,11,12,13,14,15,16,17,18,19,20,21,22,33,42,52,65,70,81,94,104,111,120] fun K hK=>?_|(refine hK.go ?_;clear hK K)|with_reducible exact wT|refine wA ?_|(refine wB (fun h=>?_) (fun h=>?_)<;>first|exact wN h|subst (h:(_:Bool)=_)|skip)|(refine wQ ?_;clear hQ hR hE hM)|fail)
       all_goals first|(exfalso;contradiction)|exact ⟨i+1,by omega,by omega,by omega⟩|trace_state
     ·(repeat' first|refine zaa [0,1,2,3,4,5,8,9,10,11,12,13,14,15,16,17,18,19,20,21,22,33,42,52,65,70,81,94,104,111,120] fun K hK=>?_|(refine hK.go ?_;clear hK K)|with_reducible exact wT|refine wA ?_|(refine wB (fun h=>?_) (fun h=>?_)<;>first|exact wN h|subst (h:(_:Bool)=_)|skip)|(refine wQ ?_;clear hQ hR hE hM)|refine wC c6 ?_|refine wC c7 ?_|refine wC c8 ?_|fail)
      all_goals first|rfl|(exfalso;contradiction)|(rw[q7 (by assumption)];rfl)|trace_state
    ·clear hst
     generalize zb2 p s n 1=eA at *
     generalize zdj p s=L at *
     generalize secR p s n 1=A at *
     generalize ziQ p s m 0=B at *
     generalize zbz p s m 0=eB at *
     generalize zac p B=kB at *
     generalize zdj p B=LB at *
     generalize zeW LB L=mB at *
     have k7:eB=0→kB=0:=fun h=>(f7 h).1
     have q7:eB=0→mB=false:=fun h=>(f7 h).2
     clear f7
     refine PC.fn hH cd339 fun w0 M Q hM hE hQ hR=>?_;dsimp only[cd339,qm,ql,qf,qi,qb,qc,qp,qv,qN,qT,qF,qt]at hQ ⊢
     (repeat' first|refine zaa [0,1,2,3,4,5,8,9,10,11,12,13,14,15,16,17,18,19,20,21,22,33,42,52,65,70,81,94,104,111,120] fun K hK=>?_|(refine hK.go ?_;clear hK K)|with_reducible exact wT|refine wA ?_|(refine wB (fun h=>?_) (fun h=>?_)<;>first|exact wN h|subst (h:(_:Bool)=_)|skip)|(refine wQ ?_;clear hQ hR hE hM)|refine wC c0 ?_|refine wC c1 ?_|refine wC c2 ?_|refine wC c3 ?_|refine wC c4 ?_|refine wC c6 ?_|refine wC c7 ?_|refine wC c8 ?_|fail)
     all_goals first|rfl|(exfalso;contradiction)|(rw[q7 (by assumption)];rfl)|trace_state
   ·generalize zac p s=e at *
    refine PC.fn hH cd339 fun w0 M Q hM hE hQ hR=>?_;dsimp only[cd339,qm,ql,qf,qi,qb,qc,qp,qv,qN,qT,qF,qt]at hQ ⊢
    (repeat' first|refine zaa [0,1,2,3,4,5,8,9,10,11,12,13,14,15,16,17,18,19,20,21,22,33,42,52,65,70,81,94,104,111,120] fun K hK=>?_|(refine hK.go ?_;clear hK K)|with_reducible exact wT|refine wA ?_|(refine wB (fun h=>?_) (fun h=>?_)<;>first|exact wN h|subst (h:(_:Bool)=_)|skip)|(refine wQ ?_;clear hQ hR hE hM)|refine wC c0 ?_|refine wC c1 ?_|refine wC c2 ?_|refine wC c3 ?_|fail)
    all_goals first|rfl|(exfalso;contradiction)|trace_state
end Go.Lev
namespace Go.Lev
open Go.Eng
set_option maxRecDepth 10000
set_option maxHeartbeats 4000000
variable {P:Program} {inv:Nat→Option Nat} {w0:World} {M:Nat→Prop}
theorem loop_or {R:Type} {good:R→Prop} {n:Nat} {q:Nat→Bool} {t:Bool} {body:Nat→Bool→(Bool→R)→R} {fin:Bool→R} (hb:∀ k u za0,k<n→good (za0 (u||q k))→good (body k u za0)) (h:good (fin (t||(List.range n).any q))):good (zaB body fin n 0 t):=by
 refine zaU good (fun k u=>u=(t||(List.range k).any q)) (by simp) ?_ ?_
 ·rintro k u za0 hk rfl hn
  refine hb k _ za0 hk (hn _ ?_)
  rw[List.range_succ,List.any_append]
  simp[Bool.or_assoc]
 ·rintro u rfl
  exact h
theorem bothF_eq {p:Pln} {s:State} (h:zac p s=0) (n:Int):bothF p (zaS p s) (goB p s) n=decide (ziD p (zaS p s) n=2):=by
 generalize hX:decide (ziD p (zaS p s) n=2)=X
 unfold bothF
 refine loop_or (good:=(·=X)) (q:=fun k=>zaS p s (nth p.routes k)&&(decide ((nth p.routes k).entry=n)&&(!decide ((nth p.routes k).exit=0)&&goB p s (nth p.routes k).exit))) (fun k u za0 _ hn=>?_) ?_
 ·cases h1:zaS p s (nth p.routes k)<;>cases h2:decide ((nth p.routes k).entry=n)<;>cases h3:decide ((nth p.routes k).exit=0)<;>simp[h1,h2,h3]at hn ⊢<;>exact hn
 ·rw[←hX,Bool.false_or,Bool.eq_iff_iff,List.any_eq_true,decide_eq_true_eq]
  constructor
  ·rintro ⟨k,hk,e⟩
   rw[List.mem_range]at hk
   simp only[Bool.and_eq_true,Bool.not_eq_true',decide_eq_true_eq,decide_eq_false_iff_not]at e
   rcases zeu h n with ⟨_,g0⟩|⟨j,hj,g1,g2,_,⟨g4,_⟩|⟨_,g5⟩⟩
   ·have:=(zif p s n).2 ⟨k,hk,e.2.1,e.1⟩
    rw[g0]at this;cases this
   ·exact g4
   ·obtain rfl:k=j:=zpX h hk hj e.1 g2 (by rw[e.2.1,g1])
    exact absurd ⟨e.2.2.1,e.2.2.2⟩ g5
  ·intro e
   rcases zeu h n with ⟨g0,_⟩|⟨j,hj,g1,g2,_,⟨_,g4⟩|⟨g4,_⟩⟩
   ·omega
   ·exact ⟨j,List.mem_range.2 hj,by simp[g1,g2,g4.1,g4.2]⟩
   ·omega
theorem goB_asp {p:Pln} {s:State} (h:zac p s=0) (n:Int):goB p s n=!decide (ziD p (zaS p s) n=0):=by
 rcases zeu h n with ⟨g0,g1⟩|⟨j,hj,_,_,g1,⟨g0,_⟩|⟨g0,_⟩⟩<;>rw[g0,g1]<;>rfl
theorem zo3 (hH:HasAll P inv) (hI:HasIds P inv) (p:Pln) (hp:Pln.ok p) (s:State):PC P inv 342 [.agg p.c,.agg s.c] (·=.b true):=by
 have c0:=zgE hH hI
 have c1:=zbO hH p
 have c2:=zcX hH s
 cases g1:zeo p with
 |true =>
  rw[g1]at c1
  refine PC.fn hH cd342 fun w0 M Q hM hE hQ hR=>?_;dsimp only[cd342,qm,ql,qf,qi,qb,qc,qp,qv,qN,qT,qF,qt]at hQ ⊢
  (repeat' first|refine zaa [0,1,2,3,4,5,6,7,8,9,10,11,12,13,14,15,16,17,18,19,20,21,32,41,60,64,75,111,116,128,132,157,167,171,183,208,212,220] fun K hK=>?_|(refine hK.go ?_;clear hK K)|with_reducible exact wT|refine wA ?_|(refine wB (fun h=>?_) (fun h=>?_)<;>first|exact wN h|subst (h:(_:Bool)=_)|skip)|(refine wQ ?_;clear hQ hR hE hM)|refine wC c0 ?_|refine wC c1 ?_|fail)
 |false =>
  rw[g1]at c1
  cases g2:zfU s with
  |true =>
   rw[g2]at c2
   refine PC.fn hH cd342 fun w0 M Q hM hE hQ hR=>?_;dsimp only[cd342,qm,ql,qf,qi,qb,qc,qp,qv,qN,qT,qF,qt]at hQ ⊢
   (repeat' first|refine zaa [0,1,2,3,4,5,6,7,8,9,10,11,12,13,14,15,16,17,18,19,20,21,32,41,60,64,75,111,116,128,132,157,167,171,183,208,212,220] fun K hK=>?_|(refine hK.go ?_;clear hK K)|with_reducible exact wT|refine wA ?_|(refine wB (fun h=>?_) (fun h=>?_)<;>first|exact wN h|subst (h:(_:Bool)=_)|skip)|(refine wQ ?_;clear hQ hR hE hM)|refine wC c0 ?_|refine wC c1 ?_|refine wC c2 ?_|fail)
  |false =>
   rw[g2]at c2
   have sp:=zmc hp g1
   have ss:=zhp g2
   have c3:=zdK hH hI p sp s ss
   have c4:=zbR hH hI p sp s ss
   by_cases hst:zac p s=0
   ·have ho:=zap hst
    have hrl:=sp.rte
    have hsl:=sp.sgn
    have c5:=zkh hH hI p sp s ss
    have c6:=zdK hH hI p sp _ (zqH p ss)
    have e2:zcL p s=zgS p s:=by unfold zcL;rw[if_pos hst]
    rw[e2]at c5 c6
    rw[zcN hst]at c6
    rw[hst]at c3 c5
    have hS:∀ m,ziS p m=true→PC P inv 199 [.agg p.c,.agg s.c,.n m] (·=.tup [.b (goB p s m),.n 0]):=fun m hm=>by
     have h1:=zcy hH hI p sp s ss m
     rw[show sgC p s m=0 by unfold sgC;rw[if_pos hst,if_pos hm]]at h1
     exact h1
    have hRt:∀ k,k<p.routes.length→PC P inv 198 [.agg p.c,.agg s.c,.n (nth p.routes k).id] (·=.tup [.b (zaS p s (nth p.routes k)),.n 0]):=fun k hk=>by
     have h1:=zbr hH hI p sp s ss (nth p.routes k).id
     have e1:zoi p (nth p.routes k).id=(k:Int):=zqt ho hk
     rw[(zeh hst e1).1,(zeh hst e1).2]at h1
     exact h1
    have hX:∀ k,k<p.routes.length→¬(nth p.routes k).exit=0→ziS p (nth p.routes k).exit=true:=fun k hk h0=>exit_sgn ho (zab hk) h0
    have hL:∀ i,i<p.signals.length→(nth (zdj p s) i).sig=(nth p.signals i).id∧0≤(nth (zdj p s) i).asp∧(nth (zdj p s) i).asp≤2∧goB p s (nth p.signals i).id=!decide ((nth (zdj p s) i).asp=0)∧bothF p (zaS p s) (goB p s) (nth p.signals i).id=decide ((nth (zdj p s) i).asp=2):=fun i hi=>by
     have e:nth (zdj p s) i=⟨(nth p.signals i).id,ziD p (zaS p s) (nth p.signals i).id⟩:=by unfold zdj;rw[if_pos hst];exact zlg _ hi
     rw[e]
     have:=asp_le hst (nth p.signals i).id
     exact ⟨rfl,this.1,this.2,goB_asp hst _,bothF_eq hst _⟩
    have hLl:(zdj p s).length=p.signals.length:=by unfold zdj shwL;rw[if_pos hst];simp
    have hIl:(zdj p (zgS p s)).length=p.signals.length:=by unfold zdj shwL;rw[if_pos (zcN hst)];simp
    have hI0:∀ i,i<p.signals.length→(nth (zdj p (zgS p s)) i).asp=0:=fun i hi=>by
     have e:nth (zdj p (zgS p s)) i=⟨(nth p.signals i).id,ziD p (zaS p (zgS p s)) (nth p.signals i).id⟩:=by unfold zdj;rw[if_pos (zcN hst)];exact zlg _ hi
     rw[e]
     exact asp_img hst _
    have hsg:∀ i,i<p.signals.length→ziS p (nth p.signals i).id=true:=fun i hi=>sgn_at hi
    clear hst ho e2
    generalize zdj p s=L at *
    generalize zgS p s=I at *
    generalize zdj p I=LI at *
    generalize goB p s=gb at *
    generalize zaS p s=f at *
    refine PC.fn hH cd342 fun w0 M Q hM hE hQ hR=>?_;dsimp only[cd342,qm,ql,qf,qi,qb,qc,qp,qv,qN,qT,qF,qt]at hQ ⊢
    (repeat' first|refine zaa [0,1,2,3,4,5,6,7,8,9,10,11,12,13,14,15,16,17,18,19,20,21,32,41,60,64,75,111,116,128,132,157,167,171,183,208,212,220] fun K hK=>?_|(refine hK.go ?_;clear hK K)|with_reducible exact wT|refine wA ?_|(refine wB (fun h=>?_) (fun h=>?_)<;>first|exact wN h|subst (h:(_:Bool)=_)|skip)|(refine wQ ?_;clear hQ hR hE hM)|refine wC c0 ?_|refine wC c1 ?_|refine wC c2 ?_|refine wC c3 ?_|fail)
    all_goals first|(exfalso;contradiction)|skip
    refine zai (ι:=Nat) [2,3,4,5,6,8] (fun z=>[(8,.n z)]) (fun _=>[]) (fun z=>z) (p.signals.length) (fun _=>True) (0) ?_;rintro i ⟨hk,-⟩;(try dsimp only at hk ⊢);rcases Nat.lt_or_ge i p.signals.length with hlt|hge
    ·have hi9:i<p.signals.length:=by assumption
     obtain ⟨a1,a2,a3,a4,hF⟩:=hL i hi9
     have d0:=hS _ (hsg i hi9)
     rw[a4]at d0
     clear a4
     unfold bothF at hF
     have hX2:∃ X,decide ((nth L i).asp=2)=X:=⟨_,rfl⟩
     obtain ⟨X,hX2⟩:=hX2
     rw[hX2]at hF
     (have hX:=@a1;(repeat' first|refine zaa [0,1,2,3,4,5,6,7,8,9,10,11,12,13,14,15,16,17,18,19,20,21,32,41,60,64,75,111,116,128,132,157,167,171,183,208,212,220] fun K hK=>?_|(refine hK.go ?_;clear hK K)|with_reducible exact wT|refine wA ?_|(refine wB (fun h=>?_) (fun h=>?_)<;>first|exact wN h|subst (h:(_:Bool)=_)|skip)|(refine wQ ?_;clear hQ hR hE hM)|refine wC d0 ?_|fail);all_goals clear hX)
     all_goals first|(exfalso;contradiction)|skip
     skip
     refine zaJ hF fun Bd Ed hBd hEd hF=>?_;refine zai (ι:=Nat×Bool) [2,3,4,5,6,8,11,12] (fun z=>[(11,.b z.2),(12,.n z.1)]) (fun _=>[]) (fun z=>z.1) (p.routes.length) (fun z=>(zaB Bd Ed (p.routes.length-z.1) z.1 z.2=X)) (0,false) ?_;rintro ⟨k,bt⟩ ⟨hk,hF⟩;(try dsimp only at hk hF ⊢);rcases Nat.lt_or_ge k p.routes.length with hlt|hge
     ·rw[zar hBd hlt]at hF;(try dsimp only at hF)
      have hk9:k<p.routes.length:=by assumption
      have d1:=hRt k hk9
      by_cases hx:(nth p.routes k).exit=0
      ·(have hX:=@a1;(repeat' first|refine zaa [0,1,2,3,4,5,6,7,8,9,10,11,12,13,14,15,16,17,18,19,20,21,32,41,60,64,75,111,116,128,132,157,167,171,183,208,212,220] fun K hK=>?_|(refine hK.go ?_;clear hK K)|with_reducible exact wT|refine wA ?_|(refine wE (fun h0 h=>?_) (fun h0 h=>?_)<;>first|exact wN h|((try replace hF:=wX hF);clear h0;first|exact hF.elim|((try subst (h:(_:Bool)=_));try replace hF:=wX hF)))|(refine wQ ?_;clear hQ hR hE hM)|refine wC d1 ?_|fail);all_goals clear hX)
       all_goals first|(exfalso;contradiction)|exact nX (k+1,_)
      ·have d2:=hS _ (hX k hk9 hx)
       (have hX:=@a1;(repeat' first|refine zaa [0,1,2,3,4,5,6,7,8,9,10,11,12,13,14,15,16,17,18,19,20,21,32,41,60,64,75,111,116,128,132,157,167,171,183,208,212,220] fun K hK=>?_|(refine hK.go ?_;clear hK K)|with_reducible exact wT|refine wA ?_|(refine wE (fun h0 h=>?_) (fun h0 h=>?_)<;>first|exact wN h|((try replace hF:=wX hF);clear h0;first|exact hF.elim|((try subst (h:(_:Bool)=_));try replace hF:=wX hF)))|(refine wQ ?_;clear hQ hR hE hM)|refine wC d1 ?_|refine wC d2 ?_|fail);all_goals clear hX)
       all_goals first|(exfalso;contradiction)|exact nX (k+1,_)
     ·rw[zaI hge,hEd]at hF;(try dsimp only at hF)
      subst hF
      (have hX:=@hX2;(repeat' first|refine zaa [0,1,2,3,4,5,6,7,8,9,10,11,12,13,14,15,16,17,18,19,20,21,32,41,60,64,75,111,116,128,132,157,167,171,183,208,212,220] fun K hK=>?_|(refine hK.go ?_;clear hK K)|with_reducible exact wT|refine wA ?_|(refine wE (fun h0 h=>?_) (fun h0 h=>?_)<;>first|exact wN h|((try replace hF:=wX hF);clear h0;first|exact hF.elim|((try subst (h:(_:Bool)=_));try replace hF:=wX hF)))|(refine wQ ?_;clear hQ hR hE hM)|fail);all_goals clear hX)
      all_goals first|(exfalso;contradiction)|exact ⟨i+1,by omega,by omega,by omega⟩|trace_state
    ·(repeat' first|refine zaa [0,1,2,3,4,5,6,7,8,9,10,11,12,13,14,15,16,17,18,19,20,21,32,41,60,64,75,111,116,128,132,157,167,171,183,208,212,220] fun K hK=>?_|(refine hK.go ?_;clear hK K)|with_reducible exact wT|refine wA ?_|(refine wE (fun h0 h=>?_) (fun h0 h=>?_)<;>first|exact wN h|((try replace hF:=wX hF);clear h0;first|exact hF.elim|((try subst (h:(_:Bool)=_));try replace hF:=wX hF)))|(refine wQ ?_;clear hQ hR hE hM)|refine wC c5 ?_|refine wC c6 ?_|fail)
     all_goals first|(exfalso;contradiction)|skip
     refine zai (ι:=Nat) [4,5,19,21] (fun z=>[(21,.n z)]) (fun _=>[]) (fun z=>z) (p.signals.length) (fun _=>True) (0) ?_;rintro k ⟨hk,-⟩;(try dsimp only at hk ⊢);rcases Nat.lt_or_ge k p.signals.length with hlt|hge
     ·have d3:=hI0 k (by assumption)
      (have hX:=@d3;(repeat' first|refine zaa [0,1,2,3,4,5,6,7,8,9,10,11,12,13,14,15,16,17,18,19,20,21,32,41,60,64,75,111,116,128,132,157,167,171,183,208,212,220] fun K hK=>?_|(refine hK.go ?_;clear hK K)|with_reducible exact wT|refine wA ?_|(refine wE (fun h0 h=>?_) (fun h0 h=>?_)<;>first|exact wN h|((try replace hF:=wX hF);clear h0;first|exact hF.elim|((try subst (h:(_:Bool)=_));try replace hF:=wX hF)))|(refine wQ ?_;clear hQ hR hE hM)|fail);all_goals clear hX)
      all_goals first|(exfalso;contradiction)|exact ⟨k+1,by omega,by omega,by omega⟩|trace_state
     ·(repeat' first|refine zaa [0,1,2,3,4,5,6,7,8,9,10,11,12,13,14,15,16,17,18,19,20,21,32,41,60,64,75,111,116,128,132,157,167,171,183,208,212,220] fun K hK=>?_|(refine hK.go ?_;clear hK K)|with_reducible exact wT|refine wA ?_|(refine wE (fun h0 h=>?_) (fun h0 h=>?_)<;>first|exact wN h|((try replace hF:=wX hF);clear h0;first|exact hF.elim|((try subst (h:(_:Bool)=_));try replace hF:=wX hF)))|(refine wQ ?_;clear hQ hR hE hM)|fail)
      all_goals first|rfl|(exfalso;contradiction)|trace_state
   ·rw[show zdj p s=[] by unfold zdj;rw[if_neg hst]]at c3
    generalize zac p s=e at *
    refine PC.fn hH cd342 fun w0 M Q hM hE hQ hR=>?_;dsimp only[cd342,qm,ql,qf,qi,qb,qc,qp,qv,qN,qT,qF,qt]at hQ ⊢
    (repeat' first|refine zaa [0,1,2,3,4,5,6,7,8,9,10,11,12,13,14,15,16,17,18,19,20,21,32,41,60,64,75,111,116,128,132,157,167,171,183,208,212,220] fun K hK=>?_|(refine hK.go ?_;clear hK K)|with_reducible exact wT|refine wA ?_|(refine wB (fun h=>?_) (fun h=>?_)<;>first|exact wN h|subst (h:(_:Bool)=_)|skip)|(refine wQ ?_;clear hQ hR hE hM)|refine wC c0 ?_|refine wC c1 ?_|refine wC c2 ?_|refine wC c3 ?_|refine wC c4 ?_|fail)
    all_goals first|rfl|(exfalso;contradiction)|trace_state
end Go.Lev
