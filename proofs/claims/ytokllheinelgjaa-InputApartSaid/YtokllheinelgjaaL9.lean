/-
  A part of the engine that walks the functions' codes, and of the functions' contracts. Conditions: those that each theorem names.
-/
import Derived.Test.YtokllheinelgjaaL8
import Derived.IntWalk
set_option linter.unusedSimpArgs false
set_option linter.unusedVariables false
set_option linter.unusedSectionVars false
namespace Go.Lev
open Go.Eng
set_option maxRecDepth 10000
set_option maxHeartbeats 4000000
variable {P:Program} {inv:Nat→Option Nat} {w0:World} {M:Nat→Prop}
def zet (v:Int):Int:=(v.tmod 3+1).tmod 3
theorem zmw {v:Int} (h:0≤v∧v≤255):0≤zet v∧zet v≤2∧zet v≠v:=by
 unfold zet
 rw[Int.tmod_eq_emod_of_nonneg h.1,Int.tmod_eq_emod_of_nonneg (by omega)]
 omega
theorem stateKeeps_pc (hH:HasAll P inv) (hI:HasIds P inv) (p:Pln) (hp:Pln.ok p) (a b:State) (ha:a.ok) (n:Int):PC P inv 57 [.agg p.c,.agg a.c,.agg b.c,.n n] (·=.b true):=by
 have c0:=zfy hH hI
 have c1:=zbJ hH p
 have c2:=zcu hH a
 have c3:=zcu hH b
 cases g1:zea p with
 |true =>
  rw[g1]at c1
  refine zae (F:=cd57) (hH.has _ _ rfl) (Nat.le_of_ble_eq_true rfl) fun w0 M Q hM hQ hR=>?_;have hE:=hH.callable;dsimp only[cd57,qm,ql,qf,qi,qb,qc,qp,qv,qN,qT,qF,qt]at hQ ⊢
  repeat' (first|refine zab [0,1,2,3,4,5,6,8,9,10,25,32,40,46,50,58,64,71,74,85,120] fun K hK=>?_|refine AWp.block ?_|(refine hK.go ?_;clear hK K)|refine Cont.go (by assumption) ?_|(refine cnd2 rfl (fun h=>?_) (fun h=>?_)<;>(try first|exact h.elim|obtain rfl:(_:Bool)=true:=h|obtain rfl:(_:Bool)=false:=h)<;>first|(exfalso;omega)|skip)|((first|refine AWp.reg hE hM ?_|refine AWp.regd hE hM ?_|refine AWp.ret ?_|refine AWp.skip ?_|refine AWp.exit ?_|(refine pk2 (fun h=>?_) (fun h=>?_)<;>(try first|exact h.elim|obtain rfl:(_:Bool)=true:=h|obtain rfl:(_:Bool)=false:=h))|refine zac (fun h=>?_) ?_|refine zaa hM (c0) ?_|refine zaa hM (c1) ?_|(refine hQ _ _ _ rfl ?_;clear hQ hR hE hM)|(refine hR _ _ (hQ _ _ _ rfl ?_);clear hQ hR hE hM)|(refine zaf ?_ ?_;focus first|omega|(refine zad ?_;(refine no_implicit_lambda% (st ?_);try with_reducible exact True.intro);done)))<;>try (refine no_implicit_lambda% (st ?_);try with_reducible exact True.intro)))
 |false =>
  rw[g1]at c1
  cases g2:zeo a with
  |true =>
   rw[g2]at c2
   refine zae (F:=cd57) (hH.has _ _ rfl) (Nat.le_of_ble_eq_true rfl) fun w0 M Q hM hQ hR=>?_;have hE:=hH.callable;dsimp only[cd57,qm,ql,qf,qi,qb,qc,qp,qv,qN,qT,qF,qt]at hQ ⊢
   repeat' (first|refine zab [0,1,2,3,4,5,6,8,9,10,25,32,40,46,50,58,64,71,74,85,120] fun K hK=>?_|refine AWp.block ?_|(refine hK.go ?_;clear hK K)|refine Cont.go (by assumption) ?_|(refine cnd2 rfl (fun h=>?_) (fun h=>?_)<;>(try first|exact h.elim|obtain rfl:(_:Bool)=true:=h|obtain rfl:(_:Bool)=false:=h)<;>first|(exfalso;omega)|skip)|((first|refine AWp.reg hE hM ?_|refine AWp.regd hE hM ?_|refine AWp.ret ?_|refine AWp.skip ?_|refine AWp.exit ?_|(refine pk2 (fun h=>?_) (fun h=>?_)<;>(try first|exact h.elim|obtain rfl:(_:Bool)=true:=h|obtain rfl:(_:Bool)=false:=h))|refine zac (fun h=>?_) ?_|refine zaa hM (c0) ?_|refine zaa hM (c1) ?_|refine zaa hM (c2) ?_|(refine hQ _ _ _ rfl ?_;clear hQ hR hE hM)|(refine hR _ _ (hQ _ _ _ rfl ?_);clear hQ hR hE hM)|(refine zaf ?_ ?_;focus first|omega|(refine zad ?_;(refine no_implicit_lambda% (st ?_);try with_reducible exact True.intro);done)))<;>try (refine no_implicit_lambda% (st ?_);try with_reducible exact True.intro)))
  |false =>
   rw[g2]at c2
   cases g3:zeo b with
   |true =>
    rw[g3]at c3
    refine zae (F:=cd57) (hH.has _ _ rfl) (Nat.le_of_ble_eq_true rfl) fun w0 M Q hM hQ hR=>?_;have hE:=hH.callable;dsimp only[cd57,qm,ql,qf,qi,qb,qc,qp,qv,qN,qT,qF,qt]at hQ ⊢
    repeat' (first|refine zab [0,1,2,3,4,5,6,8,9,10,25,32,40,46,50,58,64,71,74,85,120] fun K hK=>?_|refine AWp.block ?_|(refine hK.go ?_;clear hK K)|refine Cont.go (by assumption) ?_|(refine cnd2 rfl (fun h=>?_) (fun h=>?_)<;>(try first|exact h.elim|obtain rfl:(_:Bool)=true:=h|obtain rfl:(_:Bool)=false:=h)<;>first|(exfalso;omega)|skip)|((first|refine AWp.reg hE hM ?_|refine AWp.regd hE hM ?_|refine AWp.ret ?_|refine AWp.skip ?_|refine AWp.exit ?_|(refine pk2 (fun h=>?_) (fun h=>?_)<;>(try first|exact h.elim|obtain rfl:(_:Bool)=true:=h|obtain rfl:(_:Bool)=false:=h))|refine zac (fun h=>?_) ?_|refine zaa hM (c0) ?_|refine zaa hM (c1) ?_|refine zaa hM (c2) ?_|refine zaa hM (c3) ?_|(refine hQ _ _ _ rfl ?_;clear hQ hR hE hM)|(refine hR _ _ (hQ _ _ _ rfl ?_);clear hQ hR hE hM)|(refine zaf ?_ ?_;focus first|omega|(refine zad ?_;(refine no_implicit_lambda% (st ?_);try with_reducible exact True.intro);done)))<;>try (refine no_implicit_lambda% (st ?_);try with_reducible exact True.intro)))
   |false =>
    rw[g3]at c3
    have sp:=zlD hp g1
    have sa:=zgb g2
    have sb:=zgb g3
    have k1:=zdO hH a b (by have:=sa.1;omega) (by have:=sa.2.1;omega) (by have:=sa.2.2;omega)
    have k2:=zdO hH b a (by have:=sb.1;omega) (by have:=sb.2.1;omega) (by have:=sb.2.2;omega)
    have k3:=zeF hH a b (by have:=sa.2.1;omega) (by have:=sa.2.2;omega)
    have k4:=zeF hH b a (by have:=sb.2.1;omega) (by have:=sb.2.2;omega)
    have k5:=sTwin_pc hH a sa
    have k6:=zdO hH a a (by have:=sa.1;omega) (by have:=sa.2.1;omega) (by have:=sa.2.2;omega)
    have k7:=zaS hH hI p sp a sa
    have k8:=zaS hH hI p sp b sb
    have k9:=zcw hH a sa
    rw[show decide (b=a)=decide (a=b) by simp[eq_comm]]at k2
    rw[zgP]at k4
    rw[show decide (a=a)=true by simp]at k6
    have e1:decide (a=b)=true→zeR a b=true∧zak p a=zak p b:=by
     intro h
     simp only[decide_eq_true_eq]at h
     subst h
     exact ⟨zks rfl rfl,rfl⟩
    have hno:∀ ts:List Track,(∃ x,ts=x)→True:=fun _ _=>trivial
    have fin:∀ (ts:List Track),a.tracks.length=ts.length→SmS ⟨ts++[⟨1,0⟩],a.switches,a.locks⟩:=fun ts h=>⟨by have:=sa.1;simp;unfold zeo at g2;simp at g2;omega,sa.2⟩
    have ka:zak p a=0→∀ ts:List Track,a.tracks.length=ts.length→zak p ⟨ts++[⟨1,0⟩],a.switches,a.locks⟩=8:=fun h ts hl=>zj8 h (by have:=zaR (zar h).2.1;simp;omega)
    have kx:zak p a=0→∀ ts:List Track,a.tracks.length=ts.length→PC P inv 69 [.agg p.c,.agg (State.c ⟨ts++[⟨1,0⟩],a.switches,a.locks⟩)] (·=.n 8):=fun h ts hl=>by
     have:=zaS hH hI p sp _ (fin ts hl)
     rw[ka h ts hl]at this
     exact this
    by_cases hat:0≤n∧n<a.tracks.length
    ·obtain ⟨k,rfl⟩:∃ k:Nat,n=k:=⟨n.toNat,by omega⟩
     have hk:k<a.tracks.length:=by omega
     obtain ⟨X,hX⟩:∃ X,X=a.tracks.set k ⟨(nth a.tracks k).id,zet (nth a.tracks k).is⟩:=⟨_,rfl⟩
     have hXl:a.tracks.length=X.length:=by rw[hX];simp
     have hti:=zmw (ha.1.2 _ (zat hk)).2
     have q1:=zeF hH a ⟨X,a.switches,a.locks⟩ (by have:=sa.2.1;omega) (by have:=sa.2.2;omega)
     rw[zks (a:=a) (b:=⟨X,a.switches,a.locks⟩) rfl rfl]at q1
     have q2:=zdO hH a ⟨X,a.switches,a.locks⟩ (by have:=sa.1;omega) (by have:=sa.2.1;omega) (by have:=sa.2.2;omega)
     have hne:¬a=⟨X,a.switches,a.locks⟩:=fun h=>by
      have h1:a.tracks=X:=congrArg State.tracks h
      have h2:nth X k=⟨(nth a.tracks k).id,zet (nth a.tracks k).is⟩:=by rw[hX,zbC _ _ _ _ hk,if_pos rfl]
      rw[←h1]at h2
      have h3:=congrArg Track.is h2
      dsimp only at h3
      omega
     rw[decide_eq_false hne]at q2
     have q3:=zaS hH hI p sp ⟨X,a.switches,a.locks⟩ ⟨by have:=sa.1;dsimp only;omega,sa.2⟩
     have e2:=zdV (c:=Track.c) (l:=a.tracks) (k:=k) (i:=1) hk (by omega) (.i .u8 (zet (nth a.tracks k).is)) (⟨(nth a.tracks k).id,zet (nth a.tracks k).is⟩:Track) rfl
     rw[←hX]at e2
     have e3:=zli (c:=Track.c) (l:=a.tracks) (k:=k) (i:=1) hk (by omega)
     have e4:zbx 2 a.tracks.length (X.map Track.c).flatten=X.map Track.c:=by rw[hXl];exact zb8 X
     have e5:X.length=a.tracks.length:=hXl.symm
     have kx2:=fun h=>kx h X hXl
     have q4:zak p a=0→zak p ⟨X,a.switches,a.locks⟩=0:=fun h=>zlz h (by
      have hp2:=(zar h).2.1
      simp only[zav,Bool.and_eq_true]at hp2
      rw[hX]
      refine zhy hp2.1 hk ?_
      have:=zdq hp2.1 hk
      simp only[zfQ,Bool.and_eq_true,decide_eq_true_eq]at this ⊢
      exact ⟨this.1,hti.2.1⟩)
     have hu8:0≤(nth a.tracks k).is∧(nth a.tracks k).is≤255:=(ha.1.2 _ (zat hk)).2
     have e6:IntKind.wrap .u8 ((nth a.tracks k).is.tmod 3+1)=(nth a.tracks k).is.tmod 3+1:=wU8 (by rw[Int.tmod_eq_emod_of_nonneg hu8.1];omega)
     obtain ⟨X2,hX2⟩:∃ X2,X2=X++[⟨1,0⟩]:=⟨_,rfl⟩
     have e8:(X.map Track.c).flatten++[.i .i64 1,.i .u8 0]=(X2.map Track.c).flatten:=by rw[hX2];simp[Track.c]
     have e9:X2.length=a.tracks.length+1:=by rw[hX2,hXl];simp
     have e7:(X2.map Track.c).flatten.take 2::zbx 2 a.tracks.length ((X2.map Track.c).flatten.drop 2)=X2.map Track.c:=by
      have:=zb8 (c:=Track.c) X2
      rw[e9,zbx]at this
      exact this
     rw[←hX2]at kx2
     have hla:a.tracks.length≤1000:=sa.1
     clear hX hne kx fin ka hno
     unfold stV stR at k9
     unfold zet at e2 hti
     generalize decide (a=b)=t at k1 k2 e1
     generalize zeR a b=u at k3 k4 e1
     generalize zak p a=ea at k7 e1 q4 kx2
     generalize zak p b=eb at k8 e1
     generalize zak p ⟨X,a.switches,a.locks⟩=ec at q3 q4
     cases t with
     |false =>
      by_cases hea:ea=0
      ·subst hea
       have q4:=q4 rfl
       subst q4
       have kx2:=kx2 rfl
       refine zae (F:=cd57) (hH.has _ _ rfl) (Nat.le_of_ble_eq_true rfl) fun w0 M Q hM hQ hR=>?_;have hE:=hH.callable;dsimp only[cd57,qm,ql,qf,qi,qb,qc,qp,qv,qN,qT,qF,qt]at hQ ⊢
       repeat' (first|refine zab [0,1,2,3,4,5,6,8,9,10,25,32,40,46,50,58,64,71,74,85,120] fun K hK=>?_|refine AWp.block ?_|(refine hK.go ?_;clear hK K)|refine Cont.go (by assumption) ?_|(refine cnd2 rfl (fun h=>?_) (fun h=>?_)<;>(try first|exact h.elim|obtain rfl:(_:Bool)=true:=h|obtain rfl:(_:Bool)=false:=h)<;>first|(exfalso;omega)|skip)|((first|refine AWp.reg hE hM ?_|refine AWp.regd hE hM ?_|refine AWp.ret ?_|refine AWp.skip ?_|refine AWp.exit ?_|(refine pk2 (fun h=>?_) (fun h=>?_)<;>(try first|exact h.elim|obtain rfl:(_:Bool)=true:=h|obtain rfl:(_:Bool)=false:=h))|refine zac (fun h=>?_) ?_|refine zaa hM (c0) ?_|refine zaa hM (c1) ?_|refine zaa hM (c2) ?_|refine zaa hM (c3) ?_|refine zaa hM (k1) ?_|refine zaa hM (k2) ?_|refine zaa hM (k3) ?_|refine zaa hM (k4) ?_|refine zaa hM (k7) ?_|refine zaa hM (k8) ?_|refine PO.callK hM ( k9) ?_|(refine zam hM 4 ( k6) ?_ rfl ?_;(focus (simp -dsimp -implicitDefEqProofs (disch:=omega) only[go_sem,reduceIte,↓reduceIte,Nat.reduceEqDiff,Nat.reduceLT,Nat.reduceLeDiff,Nat.reduceAdd,Nat.reduceSub,Nat.reduceMul,Int.reduceToNat,Int.reduceLT,Int.reduceLE,Int.reduceEq,Int.reduceNeg,Int.reduceNe,reduceCtorEq,e2,e3,e4,e5,e6,e7,e8,e9]<;>fail)))|(refine zam hM 4 ( q1) ?_ rfl ?_;(focus (simp -dsimp -implicitDefEqProofs (disch:=omega) only[go_sem,reduceIte,↓reduceIte,Nat.reduceEqDiff,Nat.reduceLT,Nat.reduceLeDiff,Nat.reduceAdd,Nat.reduceSub,Nat.reduceMul,Int.reduceToNat,Int.reduceLT,Int.reduceLE,Int.reduceEq,Int.reduceNeg,Int.reduceNe,reduceCtorEq,e2,e3,e4,e5,e6,e7,e8,e9]<;>fail)))|(refine zam hM 4 ( q2) ?_ rfl ?_;(focus (simp -dsimp -implicitDefEqProofs (disch:=omega) only[go_sem,reduceIte,↓reduceIte,Nat.reduceEqDiff,Nat.reduceLT,Nat.reduceLeDiff,Nat.reduceAdd,Nat.reduceSub,Nat.reduceMul,Int.reduceToNat,Int.reduceLT,Int.reduceLE,Int.reduceEq,Int.reduceNeg,Int.reduceNe,reduceCtorEq,e2,e3,e4,e5,e6,e7,e8,e9]<;>fail)))|(refine zam hM 4 ( q3) ?_ rfl ?_;(focus (simp -dsimp -implicitDefEqProofs (disch:=omega) only[go_sem,reduceIte,↓reduceIte,Nat.reduceEqDiff,Nat.reduceLT,Nat.reduceLeDiff,Nat.reduceAdd,Nat.reduceSub,Nat.reduceMul,Int.reduceToNat,Int.reduceLT,Int.reduceLE,Int.reduceEq,Int.reduceNeg,Int.reduceNe,reduceCtorEq,e2,e3,e4,e5,e6,e7,e8,e9]<;>fail)))|(refine zam hM 4 ( kx2) ?_ rfl ?_;(focus (simp -dsimp -implicitDefEqProofs (disch:=omega) only[go_sem,reduceIte,↓reduceIte,Nat.reduceEqDiff,Nat.reduceLT,Nat.reduceLeDiff,Nat.reduceAdd,Nat.reduceSub,Nat.reduceMul,Int.reduceToNat,Int.reduceLT,Int.reduceLE,Int.reduceEq,Int.reduceNeg,Int.reduceNe,reduceCtorEq,e2,e3,e4,e5,e6,e7,e8,e9]<;>fail)))|(refine hQ _ _ _ rfl ?_;clear hQ hR hE hM)|(refine hR _ _ (hQ _ _ _ rfl ?_);clear hQ hR hE hM)|(refine zaf ?_ ?_;focus first|omega|(refine zad ?_;(refine no_implicit_lambda% (st ?_);try with_reducible exact True.intro);done)))<;>try simp -dsimp -implicitDefEqProofs (disch:=omega) only[go_sem,reduceIte,↓reduceIte,Nat.reduceEqDiff,Nat.reduceLT,Nat.reduceLeDiff,Nat.reduceAdd,Nat.reduceSub,Nat.reduceMul,Int.reduceToNat,Int.reduceLT,Int.reduceLE,Int.reduceEq,Int.reduceNeg,Int.reduceNe,reduceCtorEq,e2,e3,e4,e5,e6,e7,e8,e9]))
       all_goals first|rfl|(exfalso;contradiction)|(exfalso;omega)
      ·refine zae (F:=cd57) (hH.has _ _ rfl) (Nat.le_of_ble_eq_true rfl) fun w0 M Q hM hQ hR=>?_;have hE:=hH.callable;dsimp only[cd57,qm,ql,qf,qi,qb,qc,qp,qv,qN,qT,qF,qt]at hQ ⊢
       repeat' (first|refine zab [0,1,2,3,4,5,6,8,9,10,25,32,40,46,50,58,64,71,74,85,120] fun K hK=>?_|refine AWp.block ?_|(refine hK.go ?_;clear hK K)|refine Cont.go (by assumption) ?_|(refine cnd2 rfl (fun h=>?_) (fun h=>?_)<;>(try first|exact h.elim|obtain rfl:(_:Bool)=true:=h|obtain rfl:(_:Bool)=false:=h)<;>first|(exfalso;omega)|skip)|((first|refine AWp.reg hE hM ?_|refine AWp.regd hE hM ?_|refine AWp.ret ?_|refine AWp.skip ?_|refine AWp.exit ?_|(refine pk2 (fun h=>?_) (fun h=>?_)<;>(try first|exact h.elim|obtain rfl:(_:Bool)=true:=h|obtain rfl:(_:Bool)=false:=h))|refine zac (fun h=>?_) ?_|refine zaa hM (c0) ?_|refine zaa hM (c1) ?_|refine zaa hM (c2) ?_|refine zaa hM (c3) ?_|refine zaa hM (k1) ?_|refine zaa hM (k2) ?_|refine zaa hM (k3) ?_|refine zaa hM (k4) ?_|refine zaa hM (k7) ?_|refine zaa hM (k8) ?_|refine PO.callK hM ( k9) ?_|(refine zam hM 4 ( k6) ?_ rfl ?_;(focus (simp -dsimp -implicitDefEqProofs (disch:=omega) only[go_sem,reduceIte,↓reduceIte,Nat.reduceEqDiff,Nat.reduceLT,Nat.reduceLeDiff,Nat.reduceAdd,Nat.reduceSub,Nat.reduceMul,Int.reduceToNat,Int.reduceLT,Int.reduceLE,Int.reduceEq,Int.reduceNeg,Int.reduceNe,reduceCtorEq,e2,e3,e4,e5,e6,e7,e8,e9]<;>fail)))|(refine zam hM 4 ( q1) ?_ rfl ?_;(focus (simp -dsimp -implicitDefEqProofs (disch:=omega) only[go_sem,reduceIte,↓reduceIte,Nat.reduceEqDiff,Nat.reduceLT,Nat.reduceLeDiff,Nat.reduceAdd,Nat.reduceSub,Nat.reduceMul,Int.reduceToNat,Int.reduceLT,Int.reduceLE,Int.reduceEq,Int.reduceNeg,Int.reduceNe,reduceCtorEq,e2,e3,e4,e5,e6,e7,e8,e9]<;>fail)))|(refine zam hM 4 ( q2) ?_ rfl ?_;(focus (simp -dsimp -implicitDefEqProofs (disch:=omega) only[go_sem,reduceIte,↓reduceIte,Nat.reduceEqDiff,Nat.reduceLT,Nat.reduceLeDiff,Nat.reduceAdd,Nat.reduceSub,Nat.reduceMul,Int.reduceToNat,Int.reduceLT,Int.reduceLE,Int.reduceEq,Int.reduceNeg,Int.reduceNe,reduceCtorEq,e2,e3,e4,e5,e6,e7,e8,e9]<;>fail)))|(refine hQ _ _ _ rfl ?_;clear hQ hR hE hM)|(refine hR _ _ (hQ _ _ _ rfl ?_);clear hQ hR hE hM)|(refine zaf ?_ ?_;focus first|omega|(refine zad ?_;(refine no_implicit_lambda% (st ?_);try with_reducible exact True.intro);done)))<;>try simp -dsimp -implicitDefEqProofs (disch:=omega) only[go_sem,reduceIte,↓reduceIte,Nat.reduceEqDiff,Nat.reduceLT,Nat.reduceLeDiff,Nat.reduceAdd,Nat.reduceSub,Nat.reduceMul,Int.reduceToNat,Int.reduceLT,Int.reduceLE,Int.reduceEq,Int.reduceNeg,Int.reduceNe,reduceCtorEq,e2,e3,e4,e5,e6,e7,e8,e9]))
       all_goals first|rfl|(exfalso;contradiction)|(exfalso;omega)
     |true =>
      obtain ⟨rfl,rfl⟩:=e1 rfl
      by_cases hea:ea=0
      ·subst hea
       have q4:=q4 rfl
       subst q4
       have kx2:=kx2 rfl
       refine zae (F:=cd57) (hH.has _ _ rfl) (Nat.le_of_ble_eq_true rfl) fun w0 M Q hM hQ hR=>?_;have hE:=hH.callable;dsimp only[cd57,qm,ql,qf,qi,qb,qc,qp,qv,qN,qT,qF,qt]at hQ ⊢
       repeat' (first|refine zab [0,1,2,3,4,5,6,8,9,10,25,32,40,46,50,58,64,71,74,85,120] fun K hK=>?_|refine AWp.block ?_|(refine hK.go ?_;clear hK K)|refine Cont.go (by assumption) ?_|(refine cnd2 rfl (fun h=>?_) (fun h=>?_)<;>(try first|exact h.elim|obtain rfl:(_:Bool)=true:=h|obtain rfl:(_:Bool)=false:=h)<;>first|(exfalso;omega)|skip)|((first|refine AWp.reg hE hM ?_|refine AWp.regd hE hM ?_|refine AWp.ret ?_|refine AWp.skip ?_|refine AWp.exit ?_|(refine pk2 (fun h=>?_) (fun h=>?_)<;>(try first|exact h.elim|obtain rfl:(_:Bool)=true:=h|obtain rfl:(_:Bool)=false:=h))|refine zac (fun h=>?_) ?_|refine zaa hM (c0) ?_|refine zaa hM (c1) ?_|refine zaa hM (c2) ?_|refine zaa hM (c3) ?_|refine zaa hM (k1) ?_|refine zaa hM (k2) ?_|refine zaa hM (k3) ?_|refine zaa hM (k4) ?_|refine zaa hM (k7) ?_|refine zaa hM (k8) ?_|refine PO.callK hM ( k9) ?_|(refine zam hM 4 ( k6) ?_ rfl ?_;(focus (simp -dsimp -implicitDefEqProofs (disch:=omega) only[go_sem,reduceIte,↓reduceIte,Nat.reduceEqDiff,Nat.reduceLT,Nat.reduceLeDiff,Nat.reduceAdd,Nat.reduceSub,Nat.reduceMul,Int.reduceToNat,Int.reduceLT,Int.reduceLE,Int.reduceEq,Int.reduceNeg,Int.reduceNe,reduceCtorEq,e2,e3,e4,e5,e6,e7,e8,e9]<;>fail)))|(refine zam hM 4 ( q1) ?_ rfl ?_;(focus (simp -dsimp -implicitDefEqProofs (disch:=omega) only[go_sem,reduceIte,↓reduceIte,Nat.reduceEqDiff,Nat.reduceLT,Nat.reduceLeDiff,Nat.reduceAdd,Nat.reduceSub,Nat.reduceMul,Int.reduceToNat,Int.reduceLT,Int.reduceLE,Int.reduceEq,Int.reduceNeg,Int.reduceNe,reduceCtorEq,e2,e3,e4,e5,e6,e7,e8,e9]<;>fail)))|(refine zam hM 4 ( q2) ?_ rfl ?_;(focus (simp -dsimp -implicitDefEqProofs (disch:=omega) only[go_sem,reduceIte,↓reduceIte,Nat.reduceEqDiff,Nat.reduceLT,Nat.reduceLeDiff,Nat.reduceAdd,Nat.reduceSub,Nat.reduceMul,Int.reduceToNat,Int.reduceLT,Int.reduceLE,Int.reduceEq,Int.reduceNeg,Int.reduceNe,reduceCtorEq,e2,e3,e4,e5,e6,e7,e8,e9]<;>fail)))|(refine zam hM 4 ( q3) ?_ rfl ?_;(focus (simp -dsimp -implicitDefEqProofs (disch:=omega) only[go_sem,reduceIte,↓reduceIte,Nat.reduceEqDiff,Nat.reduceLT,Nat.reduceLeDiff,Nat.reduceAdd,Nat.reduceSub,Nat.reduceMul,Int.reduceToNat,Int.reduceLT,Int.reduceLE,Int.reduceEq,Int.reduceNeg,Int.reduceNe,reduceCtorEq,e2,e3,e4,e5,e6,e7,e8,e9]<;>fail)))|(refine zam hM 4 ( kx2) ?_ rfl ?_;(focus (simp -dsimp -implicitDefEqProofs (disch:=omega) only[go_sem,reduceIte,↓reduceIte,Nat.reduceEqDiff,Nat.reduceLT,Nat.reduceLeDiff,Nat.reduceAdd,Nat.reduceSub,Nat.reduceMul,Int.reduceToNat,Int.reduceLT,Int.reduceLE,Int.reduceEq,Int.reduceNeg,Int.reduceNe,reduceCtorEq,e2,e3,e4,e5,e6,e7,e8,e9]<;>fail)))|(refine hQ _ _ _ rfl ?_;clear hQ hR hE hM)|(refine hR _ _ (hQ _ _ _ rfl ?_);clear hQ hR hE hM)|(refine zaf ?_ ?_;focus first|omega|(refine zad ?_;(refine no_implicit_lambda% (st ?_);try with_reducible exact True.intro);done)))<;>try simp -dsimp -implicitDefEqProofs (disch:=omega) only[go_sem,reduceIte,↓reduceIte,Nat.reduceEqDiff,Nat.reduceLT,Nat.reduceLeDiff,Nat.reduceAdd,Nat.reduceSub,Nat.reduceMul,Int.reduceToNat,Int.reduceLT,Int.reduceLE,Int.reduceEq,Int.reduceNeg,Int.reduceNe,reduceCtorEq,e2,e3,e4,e5,e6,e7,e8,e9]))
       all_goals first|rfl|(exfalso;contradiction)|(exfalso;omega)
      ·refine zae (F:=cd57) (hH.has _ _ rfl) (Nat.le_of_ble_eq_true rfl) fun w0 M Q hM hQ hR=>?_;have hE:=hH.callable;dsimp only[cd57,qm,ql,qf,qi,qb,qc,qp,qv,qN,qT,qF,qt]at hQ ⊢
       repeat' (first|refine zab [0,1,2,3,4,5,6,8,9,10,25,32,40,46,50,58,64,71,74,85,120] fun K hK=>?_|refine AWp.block ?_|(refine hK.go ?_;clear hK K)|refine Cont.go (by assumption) ?_|(refine cnd2 rfl (fun h=>?_) (fun h=>?_)<;>(try first|exact h.elim|obtain rfl:(_:Bool)=true:=h|obtain rfl:(_:Bool)=false:=h)<;>first|(exfalso;omega)|skip)|((first|refine AWp.reg hE hM ?_|refine AWp.regd hE hM ?_|refine AWp.ret ?_|refine AWp.skip ?_|refine AWp.exit ?_|(refine pk2 (fun h=>?_) (fun h=>?_)<;>(try first|exact h.elim|obtain rfl:(_:Bool)=true:=h|obtain rfl:(_:Bool)=false:=h))|refine zac (fun h=>?_) ?_|refine zaa hM (c0) ?_|refine zaa hM (c1) ?_|refine zaa hM (c2) ?_|refine zaa hM (c3) ?_|refine zaa hM (k1) ?_|refine zaa hM (k2) ?_|refine zaa hM (k3) ?_|refine zaa hM (k4) ?_|refine zaa hM (k7) ?_|refine zaa hM (k8) ?_|refine PO.callK hM ( k9) ?_|(refine zam hM 4 ( k6) ?_ rfl ?_;(focus (simp -dsimp -implicitDefEqProofs (disch:=omega) only[go_sem,reduceIte,↓reduceIte,Nat.reduceEqDiff,Nat.reduceLT,Nat.reduceLeDiff,Nat.reduceAdd,Nat.reduceSub,Nat.reduceMul,Int.reduceToNat,Int.reduceLT,Int.reduceLE,Int.reduceEq,Int.reduceNeg,Int.reduceNe,reduceCtorEq,e2,e3,e4,e5,e6,e7,e8,e9]<;>fail)))|(refine zam hM 4 ( q1) ?_ rfl ?_;(focus (simp -dsimp -implicitDefEqProofs (disch:=omega) only[go_sem,reduceIte,↓reduceIte,Nat.reduceEqDiff,Nat.reduceLT,Nat.reduceLeDiff,Nat.reduceAdd,Nat.reduceSub,Nat.reduceMul,Int.reduceToNat,Int.reduceLT,Int.reduceLE,Int.reduceEq,Int.reduceNeg,Int.reduceNe,reduceCtorEq,e2,e3,e4,e5,e6,e7,e8,e9]<;>fail)))|(refine zam hM 4 ( q2) ?_ rfl ?_;(focus (simp -dsimp -implicitDefEqProofs (disch:=omega) only[go_sem,reduceIte,↓reduceIte,Nat.reduceEqDiff,Nat.reduceLT,Nat.reduceLeDiff,Nat.reduceAdd,Nat.reduceSub,Nat.reduceMul,Int.reduceToNat,Int.reduceLT,Int.reduceLE,Int.reduceEq,Int.reduceNeg,Int.reduceNe,reduceCtorEq,e2,e3,e4,e5,e6,e7,e8,e9]<;>fail)))|(refine hQ _ _ _ rfl ?_;clear hQ hR hE hM)|(refine hR _ _ (hQ _ _ _ rfl ?_);clear hQ hR hE hM)|(refine zaf ?_ ?_;focus first|omega|(refine zad ?_;(refine no_implicit_lambda% (st ?_);try with_reducible exact True.intro);done)))<;>try simp -dsimp -implicitDefEqProofs (disch:=omega) only[go_sem,reduceIte,↓reduceIte,Nat.reduceEqDiff,Nat.reduceLT,Nat.reduceLeDiff,Nat.reduceAdd,Nat.reduceSub,Nat.reduceMul,Int.reduceToNat,Int.reduceLT,Int.reduceLE,Int.reduceEq,Int.reduceNeg,Int.reduceNe,reduceCtorEq,e2,e3,e4,e5,e6,e7,e8,e9]))
       all_goals first|rfl|(exfalso;contradiction)|(exfalso;omega)
    ·obtain ⟨X2,hX2⟩:∃ X2,X2=a.tracks++[⟨1,0⟩]:=⟨_,rfl⟩
     have e8:(a.tracks.map Track.c).flatten++[.i .i64 1,.i .u8 0]=(X2.map Track.c).flatten:=by rw[hX2];simp[Track.c]
     have e9:X2.length=a.tracks.length+1:=by rw[hX2];simp
     have e7:(X2.map Track.c).flatten.take 2::zbx 2 a.tracks.length ((X2.map Track.c).flatten.drop 2)=X2.map Track.c:=by
      have:=zb8 (c:=Track.c) X2
      rw[e9,zbx]at this
      exact this
     have kx2:=fun h=>kx h a.tracks rfl
     rw[←hX2]at kx2
     have hla:a.tracks.length≤1000:=sa.1
     clear kx fin ka hno
     unfold stV stR at k9
     generalize decide (a=b)=t at k1 k2 e1
     generalize zeR a b=u at k3 k4 e1
     generalize zak p a=ea at k7 e1 kx2
     generalize zak p b=eb at k8 e1
     cases t with
     |false =>
      by_cases hea:ea=0
      ·subst hea
       have kx2:=kx2 rfl
       refine zae (F:=cd57) (hH.has _ _ rfl) (Nat.le_of_ble_eq_true rfl) fun w0 M Q hM hQ hR=>?_;have hE:=hH.callable;dsimp only[cd57,qm,ql,qf,qi,qb,qc,qp,qv,qN,qT,qF,qt]at hQ ⊢
       repeat' (first|refine zab [0,1,2,3,4,5,6,8,9,10,25,32,40,46,50,58,64,71,74,85,120] fun K hK=>?_|refine AWp.block ?_|(refine hK.go ?_;clear hK K)|refine Cont.go (by assumption) ?_|(refine cnd2 rfl (fun h=>?_) (fun h=>?_)<;>(try first|exact h.elim|obtain rfl:(_:Bool)=true:=h|obtain rfl:(_:Bool)=false:=h)<;>first|(exfalso;omega)|skip)|((first|refine AWp.reg hE hM ?_|refine AWp.regd hE hM ?_|refine AWp.ret ?_|refine AWp.skip ?_|refine AWp.exit ?_|(refine pk2 (fun h=>?_) (fun h=>?_)<;>(try first|exact h.elim|obtain rfl:(_:Bool)=true:=h|obtain rfl:(_:Bool)=false:=h))|refine zac (fun h=>?_) ?_|refine zaa hM (c0) ?_|refine zaa hM (c1) ?_|refine zaa hM (c2) ?_|refine zaa hM (c3) ?_|refine zaa hM (k1) ?_|refine zaa hM (k2) ?_|refine zaa hM (k3) ?_|refine zaa hM (k4) ?_|refine zaa hM (k7) ?_|refine zaa hM (k8) ?_|refine PO.callK hM ( k9) ?_|(refine zam hM 4 ( k6) ?_ rfl ?_;(focus (simp -dsimp -implicitDefEqProofs (disch:=omega) only[go_sem,reduceIte,↓reduceIte,Nat.reduceEqDiff,Nat.reduceLT,Nat.reduceLeDiff,Nat.reduceAdd,Nat.reduceSub,Nat.reduceMul,Int.reduceToNat,Int.reduceLT,Int.reduceLE,Int.reduceEq,Int.reduceNeg,Int.reduceNe,reduceCtorEq,e7,e8,e9]<;>fail)))|(refine zam hM 4 ( kx2) ?_ rfl ?_;(focus (simp -dsimp -implicitDefEqProofs (disch:=omega) only[go_sem,reduceIte,↓reduceIte,Nat.reduceEqDiff,Nat.reduceLT,Nat.reduceLeDiff,Nat.reduceAdd,Nat.reduceSub,Nat.reduceMul,Int.reduceToNat,Int.reduceLT,Int.reduceLE,Int.reduceEq,Int.reduceNeg,Int.reduceNe,reduceCtorEq,e7,e8,e9]<;>fail)))|(refine hQ _ _ _ rfl ?_;clear hQ hR hE hM)|(refine hR _ _ (hQ _ _ _ rfl ?_);clear hQ hR hE hM)|(refine zaf ?_ ?_;focus first|omega|(refine zad ?_;(refine no_implicit_lambda% (st ?_);try with_reducible exact True.intro);done)))<;>try simp -dsimp -implicitDefEqProofs (disch:=omega) only[go_sem,reduceIte,↓reduceIte,Nat.reduceEqDiff,Nat.reduceLT,Nat.reduceLeDiff,Nat.reduceAdd,Nat.reduceSub,Nat.reduceMul,Int.reduceToNat,Int.reduceLT,Int.reduceLE,Int.reduceEq,Int.reduceNeg,Int.reduceNe,reduceCtorEq,e7,e8,e9]))
       all_goals first|rfl|(exfalso;contradiction)|(exfalso;omega)
      ·refine zae (F:=cd57) (hH.has _ _ rfl) (Nat.le_of_ble_eq_true rfl) fun w0 M Q hM hQ hR=>?_;have hE:=hH.callable;dsimp only[cd57,qm,ql,qf,qi,qb,qc,qp,qv,qN,qT,qF,qt]at hQ ⊢
       repeat' (first|refine zab [0,1,2,3,4,5,6,8,9,10,25,32,40,46,50,58,64,71,74,85,120] fun K hK=>?_|refine AWp.block ?_|(refine hK.go ?_;clear hK K)|refine Cont.go (by assumption) ?_|(refine cnd2 rfl (fun h=>?_) (fun h=>?_)<;>(try first|exact h.elim|obtain rfl:(_:Bool)=true:=h|obtain rfl:(_:Bool)=false:=h)<;>first|(exfalso;omega)|skip)|((first|refine AWp.reg hE hM ?_|refine AWp.regd hE hM ?_|refine AWp.ret ?_|refine AWp.skip ?_|refine AWp.exit ?_|(refine pk2 (fun h=>?_) (fun h=>?_)<;>(try first|exact h.elim|obtain rfl:(_:Bool)=true:=h|obtain rfl:(_:Bool)=false:=h))|refine zac (fun h=>?_) ?_|refine zaa hM (c0) ?_|refine zaa hM (c1) ?_|refine zaa hM (c2) ?_|refine zaa hM (c3) ?_|refine zaa hM (k1) ?_|refine zaa hM (k2) ?_|refine zaa hM (k3) ?_|refine zaa hM (k4) ?_|refine zaa hM (k7) ?_|refine zaa hM (k8) ?_|refine PO.callK hM ( k9) ?_|(refine zam hM 4 ( k6) ?_ rfl ?_;(focus (simp -dsimp -implicitDefEqProofs (disch:=omega) only[go_sem,reduceIte,↓reduceIte,Nat.reduceEqDiff,Nat.reduceLT,Nat.reduceLeDiff,Nat.reduceAdd,Nat.reduceSub,Nat.reduceMul,Int.reduceToNat,Int.reduceLT,Int.reduceLE,Int.reduceEq,Int.reduceNeg,Int.reduceNe,reduceCtorEq,e7,e8,e9]<;>fail)))|(refine hQ _ _ _ rfl ?_;clear hQ hR hE hM)|(refine hR _ _ (hQ _ _ _ rfl ?_);clear hQ hR hE hM)|(refine zaf ?_ ?_;focus first|omega|(refine zad ?_;(refine no_implicit_lambda% (st ?_);try with_reducible exact True.intro);done)))<;>try simp -dsimp -implicitDefEqProofs (disch:=omega) only[go_sem,reduceIte,↓reduceIte,Nat.reduceEqDiff,Nat.reduceLT,Nat.reduceLeDiff,Nat.reduceAdd,Nat.reduceSub,Nat.reduceMul,Int.reduceToNat,Int.reduceLT,Int.reduceLE,Int.reduceEq,Int.reduceNeg,Int.reduceNe,reduceCtorEq,e7,e8,e9]))
       all_goals first|rfl|(exfalso;contradiction)|(exfalso;omega)
     |true =>
      obtain ⟨rfl,rfl⟩:=e1 rfl
      by_cases hea:ea=0
      ·subst hea
       have kx2:=kx2 rfl
       refine zae (F:=cd57) (hH.has _ _ rfl) (Nat.le_of_ble_eq_true rfl) fun w0 M Q hM hQ hR=>?_;have hE:=hH.callable;dsimp only[cd57,qm,ql,qf,qi,qb,qc,qp,qv,qN,qT,qF,qt]at hQ ⊢
       repeat' (first|refine zab [0,1,2,3,4,5,6,8,9,10,25,32,40,46,50,58,64,71,74,85,120] fun K hK=>?_|refine AWp.block ?_|(refine hK.go ?_;clear hK K)|refine Cont.go (by assumption) ?_|(refine cnd2 rfl (fun h=>?_) (fun h=>?_)<;>(try first|exact h.elim|obtain rfl:(_:Bool)=true:=h|obtain rfl:(_:Bool)=false:=h)<;>first|(exfalso;omega)|skip)|((first|refine AWp.reg hE hM ?_|refine AWp.regd hE hM ?_|refine AWp.ret ?_|refine AWp.skip ?_|refine AWp.exit ?_|(refine pk2 (fun h=>?_) (fun h=>?_)<;>(try first|exact h.elim|obtain rfl:(_:Bool)=true:=h|obtain rfl:(_:Bool)=false:=h))|refine zac (fun h=>?_) ?_|refine zaa hM (c0) ?_|refine zaa hM (c1) ?_|refine zaa hM (c2) ?_|refine zaa hM (c3) ?_|refine zaa hM (k1) ?_|refine zaa hM (k2) ?_|refine zaa hM (k3) ?_|refine zaa hM (k4) ?_|refine zaa hM (k7) ?_|refine zaa hM (k8) ?_|refine PO.callK hM ( k9) ?_|(refine zam hM 4 ( k6) ?_ rfl ?_;(focus (simp -dsimp -implicitDefEqProofs (disch:=omega) only[go_sem,reduceIte,↓reduceIte,Nat.reduceEqDiff,Nat.reduceLT,Nat.reduceLeDiff,Nat.reduceAdd,Nat.reduceSub,Nat.reduceMul,Int.reduceToNat,Int.reduceLT,Int.reduceLE,Int.reduceEq,Int.reduceNeg,Int.reduceNe,reduceCtorEq,e7,e8,e9]<;>fail)))|(refine zam hM 4 ( kx2) ?_ rfl ?_;(focus (simp -dsimp -implicitDefEqProofs (disch:=omega) only[go_sem,reduceIte,↓reduceIte,Nat.reduceEqDiff,Nat.reduceLT,Nat.reduceLeDiff,Nat.reduceAdd,Nat.reduceSub,Nat.reduceMul,Int.reduceToNat,Int.reduceLT,Int.reduceLE,Int.reduceEq,Int.reduceNeg,Int.reduceNe,reduceCtorEq,e7,e8,e9]<;>fail)))|(refine hQ _ _ _ rfl ?_;clear hQ hR hE hM)|(refine hR _ _ (hQ _ _ _ rfl ?_);clear hQ hR hE hM)|(refine zaf ?_ ?_;focus first|omega|(refine zad ?_;(refine no_implicit_lambda% (st ?_);try with_reducible exact True.intro);done)))<;>try simp -dsimp -implicitDefEqProofs (disch:=omega) only[go_sem,reduceIte,↓reduceIte,Nat.reduceEqDiff,Nat.reduceLT,Nat.reduceLeDiff,Nat.reduceAdd,Nat.reduceSub,Nat.reduceMul,Int.reduceToNat,Int.reduceLT,Int.reduceLE,Int.reduceEq,Int.reduceNeg,Int.reduceNe,reduceCtorEq,e7,e8,e9]))
       all_goals first|rfl|(exfalso;contradiction)|(exfalso;omega)
      ·refine zae (F:=cd57) (hH.has _ _ rfl) (Nat.le_of_ble_eq_true rfl) fun w0 M Q hM hQ hR=>?_;have hE:=hH.callable;dsimp only[cd57,qm,ql,qf,qi,qb,qc,qp,qv,qN,qT,qF,qt]at hQ ⊢
       repeat' (first|refine zab [0,1,2,3,4,5,6,8,9,10,25,32,40,46,50,58,64,71,74,85,120] fun K hK=>?_|refine AWp.block ?_|(refine hK.go ?_;clear hK K)|refine Cont.go (by assumption) ?_|(refine cnd2 rfl (fun h=>?_) (fun h=>?_)<;>(try first|exact h.elim|obtain rfl:(_:Bool)=true:=h|obtain rfl:(_:Bool)=false:=h)<;>first|(exfalso;omega)|skip)|((first|refine AWp.reg hE hM ?_|refine AWp.regd hE hM ?_|refine AWp.ret ?_|refine AWp.skip ?_|refine AWp.exit ?_|(refine pk2 (fun h=>?_) (fun h=>?_)<;>(try first|exact h.elim|obtain rfl:(_:Bool)=true:=h|obtain rfl:(_:Bool)=false:=h))|refine zac (fun h=>?_) ?_|refine zaa hM (c0) ?_|refine zaa hM (c1) ?_|refine zaa hM (c2) ?_|refine zaa hM (c3) ?_|refine zaa hM (k1) ?_|refine zaa hM (k2) ?_|refine zaa hM (k3) ?_|refine zaa hM (k4) ?_|refine zaa hM (k7) ?_|refine zaa hM (k8) ?_|refine PO.callK hM ( k9) ?_|(refine zam hM 4 ( k6) ?_ rfl ?_;(focus (simp -dsimp -implicitDefEqProofs (disch:=omega) only[go_sem,reduceIte,↓reduceIte,Nat.reduceEqDiff,Nat.reduceLT,Nat.reduceLeDiff,Nat.reduceAdd,Nat.reduceSub,Nat.reduceMul,Int.reduceToNat,Int.reduceLT,Int.reduceLE,Int.reduceEq,Int.reduceNeg,Int.reduceNe,reduceCtorEq,e7,e8,e9]<;>fail)))|(refine hQ _ _ _ rfl ?_;clear hQ hR hE hM)|(refine hR _ _ (hQ _ _ _ rfl ?_);clear hQ hR hE hM)|(refine zaf ?_ ?_;focus first|omega|(refine zad ?_;(refine no_implicit_lambda% (st ?_);try with_reducible exact True.intro);done)))<;>try simp -dsimp -implicitDefEqProofs (disch:=omega) only[go_sem,reduceIte,↓reduceIte,Nat.reduceEqDiff,Nat.reduceLT,Nat.reduceLeDiff,Nat.reduceAdd,Nat.reduceSub,Nat.reduceMul,Int.reduceToNat,Int.reduceLT,Int.reduceLE,Int.reduceEq,Int.reduceNeg,Int.reduceNe,reduceCtorEq,e7,e8,e9]))
       all_goals first|rfl|(exfalso;contradiction)|(exfalso;omega)
end Go.Lev
namespace Go.Lev
open Go.Eng
set_option maxRecDepth 10000
set_option maxHeartbeats 4000000
variable {P:Program} {inv:Nat→Option Nat} {w0:World} {M:Nat→Prop}
theorem img_len (p:Pln) (s:State):(zcA p s).tracks.length=s.tracks.length∧(zcA p s).switches.length=s.switches.length∧(zcA p s).locks.length=s.locks.length:=by simp[zcA]
theorem stateImages_pc (hH:HasAll P inv) (hI:HasIds P inv) (p:Pln) (hp:Pln.ok p) (s:State) (m n:Int):PC P inv 63 [.agg p.c,.agg s.c,.n m,.n n] (·=.b true):=by
 have c0:=zfy hH hI
 have c1:=zbJ hH p
 have c2:=zcu hH s
 cases g1:zea p with
 |true =>
  rw[g1]at c1
  refine zae (F:=cd63) (hH.has _ _ rfl) (Nat.le_of_ble_eq_true rfl) fun w0 M Q hM hQ hR=>?_;have hE:=hH.callable;dsimp only[cd63,qm,ql,qf,qi,qb,qc,qp,qv,qN,qT,qF,qt]at hQ ⊢
  repeat' (first|refine zab [0,1,2,3,4,5,8,9,10,11,12,13,14,15,16,17,18,19,20,21,22,23,24,35,44,84,89,98,103,112,117,149] fun K hK=>?_|refine AWp.block ?_|(refine hK.go ?_;clear hK K)|refine Cont.go (by assumption) ?_|(refine cnd2 rfl (fun h=>?_) (fun h=>?_)<;>(try first|exact h.elim|obtain rfl:(_:Bool)=true:=h|obtain rfl:(_:Bool)=false:=h)<;>first|(exfalso;omega)|skip)|((first|refine AWp.reg hE hM ?_|refine AWp.regd hE hM ?_|refine AWp.ret ?_|refine AWp.skip ?_|refine AWp.exit ?_|(refine pk2 (fun h=>?_) (fun h=>?_)<;>(try first|exact h.elim|obtain rfl:(_:Bool)=true:=h|obtain rfl:(_:Bool)=false:=h))|refine zac (fun h=>?_) ?_|refine zaa hM (c0) ?_|refine zaa hM (c1) ?_|(refine hQ _ _ _ rfl ?_;clear hQ hR hE hM)|(refine hR _ _ (hQ _ _ _ rfl ?_);clear hQ hR hE hM)|(refine zaf ?_ ?_;focus first|omega|(refine zad ?_;(refine no_implicit_lambda% (st ?_);try with_reducible exact True.intro);done)))<;>try (refine no_implicit_lambda% (st ?_);try with_reducible exact True.intro)))
 |false =>
  rw[g1]at c1
  cases g2:zeo s with
  |true =>
   rw[g2]at c2
   refine zae (F:=cd63) (hH.has _ _ rfl) (Nat.le_of_ble_eq_true rfl) fun w0 M Q hM hQ hR=>?_;have hE:=hH.callable;dsimp only[cd63,qm,ql,qf,qi,qb,qc,qp,qv,qN,qT,qF,qt]at hQ ⊢
   repeat' (first|refine zab [0,1,2,3,4,5,8,9,10,11,12,13,14,15,16,17,18,19,20,21,22,23,24,35,44,84,89,98,103,112,117,149] fun K hK=>?_|refine AWp.block ?_|(refine hK.go ?_;clear hK K)|refine Cont.go (by assumption) ?_|(refine cnd2 rfl (fun h=>?_) (fun h=>?_)<;>(try first|exact h.elim|obtain rfl:(_:Bool)=true:=h|obtain rfl:(_:Bool)=false:=h)<;>first|(exfalso;omega)|skip)|((first|refine AWp.reg hE hM ?_|refine AWp.regd hE hM ?_|refine AWp.ret ?_|refine AWp.skip ?_|refine AWp.exit ?_|(refine pk2 (fun h=>?_) (fun h=>?_)<;>(try first|exact h.elim|obtain rfl:(_:Bool)=true:=h|obtain rfl:(_:Bool)=false:=h))|refine zac (fun h=>?_) ?_|refine zaa hM (c0) ?_|refine zaa hM (c1) ?_|refine zaa hM (c2) ?_|(refine hQ _ _ _ rfl ?_;clear hQ hR hE hM)|(refine hR _ _ (hQ _ _ _ rfl ?_);clear hQ hR hE hM)|(refine zaf ?_ ?_;focus first|omega|(refine zad ?_;(refine no_implicit_lambda% (st ?_);try with_reducible exact True.intro);done)))<;>try (refine no_implicit_lambda% (st ?_);try with_reducible exact True.intro)))
  |false =>
   rw[g2]at c2
   have sp:=zlD hp g1
   have ss:=zgb g2
   have c3:=zld hH hI p sp s ss
   have c4:=zaS hH hI p sp s ss
   by_cases hst:zak p s=0
   ·have hl:=img_len p s
    have sx:SmS (zcA p s):=⟨by have:=ss.1;omega,by have:=ss.2.1;omega,by have:=ss.2.2;omega⟩
    have hx:=img_code hst
    have c5:=zld hH hI p sp (zcA p s) sx
    have c6:=zaS hH hI p sp (zcA p s) sx
    have c7:=zdO hH (zcA p s) (zcA p s) (by have:=sx.1;omega) (by have:=sx.2.1;omega) (by have:=sx.2.2;omega)
    have c8:=zeF hH (zcA p s) s (by have:=sx.2.1;omega) (by have:=sx.2.2;omega)
    have c9:=zdC hH hI p sp s ss m
    have d1:=zdC hH hI p sp (zcA p s) sx m
    have d2:=ziK hH hI p sp s ss n
    have d3:=ziK hH hI p sp (zcA p s) sx n
    rw[show decide (zcA p s=zcA p s)=true by simp]at c7
    rw[show zeR (zcA p s) s=true by rw[zgP];exact zf1 p s]at c8
    rw[zgT hst hx (zf1 p s)]at d1
    rw[zmd hst hx (zf1 p s)]at d3
    rw[show zeU p (zcA p s)=zcA p s by unfold zeU;rw[if_pos hx,img_img hst],hx]at c5
    rw[show zeU p s=zcA p s by unfold zeU;rw[if_pos hst],hst]at c3
    rw[hst]at c4
    rw[hx]at c6
    have hT:∀ k,k<(zcA p s).tracks.length→(nth (zcA p s).tracks k).is=2:=fun k hk=>by
     show (nth (s.tracks.mapIdx imgT) k).is=2
     rw[za2 _ (by omega)];rfl
    have hW:∀ k,k<(zcA p s).switches.length→(nth (zcA p s).switches k).lie=0:=fun k hk=>by
     show (nth (s.switches.mapIdx znF) k).lie=0
     rw[za2 _ (by omega)];rfl
    have hL:∀ k,k<(zcA p s).locks.length→(nth s.locks k).left≤(nth (zcA p s).locks k).left∧(0<(nth (zcA p s).locks k).left↔0<(nth s.locks k).left):=fun k hk=>by
     have hp:=(zar hst).2.1
     have hpl:=zaR hp
     have h1:=znn (znp hp (i:=k) (by omega))
     have h2:=zh5 (zbj hst) (zat (show k<p.routes.length by omega))
     show _≤(nth (s.locks.mapIdx (zhl p)) k).left∧(0<(nth (s.locks.mapIdx (zhl p)) k).left↔_)
     rw[za2 _ (by omega)]
     unfold zhl
     split
     ·dsimp only;omega
     ·exact ⟨Int.le_refl _,Iff.rfl⟩
    have hl1:=sx.1
    have hl2:=sx.2.1
    have hl3:=sx.2.2
    have hl4:=hl.2.2
    clear hl sx hx
    generalize zcA p s=X at *
    generalize zdD p s m=A at c9 d1
    generalize zfN p s n=B at d2 d3
    refine zae (F:=cd63) (hH.has _ _ rfl) (Nat.le_of_ble_eq_true rfl) fun w0 M Q hM hQ hR=>?_;have hE:=hH.callable;dsimp only[cd63,qm,ql,qf,qi,qb,qc,qp,qv,qN,qT,qF,qt]at hQ ⊢
    repeat' (first|refine zab [0,1,2,3,4,5,8,9,10,11,12,13,14,15,16,17,18,19,20,21,22,23,24,35,44,84,89,98,103,112,117,149] fun K hK=>?_|refine AWp.block ?_|(refine hK.go ?_;clear hK K)|refine Cont.go (by assumption) ?_|(refine cnd2 rfl (fun h=>?_) (fun h=>?_)<;>(try first|exact h.elim|obtain rfl:(_:Bool)=true:=h|obtain rfl:(_:Bool)=false:=h)<;>first|(exfalso;omega)|skip)|((first|refine AWp.reg hE hM ?_|refine AWp.regd hE hM ?_|refine AWp.ret ?_|refine AWp.skip ?_|refine AWp.exit ?_|(refine pk2 (fun h=>?_) (fun h=>?_)<;>(try first|exact h.elim|obtain rfl:(_:Bool)=true:=h|obtain rfl:(_:Bool)=false:=h))|refine zac (fun h=>?_) ?_|refine zaa hM (c0) ?_|refine zaa hM (c1) ?_|refine zaa hM (c2) ?_|refine zaa hM (c3) ?_|refine zaa hM (c4) ?_|refine zaa hM (c5) ?_|refine zaa hM (c6) ?_|refine zaa hM (c7) ?_|refine zaa hM (c8) ?_|(refine hQ _ _ _ rfl ?_;clear hQ hR hE hM)|(refine hR _ _ (hQ _ _ _ rfl ?_);clear hQ hR hE hM)|(refine zaf ?_ ?_;focus first|omega|(refine zad ?_;(refine no_implicit_lambda% (st ?_);try with_reducible exact True.intro);done)))<;>try (refine no_implicit_lambda% (st ?_);try with_reducible exact True.intro)))
    all_goals first|(exfalso;contradiction)|skip
    refine zaj (ι:=Nat) [2,3,4,5,8,9,10,14] (fun zz=>[(14,.n zz)]) (fun zz=>[]) (fun zz=>zz≤X.tracks.length) (fun zz=>X.tracks.length-zz) (0) (Nat.zero_le _) (by (try dsimp only);(refine no_implicit_lambda% (st ?_);try with_reducible exact True.intro)<;>first|omega|(simp;done)) (by (try dsimp only);(refine no_implicit_lambda% (st ?_);try with_reducible exact True.intro)<;>first|omega|(simp;done)) ?_;rintro k hk;(try dsimp only at hk ⊢);rcases Nat.lt_or_ge k X.tracks.length with hlt|hge
    ·have h2:=hT k hlt
     repeat' (first|refine zab [0,1,2,3,4,5,8,9,10,11,12,13,14,15,16,17,18,19,20,21,22,23,24,35,44,84,89,98,103,112,117,149] fun K hK=>?_|refine AWp.block ?_|(refine hK.go ?_;clear hK K)|refine Cont.go (by assumption) ?_|(refine cnd2 rfl (fun h=>?_) (fun h=>?_)<;>(try first|exact h.elim|obtain rfl:(_:Bool)=true:=h|obtain rfl:(_:Bool)=false:=h)<;>first|(exfalso;omega)|skip)|((first|refine AWp.reg hE hM ?_|refine AWp.regd hE hM ?_|refine AWp.ret ?_|refine AWp.skip ?_|refine AWp.exit ?_|(refine pk2 (fun h=>?_) (fun h=>?_)<;>(try first|exact h.elim|obtain rfl:(_:Bool)=true:=h|obtain rfl:(_:Bool)=false:=h))|refine zac (fun h=>?_) ?_|(refine hQ _ _ _ rfl ?_;clear hQ hR hE hM)|(refine hR _ _ (hQ _ _ _ rfl ?_);clear hQ hR hE hM)|(refine zaf ?_ ?_;focus first|omega|(refine zad ?_;(refine no_implicit_lambda% (st ?_);try with_reducible exact True.intro);done)))<;>try simp -dsimp -implicitDefEqProofs (disch:=omega) only[go_sem,reduceIte,↓reduceIte,Nat.reduceEqDiff,Nat.reduceLT,Nat.reduceLeDiff,Nat.reduceAdd,Nat.reduceSub,Nat.reduceMul,Int.reduceToNat,Int.reduceLT,Int.reduceLE,Int.reduceEq,Int.reduceNeg,Int.reduceNe,reduceCtorEq,h2]))
     all_goals first|(exfalso;contradiction)|exact ⟨k+1,by omega,by omega,by omega⟩
    ·repeat' (first|refine zab [0,1,2,3,4,5,8,9,10,11,12,13,14,15,16,17,18,19,20,21,22,23,24,35,44,84,89,98,103,112,117,149] fun K hK=>?_|refine AWp.block ?_|(refine hK.go ?_;clear hK K)|refine Cont.go (by assumption) ?_|(refine cnd2 rfl (fun h=>?_) (fun h=>?_)<;>(try first|exact h.elim|obtain rfl:(_:Bool)=true:=h|obtain rfl:(_:Bool)=false:=h)<;>first|(exfalso;omega)|skip)|((first|refine AWp.reg hE hM ?_|refine AWp.regd hE hM ?_|refine AWp.ret ?_|refine AWp.skip ?_|refine AWp.exit ?_|(refine pk2 (fun h=>?_) (fun h=>?_)<;>(try first|exact h.elim|obtain rfl:(_:Bool)=true:=h|obtain rfl:(_:Bool)=false:=h))|refine zac (fun h=>?_) ?_|(refine hQ _ _ _ rfl ?_;clear hQ hR hE hM)|(refine hR _ _ (hQ _ _ _ rfl ?_);clear hQ hR hE hM)|(refine zaf ?_ ?_;focus first|omega|(refine zad ?_;(refine no_implicit_lambda% (st ?_);try with_reducible exact True.intro);done)))<;>try (refine no_implicit_lambda% (st ?_);try with_reducible exact True.intro)))
     refine zaj (ι:=Nat) [2,3,4,5,8,9,10,15] (fun zz=>[(15,.n zz)]) (fun zz=>[]) (fun zz=>zz≤X.switches.length) (fun zz=>X.switches.length-zz) (0) (Nat.zero_le _) (by (try dsimp only);(refine no_implicit_lambda% (st ?_);try with_reducible exact True.intro)<;>first|omega|(simp;done)) (by (try dsimp only);(refine no_implicit_lambda% (st ?_);try with_reducible exact True.intro)<;>first|omega|(simp;done)) ?_;rintro k2 hk;(try dsimp only at hk ⊢);rcases Nat.lt_or_ge k2 X.switches.length with hlt|hge
     ·have h2:=hW k2 (by assumption)
      repeat' (first|refine zab [0,1,2,3,4,5,8,9,10,11,12,13,14,15,16,17,18,19,20,21,22,23,24,35,44,84,89,98,103,112,117,149] fun K hK=>?_|refine AWp.block ?_|(refine hK.go ?_;clear hK K)|refine Cont.go (by assumption) ?_|(refine cnd2 rfl (fun h=>?_) (fun h=>?_)<;>(try first|exact h.elim|obtain rfl:(_:Bool)=true:=h|obtain rfl:(_:Bool)=false:=h)<;>first|(exfalso;omega)|skip)|((first|refine AWp.reg hE hM ?_|refine AWp.regd hE hM ?_|refine AWp.ret ?_|refine AWp.skip ?_|refine AWp.exit ?_|(refine pk2 (fun h=>?_) (fun h=>?_)<;>(try first|exact h.elim|obtain rfl:(_:Bool)=true:=h|obtain rfl:(_:Bool)=false:=h))|refine zac (fun h=>?_) ?_|(refine hQ _ _ _ rfl ?_;clear hQ hR hE hM)|(refine hR _ _ (hQ _ _ _ rfl ?_);clear hQ hR hE hM)|(refine zaf ?_ ?_;focus first|omega|(refine zad ?_;(refine no_implicit_lambda% (st ?_);try with_reducible exact True.intro);done)))<;>try simp -dsimp -implicitDefEqProofs (disch:=omega) only[go_sem,reduceIte,↓reduceIte,Nat.reduceEqDiff,Nat.reduceLT,Nat.reduceLeDiff,Nat.reduceAdd,Nat.reduceSub,Nat.reduceMul,Int.reduceToNat,Int.reduceLT,Int.reduceLE,Int.reduceEq,Int.reduceNeg,Int.reduceNe,reduceCtorEq,h2]))
      all_goals first|(exfalso;contradiction)|exact ⟨k2+1,by omega,by omega,by omega⟩
     ·repeat' (first|refine zab [0,1,2,3,4,5,8,9,10,11,12,13,14,15,16,17,18,19,20,21,22,23,24,35,44,84,89,98,103,112,117,149] fun K hK=>?_|refine AWp.block ?_|(refine hK.go ?_;clear hK K)|refine Cont.go (by assumption) ?_|(refine cnd2 rfl (fun h=>?_) (fun h=>?_)<;>(try first|exact h.elim|obtain rfl:(_:Bool)=true:=h|obtain rfl:(_:Bool)=false:=h)<;>first|(exfalso;omega)|skip)|((first|refine AWp.reg hE hM ?_|refine AWp.regd hE hM ?_|refine AWp.ret ?_|refine AWp.skip ?_|refine AWp.exit ?_|(refine pk2 (fun h=>?_) (fun h=>?_)<;>(try first|exact h.elim|obtain rfl:(_:Bool)=true:=h|obtain rfl:(_:Bool)=false:=h))|refine zac (fun h=>?_) ?_|(refine hQ _ _ _ rfl ?_;clear hQ hR hE hM)|(refine hR _ _ (hQ _ _ _ rfl ?_);clear hQ hR hE hM)|(refine zaf ?_ ?_;focus first|omega|(refine zad ?_;(refine no_implicit_lambda% (st ?_);try with_reducible exact True.intro);done)))<;>try (refine no_implicit_lambda% (st ?_);try with_reducible exact True.intro)))
      refine zaj (ι:=Nat) [2,3,4,5,8,9,10,16] (fun zz=>[(16,.n zz)]) (fun zz=>[]) (fun zz=>zz≤X.locks.length) (fun zz=>X.locks.length-zz) (0) (Nat.zero_le _) (by (try dsimp only);(refine no_implicit_lambda% (st ?_);try with_reducible exact True.intro)<;>first|omega|(simp;done)) (by (try dsimp only);(refine no_implicit_lambda% (st ?_);try with_reducible exact True.intro)<;>first|omega|(simp;done)) ?_;rintro k3 hk;(try dsimp only at hk ⊢);rcases Nat.lt_or_ge k3 X.locks.length with hlt|hge
      ·have h2:=hL k3 (by assumption)
       have h3:decide ((nth X.locks k3).left<(nth s.locks k3).left)=false:=decide_eq_false (by omega)
       have h4:decide (0<(nth X.locks k3).left)=decide (0<(nth s.locks k3).left):=decide_eq_decide.2 h2.2
       repeat' (first|refine zab [0,1,2,3,4,5,8,9,10,11,12,13,14,15,16,17,18,19,20,21,22,23,24,35,44,84,89,98,103,112,117,149] fun K hK=>?_|refine AWp.block ?_|(refine hK.go ?_;clear hK K)|refine Cont.go (by assumption) ?_|(refine cnd2 rfl (fun h=>?_) (fun h=>?_)<;>(try first|exact h.elim|obtain rfl:(_:Bool)=true:=h|obtain rfl:(_:Bool)=false:=h)<;>first|(exfalso;omega)|skip)|((first|refine AWp.reg hE hM ?_|refine AWp.regd hE hM ?_|refine AWp.ret ?_|refine AWp.skip ?_|refine AWp.exit ?_|(refine pk2 (fun h=>?_) (fun h=>?_)<;>(try first|exact h.elim|obtain rfl:(_:Bool)=true:=h|obtain rfl:(_:Bool)=false:=h))|refine zac (fun h=>?_) ?_|(refine hQ _ _ _ rfl ?_;clear hQ hR hE hM)|(refine hR _ _ (hQ _ _ _ rfl ?_);clear hQ hR hE hM)|(refine zaf ?_ ?_;focus first|omega|(refine zad ?_;(refine no_implicit_lambda% (st ?_);try with_reducible exact True.intro);done)))<;>try simp -dsimp -implicitDefEqProofs (disch:=omega) only[go_sem,reduceIte,↓reduceIte,Nat.reduceEqDiff,Nat.reduceLT,Nat.reduceLeDiff,Nat.reduceAdd,Nat.reduceSub,Nat.reduceMul,Int.reduceToNat,Int.reduceLT,Int.reduceLE,Int.reduceEq,Int.reduceNeg,Int.reduceNe,reduceCtorEq,h3,h4,decide_true]))
       all_goals first|(exfalso;contradiction)|exact ⟨k3+1,by omega,by omega,by omega⟩
      ·repeat' (first|refine zab [0,1,2,3,4,5,8,9,10,11,12,13,14,15,16,17,18,19,20,21,22,23,24,35,44,84,89,98,103,112,117,149] fun K hK=>?_|refine AWp.block ?_|(refine hK.go ?_;clear hK K)|refine Cont.go (by assumption) ?_|(refine cnd2 rfl (fun h=>?_) (fun h=>?_)<;>(try first|exact h.elim|obtain rfl:(_:Bool)=true:=h|obtain rfl:(_:Bool)=false:=h)<;>first|(exfalso;omega)|skip)|((first|refine AWp.reg hE hM ?_|refine AWp.regd hE hM ?_|refine AWp.ret ?_|refine AWp.skip ?_|refine AWp.exit ?_|(refine pk2 (fun h=>?_) (fun h=>?_)<;>(try first|exact h.elim|obtain rfl:(_:Bool)=true:=h|obtain rfl:(_:Bool)=false:=h))|refine zac (fun h=>?_) ?_|refine zaa hM (c9) ?_|refine zaa hM (d1) ?_|refine zaa hM (d2) ?_|refine zaa hM (d3) ?_|(refine hQ _ _ _ rfl ?_;clear hQ hR hE hM)|(refine hR _ _ (hQ _ _ _ rfl ?_);clear hQ hR hE hM)|(refine zaf ?_ ?_;focus first|omega|(refine zad ?_;(refine no_implicit_lambda% (st ?_);try with_reducible exact True.intro);done)))<;>try (refine no_implicit_lambda% (st ?_);try with_reducible exact True.intro)))
       all_goals first|rfl|(exfalso;contradiction)|skip
   ·rw[show zeU p s=State.z by unfold zeU;rw[if_neg hst]]at c3
    generalize zak p s=e at c3 c4 hst
    refine zae (F:=cd63) (hH.has _ _ rfl) (Nat.le_of_ble_eq_true rfl) fun w0 M Q hM hQ hR=>?_;have hE:=hH.callable;dsimp only[cd63,qm,ql,qf,qi,qb,qc,qp,qv,qN,qT,qF,qt]at hQ ⊢
    repeat' (first|refine zab [0,1,2,3,4,5,8,9,10,11,12,13,14,15,16,17,18,19,20,21,22,23,24,35,44,84,89,98,103,112,117,149] fun K hK=>?_|refine AWp.block ?_|(refine hK.go ?_;clear hK K)|refine Cont.go (by assumption) ?_|(refine cnd2 rfl (fun h=>?_) (fun h=>?_)<;>(try first|exact h.elim|obtain rfl:(_:Bool)=true:=h|obtain rfl:(_:Bool)=false:=h)<;>first|(exfalso;omega)|skip)|((first|refine AWp.reg hE hM ?_|refine AWp.regd hE hM ?_|refine AWp.ret ?_|refine AWp.skip ?_|refine AWp.exit ?_|(refine pk2 (fun h=>?_) (fun h=>?_)<;>(try first|exact h.elim|obtain rfl:(_:Bool)=true:=h|obtain rfl:(_:Bool)=false:=h))|refine zac (fun h=>?_) ?_|refine zaa hM (c0) ?_|refine zaa hM (c1) ?_|refine zaa hM (c2) ?_|refine zaa hM (c3) ?_|refine zaa hM (c4) ?_|(refine hQ _ _ _ rfl ?_;clear hQ hR hE hM)|(refine hR _ _ (hQ _ _ _ rfl ?_);clear hQ hR hE hM)|(refine zaf ?_ ?_;focus first|omega|(refine zad ?_;(refine no_implicit_lambda% (st ?_);try with_reducible exact True.intro);done)))<;>try (refine no_implicit_lambda% (st ?_);try with_reducible exact True.intro)))
    all_goals first|rfl|(exfalso;contradiction)|skip
end Go.Lev
namespace Go.Lev
open Go.Eng
theorem ofW_at {p:Pln} {s:State} (h:zak p s=0) {i:Nat} (hi:i<s.locks.length):ofW p (nth s.locks i).id=((zaF p (nth p.routes i)).1,0):=by
 obtain ⟨h1,h2,_⟩:=zar h
 obtain ⟨hok,hw,_⟩:=zcX h1
 have hl:=zaR h2
 have hr:nth p.routes i∈p.routes:=zat (by omega)
 have hl2:=znp h2 hi
 simp only[zem,Bool.and_eq_true,decide_eq_true_eq]at hl2
 have hp:zci p=true:=by simp only[zbt,Bool.and_eq_true]at h1;exact h1.1
 unfold ofW
 rw[if_pos hp,hl2.1,zn0 Rte.id (zi8 hok) hr]
 dsimp only
 rw[hw _ hr]
theorem lck_inj {p:Pln} {s:State} (h:zak p s=0) {i j:Nat} (hi:i<s.locks.length) (hj:j<s.locks.length) (e:(nth s.locks i).id=(nth s.locks j).id):i=j:=by
 obtain ⟨h1,h2,_⟩:=zar h
 have hn:(s.locks.map Lock.id).Nodup:=by rw[lck_ids h2];exact zi8 (zcX h1).1
 have:=(List.nodup_iff_pairwise_ne.1 hn)
 rcases Nat.lt_trichotomy i j with hlt|he|hlt
 ·have:=List.pairwise_iff_getElem.1 this i j (by simpa using hi) (by simpa using hj) hlt
  simp only[List.getElem_map]at this
  rw[←za3 hi,←za3 hj]at this
  exact absurd e this
 ·exact he
 ·have:=List.pairwise_iff_getElem.1 this j i (by simpa using hj) (by simpa using hi) hlt
  simp only[List.getElem_map]at this
  rw[←za3 hi,←za3 hj]at this
  exact absurd e.symm this
theorem lck_pos {p:Pln} {s:State} (h:zak p s=0) {i:Nat} (hi:i<s.locks.length):1≤(nth s.locks i).id∧(nth s.locks i).id≤99:=by
 obtain ⟨h1,h2,_⟩:=zar h
 have hl:=zaR h2
 have hl2:=znp h2 hi
 simp only[zem,Bool.and_eq_true,decide_eq_true_eq]at hl2
 rw[hl2.1]
 exact zi7 (zcX h1).1 (zat (by omega))
def hdAt (p:Pln) (s:State) (i:Nat):List Int:=zbD (zaF p (nth p.routes i)).1 (nth s.locks i)
def asAt (p:Pln) (s:State) (i:Nat):List AskR:=(zbW (zaF p (nth p.routes i)).1 (nth s.locks i)).filter (zcQ (nth s.locks i))
theorem ziP {p:Pln} {s:State} (h:zak p s=0) {z:WL} (hz:z∈zof p s):∃ i,i<s.locks.length∧z=((zaF p (nth p.routes i)).1,nth s.locks i):=by
 have h2:=(zar h).2.1
 have hl:=zaR h2
 obtain ⟨i,r,hr,hi,e1,e2,_,e3,_⟩:=zf5 h2 hz
 refine ⟨i,by omega, ?_⟩
 rw[e1,e2,←e3]
theorem zgF {p:Pln} {s:State} (h:zak p s=0) {i:Nat} (hi:i<s.locks.length):((zaF p (nth p.routes i)).1,nth s.locks i)∈zof p s:=by
 have h2:=(zar h).2.1
 have hl:=zaR h2
 exact zof_at h2 (by omega)
theorem hold_iff {p:Pln} {s:State} (h:zak p s=0) {i:Nat} (hi:i<s.locks.length) {n:Int} (hn:0≤n):nth (za0 p s).1 n.toNat=(nth s.locks i).id↔n∈hdAt p s i:=by
 constructor
 ·intro e
  rcases zl1 h hn with ⟨z,hz,hm,e2⟩|⟨_,e2⟩
  ·obtain ⟨j,hj,rfl⟩:=ziP h hz
   rw[e2]at e
   obtain rfl:=lck_inj h hj hi e
   exact hm
  ·have:=lck_pos h hi
   omega
 ·intro hm
  exact znM h (zgF h hi) hm
theorem ask_who {p:Pln} {s:State} (h:zak p s=0) {n:Int} (hn:0≤n):(∃ i,i<s.locks.length∧∃ a∈asAt p s i,a.pnt=n∧nth (za0 p s).2.1 n.toNat=a.lie∧zlp s n=a.lie)∨((∀ i,i<s.locks.length→∀ a∈asAt p s i,a.pnt≠n)∧nth (za0 p s).2.1 n.toNat=0):=by
 rcases zon h hn with ⟨z,hz,a,ha,e1,e2,e3⟩|⟨h1,e2⟩
 ·obtain ⟨j,hj,rfl⟩:=ziP h hz
  exact .inl ⟨j,hj,a,ha,e1,e2,e3⟩
 ·exact .inr ⟨fun i hi=>h1 _ (zgF h hi),e2⟩
theorem ask_is {p:Pln} {s:State} (h:zak p s=0) {i:Nat} (hi:i<s.locks.length) {a:AskR} (ha:a∈asAt p s i):nth (za0 p s).2.1 a.pnt.toNat=a.lie:=ask_at h (zgF h hi) ha
def zgH (g n:Int):Nat→List Int→Bool
 |_,[]=>false
 |k,x::r=>(decide (x=n)&&decide (g≤k))||zgH g n (k+1) r
theorem zjn (g n:Int):∀ (l:List Int) (k:Nat),zgH g n k l=true↔n∈l.drop (g.toNat-k)
 |[],k=>by simp[zgH]
 |x::r,k=>by
  rw[zgH,Bool.or_eq_true,Bool.and_eq_true,decide_eq_true_eq,decide_eq_true_eq,zjn g n r (k+1)]
  rcases Nat.lt_or_ge k g.toNat with h|h
  ·rw[show g.toNat-k=(g.toNat-(k+1))+1 by omega,List.drop_succ_cons]
   constructor
   ·rintro (⟨_,h2⟩|h2)
    ·omega
    ·exact h2
   ·exact fun h2=>.inr h2
  ·rw[show g.toNat-k=0 by omega,show g.toNat-(k+1)=0 by omega,List.drop_zero,List.drop_zero,List.mem_cons]
   constructor
   ·rintro (⟨h2,_⟩|h2)
    ·exact .inl h2.symm
    ·exact .inr h2
   ·rintro (h2|h2)
    ·exact .inl ⟨h2.symm,by omega⟩
    ·exact .inr h2
theorem hdAt_iff {p:Pln} {s:State} {i:Nat} (n:Int):n∈hdAt p s i↔((zgH (nth s.locks i).gone n 0 (zaF p (nth p.routes i)).1.path||(zaF p (nth p.routes i)).1.over.any fun x=>decide (x=n))&&!decide ((nth s.locks i).phase=0))=true:=by
 unfold hdAt zbD
 rw[Bool.and_eq_true,Bool.or_eq_true,zjn,Nat.sub_zero]
 split
 ·rename_i h;simp[h]
 ·rename_i h;simp[h]
end Go.Lev
namespace Go.Eng
open Go.RowKit
section
variable {P:Program} {inv:Nat→Option Nat} {w0:World} {M:Nat→Prop} {n N:Nat} {φ:AF} {σ:AS}
theorem zlt (ks:List Nat) (m:List (Nat×AV)) (A:Prop) {x y:ACode} {Q:Exit→AF→AS→Prop} (h1:AWp P inv w0 M N n x (Then (midK A (zjt m (zfq ks φ)) σ) Q) φ σ) (h2:A→AWp P inv w0 M N n y Q (zjt m (zfq ks φ)) σ):AWp P inv w0 M N n (.seq x y) Q φ σ :=
 AWp.seq fun K hK=>by
  refine AWp.mono ?_ h1
  intro e φ' σ' q
  cases e with
  |normal=>exact hK _ _ ((h2 q.1).sub q.2.1 q.2.2)
  |exit id=>exact q
  |goto l=>exact q
  |ret=>exact q
  |panic ch=>exact q
  |outgrown=>exact q
end
end Go.Eng
namespace Go.Eng
open Go.RowKit
theorem pk3 {t:Bool} {X Y A B:Prop} (x:t=true→A→X) (y:t=false→B→Y) (h:Rw (t=true) A:=by first|(simp only[decide_eq_true_eq,decide_eq_false_iff_not,Bool.not_eq_true',Bool.not_eq_false',Bool.and_eq_true,Bool.or_eq_true,Bool.and_eq_false_imp,Bool.or_eq_false_iff,Bool.true_eq_false,Bool.false_eq_true,reduceCtorEq,if_true,if_false];exact zby _)|exact zby _) (h':Rw (t=false) B:=by first|(simp only[decide_eq_true_eq,decide_eq_false_iff_not,Bool.not_eq_true',Bool.not_eq_false',Bool.and_eq_true,Bool.or_eq_true,Bool.and_eq_false_imp,Bool.or_eq_false_iff,Bool.true_eq_false,Bool.false_eq_true,reduceCtorEq,if_true,if_false];exact zby _)|exact zby _):zei t X Y:=⟨fun e=>x e (Eq.mp h e),fun e=>y e (Eq.mp h' e)⟩
theorem zhQ {P:Program} {inv:Nat→Option Nat} {w0:World} {M:Nat→Prop} {n N:Nat} {φ:AF} {σ:AS} {c:Opd} {u v:ACode} {Q:Exit→AF→AS→Prop} {t:Bool} {A B:Prop} (ht:ev φ c=.b t) (x:t=true→A→AWp P inv w0 M N n u Q φ σ) (y:t=false→B→AWp P inv w0 M N n v Q φ σ) (h:Rw (t=true) A:=by first|(simp only[decide_eq_true_eq,decide_eq_false_iff_not,Bool.not_eq_true',Bool.not_eq_false',Bool.and_eq_true,Bool.or_eq_true,Bool.and_eq_false_imp,Bool.or_eq_false_iff,Bool.true_eq_false,Bool.false_eq_true,reduceCtorEq,if_true,if_false];exact zby _)|exact zby _) (h':Rw (t=false) B:=by first|(simp only[decide_eq_true_eq,decide_eq_false_iff_not,Bool.not_eq_true',Bool.not_eq_false',Bool.and_eq_true,Bool.or_eq_true,Bool.and_eq_false_imp,Bool.or_eq_false_iff,Bool.true_eq_false,Bool.false_eq_true,reduceCtorEq,if_true,if_false];exact zby _)|exact zby _):AWp P inv w0 M N n (.cond c u v) Q φ σ:=AWp.cond ht (fun e=>x e (Eq.mp h e)) (fun e=>y e (Eq.mp h' e))
def zco {S R:Type} (body:Nat→S→(S→R)→R) (fin:S→R):Nat→Nat→S→R
 |0,_,s=>fin s
 |m+1,k,s=>body k s fun s'=>zco body fin m (k+1) s'
section
variable {S R:Type} {body:Nat→S→(S→R)→R} {fin:S→R} {n k:Nat} {s:S}
theorem zlT (h:k<n):zco body fin (n-k) k s=body k s fun s'=>zco body fin (n-(k+1)) (k+1) s':=by
 obtain ⟨m,hm⟩:∃ m,n-k=m+1:=⟨n-k-1,by omega⟩
 rw[hm,show n-(k+1)=m by omega]
 rfl
theorem zbH {B:Nat→S→(S→R)→R} (hB:B=body) (h:k<n):zco B fin (n-k) k s=body k s fun s'=>zco B fin (n-(k+1)) (k+1) s':=by rw[zlT h];subst hB;rfl
theorem zcy (h:n≤k):zco body fin (n-k) k s=fin s:=by
 rw[show n-k=0 by omega]
 rfl
theorem zcz {X:R} (hF:zco body fin n 0 s=X) {G:Prop} (h:∀ B F,B=body→F=fin→zco B F (n-0) 0 s=X→G):G:=h _ _ rfl rfl hF
theorem zb6 (good:R→Prop) (Inv:Nat→S→Prop) (h0:Inv 0 s) (hs:∀ k s zcH,k<n→Inv k s→(∀ s',Inv (k+1) s'→good (zcH s'))→good (body k s zcH)) (hf:∀ s,Inv n s→good (fin s)):good (zco body fin n 0 s):=by
 have key:∀ m k s,k+m=n→Inv k s→good (zco body fin m k s):=by
  intro m
  induction m with
  |zero=>intro k s hk hi;exact hf s (by rw[show n=k by omega];exact hi)
  |succ m ih=>intro k s hk hi;exact hs k s _ (by omega) hi fun s' h'=>ih (k+1) s' (by omega) h'
 exact key n 0 s (by omega) h0
end
mutual
def okS (g:Nat→Bool):AV→Bool
 |.agg cs=>zmo g cs
 |.tup cs=>zmo g cs
 |.fn _ cs=>zmo g cs
 |.ptr l _ _=>g l
 |.sm l _ _ _ _=>g l
 |.i _ _=>true|.b _=>true|.v _=>true|.u=>true|.s0 _=>true|.sl _ _=>true|.ip _ _ _ _=>true|.mp _=>true|.top=>true
def zmo (g:Nat→Bool):List AV→Bool
 |[]=>true
 |x::xs=>okS g x&&zmo g xs
end
def okF:Nat→AS→Nat→Bool
 |0,_,_=>false
 |k+1,σ,l=>match zaD σ l with
  |some (.cells cs _)=>zmo (okF k σ) cs
  |_=>false
section
variable {f f':Nat→Option (List AV)} {g:Nat→Bool} (h:∀ l,g l=true→f' l=f l)
include h
mutual
theorem zmH:∀ x:AV,okS g x=true→zaQ f' x=zaQ f x
 |.agg cs,e=>by simp only[okS]at e;simp only[zaQ,zex cs e]
 |.tup cs,e=>by simp only[okS]at e;simp only[zaQ,zex cs e]
 |.fn j cs,e=>by simp only[okS]at e;simp only[zaQ,zex cs e]
 |.ptr l ver off,e=>by simp only[okS]at e;simp only[zaQ,h l e]
 |.sm l ver off n sz,e=>by simp only[okS]at e;simp only[zaQ,h l e]
 |.i _ _,_=>by simp only[zaQ]
 |.b _,_=>by simp only[zaQ]
 |.v _,_=>by simp only[zaQ]
 |.u,_=>by simp only[zaQ]
 |.s0 _,_=>by simp only[zaQ]
 |.sl _ _,_=>by simp only[zaQ]
 |.ip _ _ _ _,_=>by simp only[zaQ]
 |.mp _,_=>by simp only[zaQ]
 |.top,_=>by simp only[zaQ]
theorem zex:∀ xs:List AV,zmo g xs=true→zbN f' xs=zbN f xs
 |[],_=>by simp only[zbN]
 |x::xs,e=>by
  simp only[zmo,Bool.and_eq_true]at e
  simp only[zbN,zmH x e.1,zex xs e.2]
end
end
def oks (k:Nat) (σ:List (Nat×AO)) (xs:List AV):Bool:=zmo (okF k σ) xs
def ok1 (k:Nat) (σ:List (Nat×AO)) (x:AV):Bool:=okS (okF k σ) x
def okR (o:Option AO) (l:Nat) (K:List AV→Bool) (_:l=l):Bool:=match o with|some (.cells cs _)=>K cs|_=>false
theorem okR_c (cs:List AV) (r:Bool) (l:Nat) (K:List AV→Bool) (h:l=l):okR (some (.cells cs r)) l K h=K cs:=rfl
section
variable (k:Nat) (σ:List (Nat×AO))
theorem ok_i (q:IntKind) (n:Int):ok1 k σ (.i q n)=true:=by simp only[ok1,okS]
theorem ok_b (t:Bool):ok1 k σ (.b t)=true:=by simp only[ok1,okS]
theorem ok_v (x:Value):ok1 k σ (.v x)=true:=by simp only[ok1,okS]
theorem ok_u:ok1 k σ .u=true:=by simp only[ok1,okS]
theorem ok_s0 (sz:Nat):ok1 k σ (.s0 sz)=true:=by simp only[ok1,okS]
theorem ok_sl (sz:Nat) (es:List (List AV)):ok1 k σ (.sl sz es)=true:=by simp only[ok1,okS]
theorem ok_ip (sz:Nat) (es:List (List AV)) (i j:Nat):ok1 k σ (.ip sz es i j)=true:=by simp only[ok1,okS]
theorem ok_agg (cs:List AV):ok1 k σ (.agg cs)=oks k σ cs:=by simp only[ok1,okS,oks]
theorem ok_tup (cs:List AV):ok1 k σ (.tup cs)=oks k σ cs:=by simp only[ok1,okS,oks]
theorem ok_fn (j:Nat) (cs:List AV):ok1 k σ (.fn j cs)=oks k σ cs:=by simp only[ok1,okS,oks]
theorem ok_nil:oks k σ []=true:=by simp only[oks,zmo]
theorem ok_cons (x:AV) (xs:List AV):oks k σ (x::xs)=(ok1 k σ x&&oks k σ xs):=by simp only[ok1,zmo,oks]
theorem ok_ptr (l ver off:Nat):ok1 (k+1) σ (.ptr l ver off)=okR (zaD σ l) l (fun cs=>oks k σ cs) rfl:=by
 simp only[ok1,okS,okF,okR,oks]
theorem ok_sm (l ver off n sz:Nat):ok1 (k+1) σ (.sm l ver off n sz)=okR (zaD σ l) l (fun cs=>oks k σ cs) rfl:=by
 simp only[ok1,okS,okF,okR,oks]
end
mutual
theorem plain_ok (g:Nat→Bool):∀ x:AV,x.plain=true→okS g x=true
 |.agg cs,h=>by simp only[AV.plain]at h;simp only[okS];exact zdy g cs h
 |.i _ _,_=>rfl|.b _,_=>rfl|.v _,_=>rfl|.sl _ _,_=>rfl|.ip _ _ _ _,_=>rfl
 |.tup _,h=>by simp[AV.plain]at h
 |.u,h=>by simp[AV.plain]at h
 |.s0 _,h=>by simp[AV.plain]at h
 |.ptr _ _ _,h=>by simp[AV.plain]at h
 |.sm _ _ _ _ _,h=>by simp[AV.plain]at h
 |.fn _ _,h=>by simp[AV.plain]at h
 |.mp _,h=>by simp[AV.plain]at h
 |.top,h=>by simp[AV.plain]at h
theorem zdy (g:Nat→Bool):∀ xs:List AV,zaA xs=true→zmo g xs=true
 |[],_=>rfl
 |x::xs,h=>by
  simp only[zaA,Bool.and_eq_true]at h
  simp only[zmo,plain_ok g x h.1,zdy g xs h.2,Bool.and_self]
end
theorem ok_flat {α:Type} {c:α→List AV} {sz:Nat} [h:Cells c sz] (k:Nat) (σ:AS) (l:List α):oks k σ (l.map c).flatten=true:=zdy _ _ (zb7 l)
theorem ok_bmap (k:Nat) (σ:AS) (l:List Bool):oks k σ (l.map AV.b)=true:=zdy _ _ (zd1 l)
theorem ok_imap (k:Nat) (σ:AS) (q:IntKind) (l:List Int):oks k σ (l.map (AV.i q))=true:=zdy _ _ (zct q l)
attribute [go_sem] okR_c ok_i ok_b ok_v ok_u ok_s0 ok_sl ok_ip ok_agg ok_tup ok_fn ok_nil ok_cons ok_ptr ok_sm ok_flat ok_bmap ok_imap
section
variable {P:Program} {inv:Nat→Option Nat} {w0:World} {M:Nat→Prop} {σ:AS}
end
section
variable {P:Program} {inv:Nat→Option Nat} {w0:World} {M:Nat→Prop} {n N:Nat} {φ:AF} {σ:AS}
variable {l:Nat} {J:AF→AS→Prop} {Q:Exit→AF→AS→Prop}
theorem jt_ret:zhY l J Q .ret φ σ=Q .ret φ σ:=rfl
theorem zns:zhY l J Q .normal φ σ=Q .normal φ σ:=rfl
theorem jt_exit (i:Nat):zhY l J Q (.exit i) φ σ=Q (.exit i) φ σ:=rfl
theorem jt_goto (l':Nat):zhY l J Q (.goto l') φ σ=(l'=l∧J φ σ):=rfl
attribute [go_sem] jt_ret zns jt_exit jt_goto
end
section
variable {P:Program} {inv:Nat→Option Nat} {w0:World} {M:Nat→Prop} {n N:Nat} {φ:AF} {σ:AS}
end
end Go.Eng
