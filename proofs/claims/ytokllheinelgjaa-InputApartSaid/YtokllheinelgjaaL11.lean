/-
  A part of the engine that walks the functions' codes, and of the functions' contracts. Conditions: those that each theorem names.
-/
import Derived.Test.YtokllheinelgjaaL10
import Derived.IntWalk
set_option linter.unusedSimpArgs false
set_option linter.unusedVariables false
set_option linter.unusedSectionVars false

namespace Go.Lev
open Go.Eng
set_option maxRecDepth 10000
set_option maxHeartbeats 4000000
variable {P:Program} {inv:Nat→Option Nat} {w0:World} {M:Nat→Prop}
theorem znu (s:State) (n v m:Int):zgQ (zdw s n v) m↔zgQ s m:=by
 have h:(zdw s n v).tracks.map Track.id=s.tracks.map Track.id:=upd1_id Track.id n (fun t=>⟨t.id,v⟩) (fun _=>rfl) s.tracks
 constructor
 ·rintro ⟨t,ht,e⟩
  have:m∈s.tracks.map Track.id:=by rw[←h,←e];exact List.mem_map_of_mem ht
  obtain ⟨t',h1,h2⟩:=List.mem_map.1 this
  exact ⟨t',h1,h2⟩
 ·rintro ⟨t,ht,e⟩
  have:m∈(zdw s n v).tracks.map Track.id:=by rw[h,←e];exact List.mem_map_of_mem ht
  obtain ⟨t',h1,h2⟩:=List.mem_map.1 this
  exact ⟨t',h1,h2⟩
theorem zcv {p:Pln} {s:State} {n v m w:Int} (h:zaM p s n v=0) (h2:zaM p s m w=0) (hst:zak p s=0):zaM p (zdw s n v) m w=0:=by
 have k1:=(zbf hst).1 h
 have k2:=(zbf hst).1 h2
 exact (zbf (zdv hst (by omega))).2 ⟨(znu _ _ _ _).2 k2.1,k2.2⟩
theorem zfz {p:Pln} {s:State} {n v m w:Int} (hv:0≤v∧v≤2) (h2:zaM p s m w=0) (hst:zak p s=0):zaM p (zjY s n v) m w=0 :=
 (zbf (zgh hst hv)).2 ((zbf hst).1 h2)
theorem zlI {p:Pln} {s:State} {n v:Int} (h:zaM p s n v=0):zak p s=0:=by
 unfold zaM at h
 split at h
 ·assumption
 ·rename_i h1;exact absurd h h1
theorem zef {s:State} (h:SmS s) (n v:Int):SmS (zdw s n v):=⟨by unfold zdw;dsimp only;rw[zcb];exact h.1,h.2⟩
theorem zmO {s:State} (h:SmS s) (n v:Int):SmS (zjY s n v):=⟨h.1,by unfold zjY;dsimp only;rw[zcb];exact h.2.1,h.2.2⟩
theorem sSame_sm (hH:HasAll P inv) {a b:State} (h:SmS a):PC P inv 11 [.agg a.c,.agg b.c] (·=.b (decide (a=b))):=zdO hH a b (by have:=h.1;omega) (by have:=h.2.1;omega) (by have:=h.2.2;omega)
theorem sKept_sm (hH:HasAll P inv) {a b:State} (h:SmS a):PC P inv 12 [.agg a.c,.agg b.c] (·=.b (zeR a b)):=zeF hH a b (by have:=h.2.1;omega) (by have:=h.2.2;omega)
theorem zc8 (hH:HasAll P inv) {a b:State} (h:SmS a) (e:a=b):PC P inv 11 [.agg a.c,.agg b.c] (·=.b true):=by
 have:=sSame_sm hH (b:=b) h
 rw[decide_eq_true e]at this
 exact this
theorem zkY (hH:HasAll P inv) {a b:State} (h:SmS a) (e:zeR b a=true):PC P inv 12 [.agg a.c,.agg b.c] (·=.b true):=by
 have:=sKept_sm hH (b:=b) h
 rw[zgP,e]at this
 exact this
theorem zhD (hH:HasAll P inv) (hI:HasIds P inv) {p:Pln} (hp:Sm p) {s:State} (hs:SmS s) (h:zak p s=0):PC P inv 69 [.agg p.c,.agg s.c] (·=.n 0):=by
 have:=zaS hH hI p hp s hs
 rw[h]at this
 exact this
theorem zd7 (hH:HasAll P inv) (hI:HasIds P inv) {p:Pln} (hp:Sm p) {s:State} (hs:SmS s) {n v:Int} (h:zaM p s n v=0) {t:State} (ht:zdw s n v=t):PC P inv 73 [.agg p.c,.agg s.c,.n n,.n v] (·=.tup [.agg t.c,.n 0]):=by
 have:=zi1 hH hI p hp s hs n v
 unfold zjZ at this
 rw[if_pos h,h,ht]at this
 exact this
theorem zn7 (hH:HasAll P inv) (hI:HasIds P inv) {p:Pln} (hp:Sm p) {s:State} (hs:SmS s) {n v:Int} (h:zbE p s n v=0) {t:State} (ht:zjY s n v=t):PC P inv 74 [.agg p.c,.agg s.c,.n n,.n v] (·=.tup [.agg t.c,.n 0]):=by
 have:=zn6 hH hI p hp s hs n v
 unfold detR at this
 rw[if_pos h,h,ht]at this
 exact this
theorem inputLast_pc (hH:HasAll P inv) (hI:HasIds P inv) (p:Pln) (hp:Pln.ok p) (s:State) (a0 a1 b0 b1 q0 q1:Int):PC P inv 64 [.agg p.c,.agg s.c,.agg [.n a0,.n a1],.agg [.n b0,.n b1],.agg [.n q0,.n q1]] (·=.b true):=by
 have c0:=zfx hH hI
 have c1:=zbJ hH p
 have c2:=zcu hH s
 cases g1:zea p with
 |true =>
  rw[g1]at c1
  refine zae (F:=cd64) (hH.has _ _ rfl) (Nat.le_of_ble_eq_true rfl) fun w0 M Q hM hQ hR=>?_;have hE:=hH.callable;dsimp only[cd64,qm,ql,qf,qi,qb,qc,qp,qv,qN,qT,qF,qt]at hQ ⊢
  repeat' (first|refine zab [0,1,2,3,4,5,6,7,8,9,10,11,12,13,14,15,16,17,18,19,20,21,22,23,24,25,26,27,28,29,30,31,42,69,138,168,180,238] fun K hK=>?_|refine AWp.block ?_|(refine hK.go ?_;clear hK K)|refine Cont.go (by assumption) ?_|(refine cnd2 rfl (fun h=>?_) (fun h=>?_)<;>(try first|exact h.elim|obtain rfl:(_:Bool)=true:=h|obtain rfl:(_:Bool)=false:=h)<;>first|(exfalso;omega)|skip)|((first|refine AWp.reg hE hM ?_|refine AWp.regd hE hM ?_|refine AWp.ret ?_|refine AWp.skip ?_|refine AWp.exit ?_|(refine pk2 (fun h=>?_) (fun h=>?_)<;>(try first|exact h.elim|obtain rfl:(_:Bool)=true:=h|obtain rfl:(_:Bool)=false:=h))|refine zac (fun h=>?_) ?_|refine zaa hM (c0) ?_|refine zaa hM (c1) ?_|(refine hQ _ _ _ rfl ?_;clear hQ hR hE hM)|(refine hR _ _ (hQ _ _ _ rfl ?_);clear hQ hR hE hM)|(refine zaf ?_ ?_;focus first|omega|(refine zad ?_;(refine no_implicit_lambda% (st ?_);try with_reducible exact True.intro);done)))<;>try (refine no_implicit_lambda% (st ?_);try with_reducible exact True.intro)))
 |false =>
  rw[g1]at c1
  cases g2:zeo s with
  |true =>
   rw[g2]at c2
   refine zae (F:=cd64) (hH.has _ _ rfl) (Nat.le_of_ble_eq_true rfl) fun w0 M Q hM hQ hR=>?_;have hE:=hH.callable;dsimp only[cd64,qm,ql,qf,qi,qb,qc,qp,qv,qN,qT,qF,qt]at hQ ⊢
   repeat' (first|refine zab [0,1,2,3,4,5,6,7,8,9,10,11,12,13,14,15,16,17,18,19,20,21,22,23,24,25,26,27,28,29,30,31,42,69,138,168,180,238] fun K hK=>?_|refine AWp.block ?_|(refine hK.go ?_;clear hK K)|refine Cont.go (by assumption) ?_|(refine cnd2 rfl (fun h=>?_) (fun h=>?_)<;>(try first|exact h.elim|obtain rfl:(_:Bool)=true:=h|obtain rfl:(_:Bool)=false:=h)<;>first|(exfalso;omega)|skip)|((first|refine AWp.reg hE hM ?_|refine AWp.regd hE hM ?_|refine AWp.ret ?_|refine AWp.skip ?_|refine AWp.exit ?_|(refine pk2 (fun h=>?_) (fun h=>?_)<;>(try first|exact h.elim|obtain rfl:(_:Bool)=true:=h|obtain rfl:(_:Bool)=false:=h))|refine zac (fun h=>?_) ?_|refine zaa hM (c0) ?_|refine zaa hM (c1) ?_|refine zaa hM (c2) ?_|(refine hQ _ _ _ rfl ?_;clear hQ hR hE hM)|(refine hR _ _ (hQ _ _ _ rfl ?_);clear hQ hR hE hM)|(refine zaf ?_ ?_;focus first|omega|(refine zad ?_;(refine no_implicit_lambda% (st ?_);try with_reducible exact True.intro);done)))<;>try (refine no_implicit_lambda% (st ?_);try with_reducible exact True.intro)))
  |false =>
   rw[g2]at c2
   have sp:=zlD hp g1
   have ss:=zgb g2
   have c3:=zi1 hH hI p sp s ss a0 a1
   have c4:=zi1 hH hI p sp s ss b0 b1
   by_cases he1:zaM p s a0 a1=0
   ·by_cases he2:zaM p s b0 b1=0
    ·clear c3 c4
     have hst:=zlI he1
     have hv1:=((zbf hst).1 he1).2
     have hv2:=((zbf hst).1 he2).2
     obtain ⟨A,hA⟩:∃ A,zdw s a0 a1=A:=⟨_,rfl⟩
     obtain ⟨B,hB⟩:∃ B,zdw s b0 b1=B:=⟨_,rfl⟩
     obtain ⟨X,hX⟩:∃ X,zdw A b0 b1=X:=⟨_,rfl⟩
     obtain ⟨Y,hY⟩:∃ Y,zdw B a0 a1=Y:=⟨_,rfl⟩
     have sA:SmS A:=hA▸zef ss _ _
     have sB:SmS B:=hB▸zef ss _ _
     have sX:SmS X:=hX▸zef sA _ _
     have sY:SmS Y:=hY▸zef sB _ _
     have tA:zak p A=0:=hA▸zdv hst (by omega)
     have tB:zak p B=0:=hB▸zdv hst (by omega)
     have tX:zak p X=0:=hX▸zdv tA (by omega)
     have eX:zaM p A b0 b1=0:=hA▸zcv he1 he2 hst
     have eY:zaM p B a0 a1=0:=hB▸zcv he2 he1 hst
     have eZ:zaM p A a0 a1=0:=hA▸zcv he1 he1 hst
     have hZ:zdw A a0 a1=A:=by rw[←hA,zeD]
     have kX:zeR s X=true:=hX▸zhL (hA▸zgg s a0 a1) (zgg A b0 b1)
     have k1:=zd7 hH hI sp ss he1 hA
     have k2:=zd7 hH hI sp ss he2 hB
     have k3:=zd7 hH hI sp sA eX hX
     have k4:=zd7 hH hI sp sB eY hY
     have k5:=zd7 hH hI sp sA eZ hZ
     have k6:=zc8 hH sA (rfl:A=A)
     have k7:=zkY hH sX kX
     have k8:=zhD hH hI sp sX tX
     have hxy:a0≠b0→X=Y:=fun h=>by rw[←hX,←hY,←hA,←hB,zmN s h]
     have hxb:a0=b0→X=B∧Y=A:=fun h=>by
      subst h
      rw[←hX,←hY,←hA,←hB,zeD,zeD]
      exact ⟨rfl,rfl⟩
     have m1:=zdC hH hI p sp s ss a0
     have m2:=zdC hH hI p sp X sX a0
     rw[zgT hst tX kX]at m2
     have d1:=zn6 hH hI p sp X sX q0 q1
     by_cases hd:zbE p X q0 q1=0
     ·clear d1
      have hq:=(zdY tX).1 hd
      have hs2:zbE p s q0 q1=0:=(zdY hst).2 ⟨by
       have:X.switches=s.switches:=by rw[←hX,←hA];rfl
       have h1:=hq.1
       unfold zhp at h1 ⊢
       rw[this]at h1
       exact h1,hq.2⟩
      obtain ⟨U,hU⟩:∃ U,zjY X q0 q1=U:=⟨_,rfl⟩
      obtain ⟨V,hV⟩:∃ V,zjY s q0 q1=V:=⟨_,rfl⟩
      obtain ⟨V2,hV2⟩:∃ V2,zdw V a0 a1=V2:=⟨_,rfl⟩
      have sU:SmS U:=hU▸zmO sX _ _
      have sV:SmS V:=hV▸zmO ss _ _
      have sV2:SmS V2:=hV2▸zef sV _ _
      have tV:zak p V=0:=hV▸zgh hst hq.2
      have tV2:zak p V2=0:=hV2▸zdv tV (by omega)
      have hUV:zdw V2 b0 b1=U:=by rw[←hV2,←hV,←hU,←hX,←hA];rfl
      have eV:zaM p V a0 a1=0:=hV▸zfz hq.2 he1 hst
      have eV0:zaM p V b0 b1=0:=hV▸zfz hq.2 he2 hst
      have eV2:zaM p V2 b0 b1=0:=hV2▸zcv eV eV0 tV
      have kU:zeR s U=true:=zhL kX (hU▸zi0 X q0 q1)
      have tU:zak p U=0:=hU▸zgh tX hq.2
      have d1:=zn7 hH hI sp sX hd hU
      have d2:=zn7 hH hI sp ss hs2 hV
      have d3:=zd7 hH hI sp sV eV hV2
      have d4:=zd7 hH hI sp sV2 eV2 hUV
      have d5:=zc8 hH sU (rfl:U=U)
      have d6:=zkY hH sU kU
      have d7:=zhD hH hI sp sU tU
      by_cases hab:a0=b0
      ·obtain ⟨rfl,rfl⟩:=hxb hab
       subst hab
       have k9:=zc8 hH sX (rfl:X=X)
       clear hA hB hX hY hZ hU hV hV2 hUV
       refine zae (F:=cd64) (hH.has _ _ rfl) (Nat.le_of_ble_eq_true rfl) fun w0 M Q hM hQ hR=>?_;have hE:=hH.callable;dsimp only[cd64,qm,ql,qf,qi,qb,qc,qp,qv,qN,qT,qF,qt]at hQ ⊢
       repeat' (first|refine zab [0,1,2,3,4,5,6,7,8,9,10,11,12,13,14,15,16,17,18,19,20,21,22,23,24,25,26,27,28,29,30,31,42,69,138,168,180,238] fun K hK=>?_|refine AWp.block ?_|(refine hK.go ?_;clear hK K)|refine Cont.go (by assumption) ?_|(refine cnd2 rfl (fun h=>?_) (fun h=>?_)<;>(try first|exact h.elim|obtain rfl:(_:Bool)=true:=h|obtain rfl:(_:Bool)=false:=h)<;>first|(exfalso;omega)|skip)|((first|refine AWp.reg hE hM ?_|refine AWp.regd hE hM ?_|refine AWp.ret ?_|refine AWp.skip ?_|refine AWp.exit ?_|(refine pk2 (fun h=>?_) (fun h=>?_)<;>(try first|exact h.elim|obtain rfl:(_:Bool)=true:=h|obtain rfl:(_:Bool)=false:=h))|refine zac (fun h=>?_) ?_|refine zaa hM (c0) ?_|refine zaa hM (c1) ?_|refine zaa hM (c2) ?_|refine zaa hM (k1) ?_|refine zaa hM (k2) ?_|refine zaa hM (k3) ?_|refine zaa hM (k4) ?_|refine zaa hM (k5) ?_|refine zaa hM (k6) ?_|refine zaa hM (k9) ?_|refine zaa hM (k7) ?_|refine zaa hM (k8) ?_|refine zaa hM (d1) ?_|refine zaa hM (d2) ?_|refine zaa hM (d3) ?_|refine zaa hM (d4) ?_|refine zaa hM (d5) ?_|refine zaa hM (d6) ?_|refine zaa hM (d7) ?_|refine zaa hM (m1) ?_|refine zaa hM (m2) ?_|(refine hQ _ _ _ rfl ?_;clear hQ hR hE hM)|(refine hR _ _ (hQ _ _ _ rfl ?_);clear hQ hR hE hM)|(refine zaf ?_ ?_;focus first|omega|(refine zad ?_;(refine no_implicit_lambda% (st ?_);try with_reducible exact True.intro);done)))<;>try (refine no_implicit_lambda% (st ?_);try with_reducible exact True.intro)))
       all_goals first|rfl|(exfalso;contradiction)|skip
      ·obtain rfl:=hxy hab
       have k9:=zc8 hH sX (rfl:X=X)
       clear hA hB hX hY hZ hU hV hV2 hUV
       refine zae (F:=cd64) (hH.has _ _ rfl) (Nat.le_of_ble_eq_true rfl) fun w0 M Q hM hQ hR=>?_;have hE:=hH.callable;dsimp only[cd64,qm,ql,qf,qi,qb,qc,qp,qv,qN,qT,qF,qt]at hQ ⊢
       repeat' (first|refine zab [0,1,2,3,4,5,6,7,8,9,10,11,12,13,14,15,16,17,18,19,20,21,22,23,24,25,26,27,28,29,30,31,42,69,138,168,180,238] fun K hK=>?_|refine AWp.block ?_|(refine hK.go ?_;clear hK K)|refine Cont.go (by assumption) ?_|(refine cnd2 rfl (fun h=>?_) (fun h=>?_)<;>(try first|exact h.elim|obtain rfl:(_:Bool)=true:=h|obtain rfl:(_:Bool)=false:=h)<;>first|(exfalso;omega)|skip)|((first|refine AWp.reg hE hM ?_|refine AWp.regd hE hM ?_|refine AWp.ret ?_|refine AWp.skip ?_|refine AWp.exit ?_|(refine pk2 (fun h=>?_) (fun h=>?_)<;>(try first|exact h.elim|obtain rfl:(_:Bool)=true:=h|obtain rfl:(_:Bool)=false:=h))|refine zac (fun h=>?_) ?_|refine zaa hM (c0) ?_|refine zaa hM (c1) ?_|refine zaa hM (c2) ?_|refine zaa hM (k1) ?_|refine zaa hM (k2) ?_|refine zaa hM (k3) ?_|refine zaa hM (k4) ?_|refine zaa hM (k5) ?_|refine zaa hM (k6) ?_|refine zaa hM (k9) ?_|refine zaa hM (k7) ?_|refine zaa hM (k8) ?_|refine zaa hM (d1) ?_|refine zaa hM (d2) ?_|refine zaa hM (d3) ?_|refine zaa hM (d4) ?_|refine zaa hM (d5) ?_|refine zaa hM (d6) ?_|refine zaa hM (d7) ?_|refine zaa hM (m1) ?_|refine zaa hM (m2) ?_|(refine hQ _ _ _ rfl ?_;clear hQ hR hE hM)|(refine hR _ _ (hQ _ _ _ rfl ?_);clear hQ hR hE hM)|(refine zaf ?_ ?_;focus first|omega|(refine zad ?_;(refine no_implicit_lambda% (st ?_);try with_reducible exact True.intro);done)))<;>try (refine no_implicit_lambda% (st ?_);try with_reducible exact True.intro)))
       all_goals first|rfl|(exfalso;contradiction)|skip
     ·generalize detR p X q0 q1=U at d1
      generalize zbE p X q0 q1=ed at d1 hd
      by_cases hab:a0=b0
      ·obtain ⟨rfl,rfl⟩:=hxb hab
       subst hab
       have k9:=zc8 hH sX (rfl:X=X)
       clear hA hB hX hY hZ
       refine zae (F:=cd64) (hH.has _ _ rfl) (Nat.le_of_ble_eq_true rfl) fun w0 M Q hM hQ hR=>?_;have hE:=hH.callable;dsimp only[cd64,qm,ql,qf,qi,qb,qc,qp,qv,qN,qT,qF,qt]at hQ ⊢
       repeat' (first|refine zab [0,1,2,3,4,5,6,7,8,9,10,11,12,13,14,15,16,17,18,19,20,21,22,23,24,25,26,27,28,29,30,31,42,69,138,168,180,238] fun K hK=>?_|refine AWp.block ?_|(refine hK.go ?_;clear hK K)|refine Cont.go (by assumption) ?_|(refine cnd2 rfl (fun h=>?_) (fun h=>?_)<;>(try first|exact h.elim|obtain rfl:(_:Bool)=true:=h|obtain rfl:(_:Bool)=false:=h)<;>first|(exfalso;omega)|skip)|((first|refine AWp.reg hE hM ?_|refine AWp.regd hE hM ?_|refine AWp.ret ?_|refine AWp.skip ?_|refine AWp.exit ?_|(refine pk2 (fun h=>?_) (fun h=>?_)<;>(try first|exact h.elim|obtain rfl:(_:Bool)=true:=h|obtain rfl:(_:Bool)=false:=h))|refine zac (fun h=>?_) ?_|refine zaa hM (c0) ?_|refine zaa hM (c1) ?_|refine zaa hM (c2) ?_|refine zaa hM (k1) ?_|refine zaa hM (k2) ?_|refine zaa hM (k3) ?_|refine zaa hM (k4) ?_|refine zaa hM (k5) ?_|refine zaa hM (k6) ?_|refine zaa hM (k9) ?_|refine zaa hM (k7) ?_|refine zaa hM (k8) ?_|refine zaa hM (d1) ?_|refine zaa hM (m1) ?_|refine zaa hM (m2) ?_|(refine hQ _ _ _ rfl ?_;clear hQ hR hE hM)|(refine hR _ _ (hQ _ _ _ rfl ?_);clear hQ hR hE hM)|(refine zaf ?_ ?_;focus first|omega|(refine zad ?_;(refine no_implicit_lambda% (st ?_);try with_reducible exact True.intro);done)))<;>try (refine no_implicit_lambda% (st ?_);try with_reducible exact True.intro)))
       all_goals first|rfl|(exfalso;contradiction)|skip
      ·obtain rfl:=hxy hab
       have k9:=zc8 hH sX (rfl:X=X)
       clear hA hB hX hY hZ
       refine zae (F:=cd64) (hH.has _ _ rfl) (Nat.le_of_ble_eq_true rfl) fun w0 M Q hM hQ hR=>?_;have hE:=hH.callable;dsimp only[cd64,qm,ql,qf,qi,qb,qc,qp,qv,qN,qT,qF,qt]at hQ ⊢
       repeat' (first|refine zab [0,1,2,3,4,5,6,7,8,9,10,11,12,13,14,15,16,17,18,19,20,21,22,23,24,25,26,27,28,29,30,31,42,69,138,168,180,238] fun K hK=>?_|refine AWp.block ?_|(refine hK.go ?_;clear hK K)|refine Cont.go (by assumption) ?_|(refine cnd2 rfl (fun h=>?_) (fun h=>?_)<;>(try first|exact h.elim|obtain rfl:(_:Bool)=true:=h|obtain rfl:(_:Bool)=false:=h)<;>first|(exfalso;omega)|skip)|((first|refine AWp.reg hE hM ?_|refine AWp.regd hE hM ?_|refine AWp.ret ?_|refine AWp.skip ?_|refine AWp.exit ?_|(refine pk2 (fun h=>?_) (fun h=>?_)<;>(try first|exact h.elim|obtain rfl:(_:Bool)=true:=h|obtain rfl:(_:Bool)=false:=h))|refine zac (fun h=>?_) ?_|refine zaa hM (c0) ?_|refine zaa hM (c1) ?_|refine zaa hM (c2) ?_|refine zaa hM (k1) ?_|refine zaa hM (k2) ?_|refine zaa hM (k3) ?_|refine zaa hM (k4) ?_|refine zaa hM (k5) ?_|refine zaa hM (k6) ?_|refine zaa hM (k9) ?_|refine zaa hM (k7) ?_|refine zaa hM (k8) ?_|refine zaa hM (d1) ?_|refine zaa hM (m1) ?_|refine zaa hM (m2) ?_|(refine hQ _ _ _ rfl ?_;clear hQ hR hE hM)|(refine hR _ _ (hQ _ _ _ rfl ?_);clear hQ hR hE hM)|(refine zaf ?_ ?_;focus first|omega|(refine zad ?_;(refine no_implicit_lambda% (st ?_);try with_reducible exact True.intro);done)))<;>try (refine no_implicit_lambda% (st ?_);try with_reducible exact True.intro)))
       all_goals first|rfl|(exfalso;contradiction)|skip
    ·generalize zjZ p s a0 a1=A at c3
     generalize zjZ p s b0 b1=B at c4
     rw[he1]at c3
     generalize zaM p s b0 b1=e2 at c4 he2
     refine zae (F:=cd64) (hH.has _ _ rfl) (Nat.le_of_ble_eq_true rfl) fun w0 M Q hM hQ hR=>?_;have hE:=hH.callable;dsimp only[cd64,qm,ql,qf,qi,qb,qc,qp,qv,qN,qT,qF,qt]at hQ ⊢
     repeat' (first|refine zab [0,1,2,3,4,5,6,7,8,9,10,11,12,13,14,15,16,17,18,19,20,21,22,23,24,25,26,27,28,29,30,31,42,69,138,168,180,238] fun K hK=>?_|refine AWp.block ?_|(refine hK.go ?_;clear hK K)|refine Cont.go (by assumption) ?_|(refine cnd2 rfl (fun h=>?_) (fun h=>?_)<;>(try first|exact h.elim|obtain rfl:(_:Bool)=true:=h|obtain rfl:(_:Bool)=false:=h)<;>first|(exfalso;omega)|skip)|((first|refine AWp.reg hE hM ?_|refine AWp.regd hE hM ?_|refine AWp.ret ?_|refine AWp.skip ?_|refine AWp.exit ?_|(refine pk2 (fun h=>?_) (fun h=>?_)<;>(try first|exact h.elim|obtain rfl:(_:Bool)=true:=h|obtain rfl:(_:Bool)=false:=h))|refine zac (fun h=>?_) ?_|refine zaa hM (c0) ?_|refine zaa hM (c1) ?_|refine zaa hM (c2) ?_|refine zaa hM (c3) ?_|refine zaa hM (c4) ?_|(refine hQ _ _ _ rfl ?_;clear hQ hR hE hM)|(refine hR _ _ (hQ _ _ _ rfl ?_);clear hQ hR hE hM)|(refine zaf ?_ ?_;focus first|omega|(refine zad ?_;(refine no_implicit_lambda% (st ?_);try with_reducible exact True.intro);done)))<;>try (refine no_implicit_lambda% (st ?_);try with_reducible exact True.intro)))
     all_goals first|rfl|(exfalso;contradiction)|skip
   ·rw[show zjZ p s a0 a1=State.z by unfold zjZ;rw[if_neg he1]]at c3
    generalize zjZ p s b0 b1=B at c4
    generalize zaM p s b0 b1=e2 at c4
    generalize zaM p s a0 a1=e1 at c3 he1
    refine zae (F:=cd64) (hH.has _ _ rfl) (Nat.le_of_ble_eq_true rfl) fun w0 M Q hM hQ hR=>?_;have hE:=hH.callable;dsimp only[cd64,qm,ql,qf,qi,qb,qc,qp,qv,qN,qT,qF,qt]at hQ ⊢
    repeat' (first|refine zab [0,1,2,3,4,5,6,7,8,9,10,11,12,13,14,15,16,17,18,19,20,21,22,23,24,25,26,27,28,29,30,31,42,69,138,168,180,238] fun K hK=>?_|refine AWp.block ?_|(refine hK.go ?_;clear hK K)|refine Cont.go (by assumption) ?_|(refine cnd2 rfl (fun h=>?_) (fun h=>?_)<;>(try first|exact h.elim|obtain rfl:(_:Bool)=true:=h|obtain rfl:(_:Bool)=false:=h)<;>first|(exfalso;omega)|skip)|((first|refine AWp.reg hE hM ?_|refine AWp.regd hE hM ?_|refine AWp.ret ?_|refine AWp.skip ?_|refine AWp.exit ?_|(refine pk2 (fun h=>?_) (fun h=>?_)<;>(try first|exact h.elim|obtain rfl:(_:Bool)=true:=h|obtain rfl:(_:Bool)=false:=h))|refine zac (fun h=>?_) ?_|refine zaa hM (c0) ?_|refine zaa hM (c1) ?_|refine zaa hM (c2) ?_|refine zaa hM (c3) ?_|refine zaa hM (c4) ?_|(refine hQ _ _ _ rfl ?_;clear hQ hR hE hM)|(refine hR _ _ (hQ _ _ _ rfl ?_);clear hQ hR hE hM)|(refine zaf ?_ ?_;focus first|omega|(refine zad ?_;(refine no_implicit_lambda% (st ?_);try with_reducible exact True.intro);done)))<;>try (refine no_implicit_lambda% (st ?_);try with_reducible exact True.intro)))
    all_goals first|rfl|(exfalso;contradiction)|skip
end Go.Lev
namespace Go.Lev
open Go.Eng
theorem of_ar {n:Nat} {e:Sh} {d:D} (h:Sh.ok (.ar n e) d):∃ l,d=.l l∧l.length=n∧∀ x∈l,Sh.ok e x:=by
 cases d with
 |l l=>exact ⟨l,rfl,by simpa only[Sh.ok] using h⟩
 |t _=>exact h.elim
 |n _=>exact h.elim
theorem arg_arr2 {d:D} (h:Sh.ok (.ar 2 (.i .i64)) d):∃ a b:Int,Sh.arg (.ar 2 (.i .i64)) d=.agg [.n a,.n b]:=by
 obtain ⟨l,rfl,hl,h⟩:=of_ar h
 match l,hl,h with
 |[x,y],_,h =>
  obtain ⟨a,rfl,_⟩:=zbc (h x (by simp))
  obtain ⟨b,rfl,_⟩:=zbc (h y (by simp))
  exact ⟨a,b,rfl⟩
theorem arg_bool {d:D} (h:Sh.ok .b d):∃ t,Sh.arg .b d=.b t:=by
 cases d with
 |t t=>exact ⟨t,rfl⟩
 |l _=>exact h.elim
 |n _=>exact h.elim
end Go.Lev
namespace Go.Lev
open Go.Eng
set_option maxRecDepth 10000
set_option maxHeartbeats 4000000
variable {P:Program} {inv:Nat→Option Nat} {w0:World} {M:Nat→Prop}
theorem len16 {p:Pln} {s:State} (h:zak p s=0):s.tracks.length≤16:=by
 have h1:=(zaR (zar h).2.1).1
 have h2:=((zje _).1 (zbj h).sec).len
 omega
theorem inputApart_pc (hH:HasAll P inv) (hI:HasIds P inv) (p:Pln) (hp:Pln.ok p) (s:State):PC P inv 62 [.agg p.c,.agg s.c] (·=.b true):=by
 have c0:=zfx hH hI
 have c1:=zbJ hH p
 have c2:=zcu hH s
 cases g1:zea p with
 |true =>
  rw[g1]at c1
  refine zae (F:=cd62) (hH.has _ _ rfl) (Nat.le_of_ble_eq_true rfl) fun w0 M Q hM hQ hR=>?_;have hE:=hH.callable;dsimp only[cd62,qm,ql,qf,qi,qb,qc,qp,qv,qN,qT,qF,qt]at hQ ⊢
  repeat' (first|refine zab [0,1,2,3,4,5,6,7,8,9,10,11,12,13,14,15,16,17,18,35,45,99,104,117,122,156,161,174] fun K hK=>?_|refine AWp.block ?_|(refine hK.go ?_;clear hK K)|refine Cont.go (by assumption) ?_|(refine cnd2 rfl (fun h=>?_) (fun h=>?_)<;>(try first|exact h.elim|obtain rfl:(_:Bool)=true:=h|obtain rfl:(_:Bool)=false:=h)<;>first|(exfalso;omega)|skip)|((first|refine AWp.reg hE hM ?_|refine AWp.regd hE hM ?_|refine AWp.ret ?_|refine AWp.skip ?_|refine AWp.exit ?_|(refine pk2 (fun h=>?_) (fun h=>?_)<;>(try first|exact h.elim|obtain rfl:(_:Bool)=true:=h|obtain rfl:(_:Bool)=false:=h))|refine zac (fun h=>?_) ?_|refine zaa hM (c0) ?_|refine zaa hM (c1) ?_|(refine hQ _ _ _ rfl ?_;clear hQ hR hE hM)|(refine hR _ _ (hQ _ _ _ rfl ?_);clear hQ hR hE hM)|(refine zaf ?_ ?_;focus first|omega|(refine zad ?_;(refine no_implicit_lambda% (st ?_);try with_reducible exact True.intro);done)))<;>try (refine no_implicit_lambda% (st ?_);try with_reducible exact True.intro)))
 |false =>
  rw[g1]at c1
  cases g2:zeo s with
  |true =>
   rw[g2]at c2
   refine zae (F:=cd62) (hH.has _ _ rfl) (Nat.le_of_ble_eq_true rfl) fun w0 M Q hM hQ hR=>?_;have hE:=hH.callable;dsimp only[cd62,qm,ql,qf,qi,qb,qc,qp,qv,qN,qT,qF,qt]at hQ ⊢
   repeat' (first|refine zab [0,1,2,3,4,5,6,7,8,9,10,11,12,13,14,15,16,17,18,35,45,99,104,117,122,156,161,174] fun K hK=>?_|refine AWp.block ?_|(refine hK.go ?_;clear hK K)|refine Cont.go (by assumption) ?_|(refine cnd2 rfl (fun h=>?_) (fun h=>?_)<;>(try first|exact h.elim|obtain rfl:(_:Bool)=true:=h|obtain rfl:(_:Bool)=false:=h)<;>first|(exfalso;omega)|skip)|((first|refine AWp.reg hE hM ?_|refine AWp.regd hE hM ?_|refine AWp.ret ?_|refine AWp.skip ?_|refine AWp.exit ?_|(refine pk2 (fun h=>?_) (fun h=>?_)<;>(try first|exact h.elim|obtain rfl:(_:Bool)=true:=h|obtain rfl:(_:Bool)=false:=h))|refine zac (fun h=>?_) ?_|refine zaa hM (c0) ?_|refine zaa hM (c1) ?_|refine zaa hM (c2) ?_|(refine hQ _ _ _ rfl ?_;clear hQ hR hE hM)|(refine hR _ _ (hQ _ _ _ rfl ?_);clear hQ hR hE hM)|(refine zaf ?_ ?_;focus first|omega|(refine zad ?_;(refine no_implicit_lambda% (st ?_);try with_reducible exact True.intro);done)))<;>try (refine no_implicit_lambda% (st ?_);try with_reducible exact True.intro)))
  |false =>
   rw[g2]at c2
   have sp:=zlD hp g1
   have ss:=zgb g2
   have c3:=zaS hH hI p sp s ss
   by_cases hst:zak p s=0
   ·rw[hst]at c3
    have h16:=len16 hst
    have hl2:s.switches.length≤1000:=ss.2.1
    refine zae (F:=cd62) (hH.has _ _ rfl) (Nat.le_of_ble_eq_true rfl) fun w0 M Q hM hQ hR=>?_;have hE:=hH.callable;dsimp only[cd62,qm,ql,qf,qi,qb,qc,qp,qv,qN,qT,qF,qt]at hQ ⊢
    repeat' (first|refine zab [0,1,2,3,4,5,6,7,8,9,10,11,12,13,14,15,16,17,18,35,45,99,104,117,122,156,161,174] fun K hK=>?_|refine AWp.block ?_|(refine hK.go ?_;clear hK K)|refine Cont.go (by assumption) ?_|(refine cnd2 rfl (fun h=>?_) (fun h=>?_)<;>(try first|exact h.elim|obtain rfl:(_:Bool)=true:=h|obtain rfl:(_:Bool)=false:=h)<;>first|(exfalso;omega)|skip)|((first|refine AWp.reg hE hM ?_|refine AWp.regd hE hM ?_|refine AWp.ret ?_|refine AWp.skip ?_|refine AWp.exit ?_|(refine pk2 (fun h=>?_) (fun h=>?_)<;>(try first|exact h.elim|obtain rfl:(_:Bool)=true:=h|obtain rfl:(_:Bool)=false:=h))|refine zac (fun h=>?_) ?_|refine zaa hM (c0) ?_|refine zaa hM (c1) ?_|refine zaa hM (c2) ?_|refine zaa hM (c3) ?_|(refine hQ _ _ _ rfl ?_;clear hQ hR hE hM)|(refine hR _ _ (hQ _ _ _ rfl ?_);clear hQ hR hE hM)|(refine zaf ?_ ?_;focus first|omega|(refine zad ?_;(refine no_implicit_lambda% (st ?_);try with_reducible exact True.intro);done)))<;>try (refine no_implicit_lambda% (st ?_);try with_reducible exact True.intro)))
    all_goals first|(exfalso;contradiction)|skip
    refine zaj (ι:=Nat) [2,3,4,5,6] (fun zz=>[(6,.n zz)]) (fun zz=>[]) (fun zz=>zz≤s.tracks.length) (fun zz=>s.tracks.length-zz) (0) (Nat.zero_le _) (by (try dsimp only);(refine no_implicit_lambda% (st ?_);try with_reducible exact True.intro)<;>first|omega|(simp;done)) (by (try dsimp only);(refine no_implicit_lambda% (st ?_);try with_reducible exact True.intro)<;>first|omega|(simp;done)) ?_;rintro k hk;(try dsimp only at hk ⊢);rcases Nat.lt_or_ge k s.tracks.length with hlt|hge
    ·have ht:zgQ s (nth s.tracks k).id:=⟨_,zat hlt,rfl⟩
     have e0:zaM p s (nth s.tracks k).id 0=0:=(zbf hst).2 ⟨ht,.inl rfl⟩
     have e1:zaM p s (nth s.tracks k).id 1=0:=(zbf hst).2 ⟨ht,.inr rfl⟩
     obtain ⟨A,hA⟩:∃ A,zdw s (nth s.tracks k).id 0=A:=⟨_,rfl⟩
     obtain ⟨B,hB⟩:∃ B,zdw s (nth s.tracks k).id 1=B:=⟨_,rfl⟩
     have sA:SmS A:=hA▸zef ss _ _
     have sB:SmS B:=hB▸zef ss _ _
     have eA:zaM p A (nth s.tracks k).id 1=0:=hA▸zcv e0 e1 hst
     have hAB:zdw A (nth s.tracks k).id 1=B:=by rw[←hA,zeD,hB]
     have k1:=zd7 hH hI sp ss e0 hA
     have k2:=zd7 hH hI sp sA eA hAB
     have k3:=zd7 hH hI sp ss e1 hB
     have k4:=zc8 hH sB (rfl:B=B)
     have hAw:A.switches=s.switches:=by rw[←hA];rfl
     clear hA hB hAB
     obtain ⟨At,Aw,Al⟩:=A
     dsimp only at hAw
     subst hAw
     repeat' (first|refine zab [0,1,2,3,4,5,6,7,8,9,10,11,12,13,14,15,16,17,18,35,45,99,104,117,122,156,161,174] fun K hK=>?_|refine AWp.block ?_|(refine hK.go ?_;clear hK K)|refine Cont.go (by assumption) ?_|(refine cnd2 rfl (fun h=>?_) (fun h=>?_)<;>(try first|exact h.elim|obtain rfl:(_:Bool)=true:=h|obtain rfl:(_:Bool)=false:=h)<;>first|(exfalso;omega)|skip)|((first|refine AWp.reg hE hM ?_|refine AWp.regd hE hM ?_|refine AWp.ret ?_|refine AWp.skip ?_|refine AWp.exit ?_|(refine pk2 (fun h=>?_) (fun h=>?_)<;>(try first|exact h.elim|obtain rfl:(_:Bool)=true:=h|obtain rfl:(_:Bool)=false:=h))|refine zac (fun h=>?_) ?_|refine zaa hM (k1) ?_|refine zaa hM (k2) ?_|refine zaa hM (k3) ?_|refine zaa hM (k4) ?_|(refine hQ _ _ _ rfl ?_;clear hQ hR hE hM)|(refine hR _ _ (hQ _ _ _ rfl ?_);clear hQ hR hE hM)|(refine zaf ?_ ?_;focus first|omega|(refine zad ?_;(refine no_implicit_lambda% (st ?_);try with_reducible exact True.intro);done)))<;>try (refine no_implicit_lambda% (st ?_);try with_reducible exact True.intro)))
     all_goals first|(exfalso;contradiction)|(exfalso;omega)|skip
     refine zaj (ι:=Nat) [2,3,4,5,6,8,14] (fun zz=>[(14,.n zz)]) (fun zz=>[]) (fun zz=>zz≤s.switches.length) (fun zz=>s.switches.length-zz) (0) (Nat.zero_le _) (by (try dsimp only);(refine no_implicit_lambda% (st ?_);try with_reducible exact True.intro)<;>first|omega|(simp;done)) (by (try dsimp only);(refine no_implicit_lambda% (st ?_);try with_reducible exact True.intro)<;>first|omega|(simp;done)) ?_;rintro k2 hk;(try dsimp only at hk ⊢);rcases Nat.lt_or_ge k2 s.switches.length with hlt|hge
     ·repeat' (first|refine zab [0,1,2,3,4,5,6,7,8,9,10,11,12,13,14,15,16,17,18,35,45,99,104,117,122,156,161,174] fun K hK=>?_|refine AWp.block ?_|(refine hK.go ?_;clear hK K)|refine Cont.go (by assumption) ?_|(refine cnd2 rfl (fun h=>?_) (fun h=>?_)<;>(try first|exact h.elim|obtain rfl:(_:Bool)=true:=h|obtain rfl:(_:Bool)=false:=h)<;>first|(exfalso;omega)|skip)|((first|refine AWp.reg hE hM ?_|refine AWp.regd hE hM ?_|refine AWp.ret ?_|refine AWp.skip ?_|refine AWp.exit ?_|(refine pk2 (fun h=>?_) (fun h=>?_)<;>(try first|exact h.elim|obtain rfl:(_:Bool)=true:=h|obtain rfl:(_:Bool)=false:=h))|refine zac (fun h=>?_) ?_|(refine hQ _ _ _ rfl ?_;clear hQ hR hE hM)|(refine hR _ _ (hQ _ _ _ rfl ?_);clear hQ hR hE hM)|(refine zaf ?_ ?_;focus first|omega|(refine zad ?_;(refine no_implicit_lambda% (st ?_);try with_reducible exact True.intro);done)))<;>try simp -dsimp -implicitDefEqProofs (disch:=omega) only[go_sem,reduceIte,↓reduceIte,Nat.reduceEqDiff,Nat.reduceLT,Nat.reduceLeDiff,Nat.reduceAdd,Nat.reduceSub,Nat.reduceMul,Int.reduceToNat,Int.reduceLT,Int.reduceLE,Int.reduceEq,Int.reduceNeg,Int.reduceNe,reduceCtorEq,and_self,decide_true]))
      all_goals first|(exfalso;contradiction)|exact ⟨k2+1,by omega,by omega,by omega⟩
     ·repeat' (first|refine zab [0,1,2,3,4,5,6,7,8,9,10,11,12,13,14,15,16,17,18,35,45,99,104,117,122,156,161,174] fun K hK=>?_|refine AWp.block ?_|(refine hK.go ?_;clear hK K)|refine Cont.go (by assumption) ?_|(refine cnd2 rfl (fun h=>?_) (fun h=>?_)<;>(try first|exact h.elim|obtain rfl:(_:Bool)=true:=h|obtain rfl:(_:Bool)=false:=h)<;>first|(exfalso;omega)|skip)|((first|refine AWp.reg hE hM ?_|refine AWp.regd hE hM ?_|refine AWp.ret ?_|refine AWp.skip ?_|refine AWp.exit ?_|(refine pk2 (fun h=>?_) (fun h=>?_)<;>(try first|exact h.elim|obtain rfl:(_:Bool)=true:=h|obtain rfl:(_:Bool)=false:=h))|refine zac (fun h=>?_) ?_|(refine hQ _ _ _ rfl ?_;clear hQ hR hE hM)|(refine hR _ _ (hQ _ _ _ rfl ?_);clear hQ hR hE hM)|(refine zaf ?_ ?_;focus first|omega|(refine zad ?_;(refine no_implicit_lambda% (st ?_);try with_reducible exact True.intro);done)))<;>try (refine no_implicit_lambda% (st ?_);try with_reducible exact True.intro)))
      exact ⟨k+1,by omega,by omega,by omega⟩
    ·repeat' (first|refine zab [0,1,2,3,4,5,6,7,8,9,10,11,12,13,14,15,16,17,18,35,45,99,104,117,122,156,161,174] fun K hK=>?_|refine AWp.block ?_|(refine hK.go ?_;clear hK K)|refine Cont.go (by assumption) ?_|(refine cnd2 rfl (fun h=>?_) (fun h=>?_)<;>(try first|exact h.elim|obtain rfl:(_:Bool)=true:=h|obtain rfl:(_:Bool)=false:=h)<;>first|(exfalso;omega)|skip)|((first|refine AWp.reg hE hM ?_|refine AWp.regd hE hM ?_|refine AWp.ret ?_|refine AWp.skip ?_|refine AWp.exit ?_|(refine pk2 (fun h=>?_) (fun h=>?_)<;>(try first|exact h.elim|obtain rfl:(_:Bool)=true:=h|obtain rfl:(_:Bool)=false:=h))|refine zac (fun h=>?_) ?_|(refine hQ _ _ _ rfl ?_;clear hQ hR hE hM)|(refine hR _ _ (hQ _ _ _ rfl ?_);clear hQ hR hE hM)|(refine zaf ?_ ?_;focus first|omega|(refine zad ?_;(refine no_implicit_lambda% (st ?_);try with_reducible exact True.intro);done)))<;>try (refine no_implicit_lambda% (st ?_);try with_reducible exact True.intro)))
     all_goals first|(exfalso;omega)|skip
     refine zaj (ι:=Nat) [2,3,4,5,15] (fun zz=>[(15,.n zz)]) (fun zz=>[]) (fun zz=>zz≤s.switches.length) (fun zz=>s.switches.length-zz) (0) (Nat.zero_le _) (by (try dsimp only);(refine no_implicit_lambda% (st ?_);try with_reducible exact True.intro)<;>first|omega|(simp;done)) (by (try dsimp only);(refine no_implicit_lambda% (st ?_);try with_reducible exact True.intro)<;>first|omega|(simp;done)) ?_;rintro k hk;(try dsimp only at hk ⊢);rcases Nat.lt_or_ge k s.switches.length with hlt|hge
     ·have hw:zhp s (nth s.switches k).id:=⟨_,zat (by assumption),rfl⟩
      have e0:zbE p s (nth s.switches k).id 2=0:=(zdY hst).2 ⟨hw,by omega⟩
      obtain ⟨A,hA⟩:∃ A,zjY s (nth s.switches k).id 2=A:=⟨_,rfl⟩
      have k1:=zn7 hH hI sp ss e0 hA
      have hAt:A.tracks=s.tracks:=by rw[←hA];rfl
      have hAl:A.switches.length=s.switches.length:=by rw[←hA];exact zcb _ _ _ _
      have hAk:(nth A.switches k).lie=2:=by
       rw[←hA]
       show (nth (zfP Switch.id (nth s.switches k).id (fun t=>(⟨t.id,2,t.call⟩:Switch)) s.switches) k).lie=2
       rw[zh4 Switch.id _ _ (by assumption),if_pos rfl]
      clear hA
      obtain ⟨At,Aw,Al⟩:=A
      dsimp only at hAt hAl hAk
      subst hAt
      repeat' (first|refine zab [0,1,2,3,4,5,6,7,8,9,10,11,12,13,14,15,16,17,18,35,45,99,104,117,122,156,161,174] fun K hK=>?_|refine AWp.block ?_|(refine hK.go ?_;clear hK K)|refine Cont.go (by assumption) ?_|(refine cnd2 rfl (fun h=>?_) (fun h=>?_)<;>(try first|exact h.elim|obtain rfl:(_:Bool)=true:=h|obtain rfl:(_:Bool)=false:=h)<;>first|(exfalso;omega)|skip)|((first|refine AWp.reg hE hM ?_|refine AWp.regd hE hM ?_|refine AWp.ret ?_|refine AWp.skip ?_|refine AWp.exit ?_|(refine pk2 (fun h=>?_) (fun h=>?_)<;>(try first|exact h.elim|obtain rfl:(_:Bool)=true:=h|obtain rfl:(_:Bool)=false:=h))|refine zac (fun h=>?_) ?_|refine zd3 hM ( k1) ?_|refine zaa hM (k1) ?_|(refine hQ _ _ _ rfl ?_;clear hQ hR hE hM)|(refine hR _ _ (hQ _ _ _ rfl ?_);clear hQ hR hE hM)|(refine zaf ?_ ?_;focus first|omega|(refine zad ?_;(refine no_implicit_lambda% (st ?_);try with_reducible exact True.intro);done)))<;>try simp -dsimp -implicitDefEqProofs (disch:=omega) only[go_sem,reduceIte,↓reduceIte,Nat.reduceEqDiff,Nat.reduceLT,Nat.reduceLeDiff,Nat.reduceAdd,Nat.reduceSub,Nat.reduceMul,Int.reduceToNat,Int.reduceLT,Int.reduceLE,Int.reduceEq,Int.reduceNeg,Int.reduceNe,reduceCtorEq,hAk]))
      all_goals first|(exfalso;contradiction)|(exfalso;omega)|skip
      refine zaj (ι:=Nat) [2,3,4,5,15,16,18] (fun zz=>[(18,.n zz)]) (fun zz=>[]) (fun zz=>zz≤s.tracks.length) (fun zz=>s.tracks.length-zz) (0) (Nat.zero_le _) (by (try dsimp only);(refine no_implicit_lambda% (st ?_);try with_reducible exact True.intro)<;>first|omega|(simp;done)) (by (try dsimp only);(refine no_implicit_lambda% (st ?_);try with_reducible exact True.intro)<;>first|omega|(simp;done)) ?_;rintro k2 hk;(try dsimp only at hk ⊢);rcases Nat.lt_or_ge k2 s.tracks.length with hlt|hge
      ·repeat' (first|refine zab [0,1,2,3,4,5,6,7,8,9,10,11,12,13,14,15,16,17,18,35,45,99,104,117,122,156,161,174] fun K hK=>?_|refine AWp.block ?_|(refine hK.go ?_;clear hK K)|refine Cont.go (by assumption) ?_|(refine cnd2 rfl (fun h=>?_) (fun h=>?_)<;>(try first|exact h.elim|obtain rfl:(_:Bool)=true:=h|obtain rfl:(_:Bool)=false:=h)<;>first|(exfalso;omega)|skip)|((first|refine AWp.reg hE hM ?_|refine AWp.regd hE hM ?_|refine AWp.ret ?_|refine AWp.skip ?_|refine AWp.exit ?_|(refine pk2 (fun h=>?_) (fun h=>?_)<;>(try first|exact h.elim|obtain rfl:(_:Bool)=true:=h|obtain rfl:(_:Bool)=false:=h))|refine zac (fun h=>?_) ?_|(refine hQ _ _ _ rfl ?_;clear hQ hR hE hM)|(refine hR _ _ (hQ _ _ _ rfl ?_);clear hQ hR hE hM)|(refine zaf ?_ ?_;focus first|omega|(refine zad ?_;(refine no_implicit_lambda% (st ?_);try with_reducible exact True.intro);done)))<;>try simp -dsimp -implicitDefEqProofs (disch:=omega) only[go_sem,reduceIte,↓reduceIte,Nat.reduceEqDiff,Nat.reduceLT,Nat.reduceLeDiff,Nat.reduceAdd,Nat.reduceSub,Nat.reduceMul,Int.reduceToNat,Int.reduceLT,Int.reduceLE,Int.reduceEq,Int.reduceNeg,Int.reduceNe,reduceCtorEq,and_self,decide_true]))
       all_goals first|(exfalso;contradiction)|exact ⟨k2+1,by omega,by omega,by omega⟩
      ·repeat' (first|refine zab [0,1,2,3,4,5,6,7,8,9,10,11,12,13,14,15,16,17,18,35,45,99,104,117,122,156,161,174] fun K hK=>?_|refine AWp.block ?_|(refine hK.go ?_;clear hK K)|refine Cont.go (by assumption) ?_|(refine cnd2 rfl (fun h=>?_) (fun h=>?_)<;>(try first|exact h.elim|obtain rfl:(_:Bool)=true:=h|obtain rfl:(_:Bool)=false:=h)<;>first|(exfalso;omega)|skip)|((first|refine AWp.reg hE hM ?_|refine AWp.regd hE hM ?_|refine AWp.ret ?_|refine AWp.skip ?_|refine AWp.exit ?_|(refine pk2 (fun h=>?_) (fun h=>?_)<;>(try first|exact h.elim|obtain rfl:(_:Bool)=true:=h|obtain rfl:(_:Bool)=false:=h))|refine zac (fun h=>?_) ?_|(refine hQ _ _ _ rfl ?_;clear hQ hR hE hM)|(refine hR _ _ (hQ _ _ _ rfl ?_);clear hQ hR hE hM)|(refine zaf ?_ ?_;focus first|omega|(refine zad ?_;(refine no_implicit_lambda% (st ?_);try with_reducible exact True.intro);done)))<;>try (refine no_implicit_lambda% (st ?_);try with_reducible exact True.intro)))
       exact ⟨k+1,by omega,by omega,by omega⟩
     ·repeat' (first|refine zab [0,1,2,3,4,5,6,7,8,9,10,11,12,13,14,15,16,17,18,35,45,99,104,117,122,156,161,174] fun K hK=>?_|refine AWp.block ?_|(refine hK.go ?_;clear hK K)|refine Cont.go (by assumption) ?_|(refine cnd2 rfl (fun h=>?_) (fun h=>?_)<;>(try first|exact h.elim|obtain rfl:(_:Bool)=true:=h|obtain rfl:(_:Bool)=false:=h)<;>first|(exfalso;omega)|skip)|((first|refine AWp.reg hE hM ?_|refine AWp.regd hE hM ?_|refine AWp.ret ?_|refine AWp.skip ?_|refine AWp.exit ?_|(refine pk2 (fun h=>?_) (fun h=>?_)<;>(try first|exact h.elim|obtain rfl:(_:Bool)=true:=h|obtain rfl:(_:Bool)=false:=h))|refine zac (fun h=>?_) ?_|(refine hQ _ _ _ rfl ?_;clear hQ hR hE hM)|(refine hR _ _ (hQ _ _ _ rfl ?_);clear hQ hR hE hM)|(refine zaf ?_ ?_;focus first|omega|(refine zad ?_;(refine no_implicit_lambda% (st ?_);try with_reducible exact True.intro);done)))<;>try (refine no_implicit_lambda% (st ?_);try with_reducible exact True.intro)))
   ·generalize zak p s=e at c3 hst
    refine zae (F:=cd62) (hH.has _ _ rfl) (Nat.le_of_ble_eq_true rfl) fun w0 M Q hM hQ hR=>?_;have hE:=hH.callable;dsimp only[cd62,qm,ql,qf,qi,qb,qc,qp,qv,qN,qT,qF,qt]at hQ ⊢
    repeat' (first|refine zab [0,1,2,3,4,5,6,7,8,9,10,11,12,13,14,15,16,17,18,35,45,99,104,117,122,156,161,174] fun K hK=>?_|refine AWp.block ?_|(refine hK.go ?_;clear hK K)|refine Cont.go (by assumption) ?_|(refine cnd2 rfl (fun h=>?_) (fun h=>?_)<;>(try first|exact h.elim|obtain rfl:(_:Bool)=true:=h|obtain rfl:(_:Bool)=false:=h)<;>first|(exfalso;omega)|skip)|((first|refine AWp.reg hE hM ?_|refine AWp.regd hE hM ?_|refine AWp.ret ?_|refine AWp.skip ?_|refine AWp.exit ?_|(refine pk2 (fun h=>?_) (fun h=>?_)<;>(try first|exact h.elim|obtain rfl:(_:Bool)=true:=h|obtain rfl:(_:Bool)=false:=h))|refine zac (fun h=>?_) ?_|refine zaa hM (c0) ?_|refine zaa hM (c1) ?_|refine zaa hM (c2) ?_|refine zaa hM (c3) ?_|(refine hQ _ _ _ rfl ?_;clear hQ hR hE hM)|(refine hR _ _ (hQ _ _ _ rfl ?_);clear hQ hR hE hM)|(refine zaf ?_ ?_;focus first|omega|(refine zad ?_;(refine no_implicit_lambda% (st ?_);try with_reducible exact True.intro);done)))<;>try (refine no_implicit_lambda% (st ?_);try with_reducible exact True.intro)))
    all_goals first|rfl|(exfalso;contradiction)|skip
end Go.Lev
