/-
  A part of the engine that walks the functions' codes, and of the functions' contracts. Conditions: those that each theorem names.
-/
import Derived.Test.YtjgelcegjmfgnaaGreatL8
import Derived.IntWalk
set_option linter.unusedSimpArgs false
set_option linter.unusedVariables false
set_option linter.unusedSectionVars false
namespace Go.Lev
open Go.Eng
theorem zkZ {α:Type} (f:α→Int) (n:Int) (g h:α→α) (hg:∀ x,f (g x)=f x) (hh:∀ x,h (g x)=h x) (l:List α):zcP f n h (zcP f n g l)=zcP f n h l:=by
 unfold zcP
 rw[List.map_map]
 refine List.map_congr_left fun x _=>?_
 simp only[Function.comp]
 by_cases e:f x=n
 ·rw[if_pos e,if_pos (by rw[hg];exact e),if_pos e,hh]
 ·simp only[if_neg e]
theorem zpP (s:State) (n v w:Int):zdh (zdh s n v) n w=zdh s n w:=by
 unfold zdh
 rw[zkZ Track.id n (fun t=>⟨t.id,v⟩) (fun t=>⟨t.id,w⟩) (fun _=>rfl) (fun _=>rfl)]
end Go.Lev
namespace Go.Lev
open Go.Eng
theorem zkY {α:Type} (f:α→Int) (n:Int) (g:α→α) (l:List α) (h:∀ x∈l,f x=n→g x=x):zcP f n g l=l:=by
 unfold zcP
 conv=>rhs;rw[←List.map_id l]
 refine List.map_congr_left fun x hx=>?_
 split
 ·rename_i e;exact h x hx e
 ·rfl
end Go.Lev
namespace Go.Lev
open Go.Eng
end Go.Lev
namespace Go.Lev
open Go.Eng
set_option maxRecDepth 10000
set_option maxHeartbeats 4000000
variable {P:Program} {inv:Nat→Option Nat} {w0:World} {M:Nat→Prop}
theorem zqE (s:State) (n v m:Int):ziw (zdh s n v) m↔ziw s m:=by
 have h:(zdh s n v).tracks.map Track.id=s.tracks.map Track.id:=zgi Track.id n (fun t=>⟨t.id,v⟩) (fun _=>rfl) s.tracks
 constructor
 ·rintro ⟨t,ht,e⟩
  have:m∈s.tracks.map Track.id:=by rw[←h,←e];exact List.mem_map_of_mem ht
  obtain ⟨t',h1,h2⟩:=List.mem_map.1 this
  exact ⟨t',h1,h2⟩
 ·rintro ⟨t,ht,e⟩
  have:m∈(zdh s n v).tracks.map Track.id:=by rw[h,←e];exact List.mem_map_of_mem ht
  obtain ⟨t',h1,h2⟩:=List.mem_map.1 this
  exact ⟨t',h1,h2⟩
end Go.Lev
namespace Go.Lev
open Go.Eng
end Go.Lev
namespace Go.Lev
open Go.Eng
theorem zpQ {s:State} (hn:(s.tracks.map Track.id).Nodup) {k:Nat} (hk:k<s.tracks.length):zdh s (nth s.tracks k).id (nth s.tracks k).is=s:=by
 unfold zdh
 rw[zkY]
 intro x hx e
 obtain ⟨j,hj,rfl⟩:=zdv hx
 rw[zit Track.id hn hj hk e]
theorem zpU {s:State} (hn:(s.switches.map Switch.id).Nodup) {k:Nat} (hk:k<s.switches.length):zgU s (nth s.switches k).id (nth s.switches k).lie=s:=by
 unfold zgU
 rw[zkY]
 intro x hx e
 obtain ⟨j,hj,rfl⟩:=zdv hx
 rw[zit Switch.id hn hj hk e]
theorem zpO (p:Pln) (s:State) (n v:Int):zdh (zax p (zdh s n v)) n v=zax p (zdh s n v):=by
 have h:=zpP s n v v
 unfold zdh at h ⊢
 unfold zax
 dsimp only at h ⊢
 rw[State.mk.injEq]at h
 rw[h.1]
theorem zpT (s:State) (n v:Int):zgU (zgU s n v) n v=zgU s n v:=by
 unfold zgU
 dsimp only
 rw[zkZ Switch.id n (fun t=>(⟨t.id,v,t.call⟩:Switch)) (fun t=>(⟨t.id,v,t.call⟩:Switch)) (fun _=>rfl) (fun _=>rfl)]
theorem zpS (p:Pln) (s:State) (n v:Int):zgU (zax p (zgU s n v)) n v=zax p (zgU s n v):=by
 have h:=zpT s n v
 unfold zgU at h ⊢
 unfold zax
 dsimp only at h ⊢
 rw[State.mk.injEq]at h
 rw[h.2.1]
end Go.Lev
namespace Go.Lev
open Go.Eng
theorem do_of {p:Pln} {s:State} {a:ActD} (h:zac p s=0) (h1:zge p s a=0) {u:State} (h2:zhr p s a=u) (h3:zac p u=0):doC p s a=0∧doR p s a=zax p u:=by
 subst h2
 unfold doC doR zcS
 rw[if_pos h,if_pos h1,if_pos h,if_pos h1,if_pos h3]
 exact ⟨h3,rfl⟩
theorem actC_1 (p:Pln) (s:State) (n v:Int) (d:List Int):zge p s ⟨1,n,v,d⟩=zbw p s n v∧zhr p s ⟨1,n,v,d⟩=secR p s n v:=⟨rfl,rfl⟩
theorem actC_2 (p:Pln) (s:State) (n v:Int) (d:List Int):zge p s ⟨2,n,v,d⟩=zcu p s n v∧zhr p s ⟨2,n,v,d⟩=detR p s n v:=⟨rfl,rfl⟩
theorem do_sec {p:Pln} {s:State} {n v:Int} {d:List Int} (h:zac p s=0) (h1:zbw p s n v=0):doC p s ⟨1,n,v,d⟩=0∧doR p s ⟨1,n,v,d⟩=zax p (zdh s n v) :=
 do_of h ((actC_1 p s n v d).1.trans h1) (by rw[(actC_1 p s n v d).2];unfold secR;rw[if_pos h1]) (zcG h (by have:=((zbO h).1 h1).2;omega))
theorem do_det {p:Pln} {s:State} {n v:Int} {d:List Int} (h:zac p s=0) (h1:zcu p s n v=0):doC p s ⟨2,n,v,d⟩=0∧doR p s ⟨2,n,v,d⟩=zax p (zgU s n v) :=
 do_of h ((actC_2 p s n v d).1.trans h1) (by rw[(actC_2 p s n v d).2];unfold detR;rw[if_pos h1]) (zhV h (by have:=((zdL h).1 h1).2;omega))
theorem known_T {p:Pln} {s:State} (h:zac p s=0) (hst:zax p s=s) (h8:∀ t∈s.tracks,0≤t.is) {k:Nat} (hk:k<s.tracks.length) (h2:¬(nth s.tracks k).is=2) (d:List Int):doC p s ⟨1,(nth s.tracks k).id,(nth s.tracks k).is,d⟩=0∧doR p s ⟨1,(nth s.tracks k).id,(nth s.tracks k).is,d⟩=s:=by
 have hpa:=(zab h).2.1
 have hnd:(s.tracks.map Track.id).Nodup:=by rw[zgj hpa];exact zel (zae h)
 have h1:=(zbf _ _ _).1 (by simp only[zai,Bool.and_eq_true]at hpa;exact hpa.1)
 have h3:=h1.2 k hk
 simp only[zhh,Bool.and_eq_true,decide_eq_true_eq]at h3
 have h4:=h8 _ (zad hk)
 have h5:=do_sec (d:=d) h ((zbO h).2 ⟨⟨_,zad hk,rfl⟩,show (nth s.tracks k).is=0∨(nth s.tracks k).is=1 by omega⟩)
 rw[zpQ hnd hk,hst]at h5
 exact h5
theorem known_L {p:Pln} {s:State} (h:zac p s=0) (hst:zax p s=s) {k:Nat} (hk:k<s.switches.length) (d:List Int):doC p s ⟨2,(nth s.switches k).id,(nth s.switches k).lie,d⟩=0∧doR p s ⟨2,(nth s.switches k).id,(nth s.switches k).lie,d⟩=s:=by
 have hpa:=(zab h).2.1
 have hnd:(s.switches.map Switch.id).Nodup:=by rw[zcR hpa];exact zbF (zae h)
 have h1:=(zbf _ _ _).1 (by simp only[zai,Bool.and_eq_true]at hpa;exact hpa.2.1)
 have h3:=h1.2 k hk
 simp only[zgl,zer,Bool.and_eq_true,decide_eq_true_eq]at h3
 have h5:=do_det (d:=d) h ((zdL h).2 ⟨⟨_,zad hk,rfl⟩,h3.2.1⟩)
 rw[zpU hnd hk,hst]at h5
 exact h5
theorem zop {p:Pln} {s u:State} {a:ActD} (g:StepS p s a u) (hk:a.kind=1∨a.kind=2):doC p (zax p u) a=0∧doR p (zax p u) a=zax p u:=by
 have hc:=zcF g.code
 obtain ⟨kd,n,v,d⟩:=a
 rcases g.all with ⟨h,hu,ht,hv⟩|⟨h,hu,ht,hv⟩|⟨h,_⟩|⟨h,_⟩|⟨h,_⟩|⟨h,_⟩
 ·dsimp only at h hu ht hv
  subst h
  have h1:ziw (zax p u) n:=by rw[hu];exact (zqE _ _ _ _).2 ht
  have h2:=do_sec (d:=d) hc ((zbO hc).2 ⟨h1,hv⟩)
  rw[hu]at h2 ⊢
  rw[zpO,zfz (by rw[←hu];exact g.code)]at h2
  exact h2
 ·dsimp only at h hu ht hv
  subst h
  have h1:zky (zax p u) n:=by
   rw[hu]
   obtain ⟨t,ht,e⟩:=ht
   have:t.id∈(zgU s n v).switches.map Switch.id:=by
    show t.id∈(zcP Switch.id n _ s.switches).map Switch.id
    rw[zgi Switch.id n (fun t=>(⟨t.id,v,t.call⟩:Switch)) (fun _=>rfl)]
    exact List.mem_map_of_mem ht
   obtain ⟨x,hx,ex⟩:=List.mem_map.1 this
   exact ⟨x,hx,ex.trans e⟩
  have h2:=do_det (d:=d) hc ((zdL hc).2 ⟨h1,hv⟩)
  rw[hu]at h2 ⊢
  rw[zpS,zfz (by rw[←hu];exact g.code)]at h2
  exact h2
 all_goals (dsimp only at h hk;omega)
end Go.Lev
namespace Go.Lev
open Go.Eng
set_option maxRecDepth 10000
set_option maxHeartbeats 4000000
variable {P:Program} {inv:Nat→Option Nat} {w0:World} {M:Nat→Prop}
theorem coreKnown_pc (hH:HasAll P inv) (hI:HasIds P inv) (p:Pln) (hp:Pln.ok p) (s:State) (hs:s.ok) (a:ActD) (ha:0≤a.kind∧a.kind≤255):PC P inv 375 [.agg p.c,.agg s.c,.agg a.c] (·=.b true):=by
 have c0:=zgS hH hI
 have c1:=zbK hH p
 have c2:=zdb hH s
 cases g1:zet p with
 |true =>
  rw[g1]at c1
  refine PC.fn hH cd375 fun w0 M Q hM hE hQ hR=>?_;dsimp only[cd375,qm,ql,qf,qi,qb,qc,qp,qv,qN,qT,qF,qt]at hQ ⊢
  (repeat' first|refine zaa [0,1,2,3,4,5,6,7,8,9,10,11,12,13,14,15,16,18,19,20,31,40,50,59,87,92,121,130,151] fun K hK=>?_|(refine hK.go ?_;clear hK K)|with_reducible exact wT|refine wA ?_|(refine wB (fun h=>?_) (fun h=>?_)<;>first|exact wN h|subst (h:(_:Bool)=_)|skip)|(refine wQ ?_;clear hQ hR hE hM)|refine wC c0 ?_|refine wC c1 ?_|fail)
 |false =>
  rw[g1]at c1
  cases g2:zfS s with
  |true =>
   rw[g2]at c2
   refine PC.fn hH cd375 fun w0 M Q hM hE hQ hR=>?_;dsimp only[cd375,qm,ql,qf,qi,qb,qc,qp,qv,qN,qT,qF,qt]at hQ ⊢
   (repeat' first|refine zaa [0,1,2,3,4,5,6,7,8,9,10,11,12,13,14,15,16,18,19,20,31,40,50,59,87,92,121,130,151] fun K hK=>?_|(refine hK.go ?_;clear hK K)|with_reducible exact wT|refine wA ?_|(refine wB (fun h=>?_) (fun h=>?_)<;>first|exact wN h|subst (h:(_:Bool)=_)|skip)|(refine wQ ?_;clear hQ hR hE hM)|refine wC c0 ?_|refine wC c1 ?_|refine wC c2 ?_|fail)
  |false =>
   rw[g2]at c2
   have sp:=zmr hp g1
   have ss:=zhO g2
   have c3:=zdc hH hI p sp s ss
   by_cases hst:zac p s=0
   ·rw[hst,show zcS p s=zax p s by unfold zcS;rw[if_pos hst]]at c3
    have sS:=zj5 (p:=p) ss
    have hc:=zcF hst
    have h8:∀ t∈(zax p s).tracks,0≤t.is:=fun t ht=>tr_u8 hs t ht
    have hss:=zfz hst
    have hb8:∀ k,k<(zax p s).tracks.length→0≤(nth (zax p s).tracks k).is∧(nth (zax p s).tracks k).is≤255:=fun k hk=>(hs.1.2 _ (show nth (zax p s).tracks k∈s.tracks from zad hk)).2
    have dT:∀ k,k<(zax p s).tracks.length→¬(nth (zax p s).tracks k).is=2→PC P inv 207 [.agg p.c,.agg (zax p s).c,.agg [.i .u8 1,.n (nth (zax p s).tracks k).id,.n (nth (zax p s).tracks k).is,.s0 1]] (·=.tup [.agg (zax p s).c,.n 0]):=fun k hk h2=>by
     have h3:=zri hH hI p sp _ sS h8 1 (nth (zax p s).tracks k).id (nth (zax p s).tracks k).is (by decide)
     obtain ⟨h4,h5⟩:=known_T hc hss h8 hk h2 []
     rw[h4,h5]at h3
     exact h3
    have dL:∀ k,k<(zax p s).switches.length→PC P inv 207 [.agg p.c,.agg (zax p s).c,.agg [.i .u8 2,.n (nth (zax p s).switches k).id,.n (nth (zax p s).switches k).lie,.s0 1]] (·=.tup [.agg (zax p s).c,.n 0]):=fun k hk=>by
     have h3:=zri hH hI p sp _ sS h8 2 (nth (zax p s).switches k).id (nth (zax p s).switches k).lie (by decide)
     obtain ⟨h4,h5⟩:=known_L hc hss hk []
     rw[h4,h5]at h3
     exact h3
    have c4:=zhu hH sS (rfl:zax p s=zax p s)
    have c5:=zrj hH hI p sp _ sS h8 a ha
    have h8b:=h8
    obtain ⟨R,hRR⟩:∃ R,doR p (zax p s) a=R:=⟨_,rfl⟩
    obtain ⟨e,hee⟩:∃ e,doC p (zax p s) a=e:=⟨_,rfl⟩
    have c6:e=0→a.kind=1∨a.kind=2→PC P inv 207 [.agg p.c,.agg R.c,.agg a.c] (·=.tup [.agg R.c,.n 0])∧PC P inv 11 [.agg R.c,.agg R.c] (·=.b true):=fun he hk=>by
     rw[he]at hee
     obtain ⟨u,g,hu⟩:=zjY hee
     rw[hu]at hRR
     have sR:SmS R:=by
      rw[←hRR]
      have:=zj5 (p:=p) (zkU p sS a)
      rw[g.eq]at this
      exact this
     have h9:∀ t∈R.tracks,0≤t.is:=by
      rw[←hRR]
      intro t ht
      have ht:t∈u.tracks:=ht
      rcases g.all with ⟨_,h,_,hv⟩|⟨_,h,_⟩|⟨h,_⟩|⟨h,_⟩|⟨h,_⟩|⟨h,_⟩
      ·rw[h]at ht
       obtain ⟨x,hx,ex⟩:=List.mem_map.1 (show t∈(zax p s).tracks.map _ from ht)
       rw[←ex]
       split
       ·dsimp only;omega
       ·exact h8b x hx
      ·rw[h]at ht
       exact h8b t ht
      all_goals omega
     obtain ⟨h4,h5⟩:=zop g hk
     have h3:=zrj hH hI p sp _ sR h9 a ha
     rw[←hRR]at h3 ⊢
     rw[h4,h5]at h3
     rw[hRR]at h3 ⊢
     exact ⟨h3,zhu hH sR rfl⟩
    rw[hRR,hee]at c5
    obtain ⟨hl1,hl2,_⟩:=sS
    clear hst hc hss hRR hee h8
    generalize zax p s=S at *
    have hmin:∃ n,n≤S.tracks.length∧n≤20∧(S.tracks.length≤n∨20≤n):=⟨min S.tracks.length 20,by omega,by omega,by omega⟩
    obtain ⟨n,n1,n2,n3⟩:=hmin
    refine PC.fn hH cd375 fun w0 M Q hM hE hQ hR=>?_;dsimp only[cd375,qm,ql,qf,qi,qb,qc,qp,qv,qN,qT,qF,qt]at hQ ⊢
    (repeat' first|refine zaa [0,1,2,3,4,5,6,7,8,9,10,11,12,13,14,15,16,18,19,20,31,40,50,59,87,92,121,130,151] fun K hK=>?_|(refine hK.go ?_;clear hK K)|with_reducible exact wT|refine wA ?_|(refine wB (fun h=>?_) (fun h=>?_)<;>first|exact wN h|subst (h:(_:Bool)=_)|skip)|(refine wQ ?_;clear hQ hR hE hM)|refine wC c0 ?_|refine wC c1 ?_|refine wC c2 ?_|refine wC c3 ?_|fail)
    all_goals first|(exfalso;contradiction)|skip
    refine zap (ι:=Nat) [3,4,5,6,7,9] (fun z=>[(9,.n z)]) (fun _=>[]) (fun z=>z) (n) (fun _=>True) (0) ?_;rintro k ⟨hk,-⟩;(try dsimp only at hk ⊢);rcases Nat.lt_or_ge k n with hlt|hge
    ·have z1:decide ((k:Int)<S.tracks.length)=true:=decide_eq_true (by omega)
     have z2:decide ((k:Int)<20)=true:=decide_eq_true (by omega)
     by_cases h1:(nth S.tracks k).is=2
     ·have z3:decide ((nth S.tracks k).is=2)=true:=decide_eq_true h1
      (have hX:=zA @z1 (zA @z2 @z3);(repeat' first|refine zaa [0,1,2,3,4,5,6,7,8,9,10,11,12,13,14,15,16,18,19,20,31,40,50,59,87,92,121,130,151] fun K hK=>?_|(refine hK.go ?_;clear hK K)|with_reducible exact wT|refine wA ?_|(refine wB (fun h=>?_) (fun h=>?_)<;>first|exact wN h|subst (h:(_:Bool)=_)|skip)|(refine wQ ?_;clear hQ hR hE hM)|fail);all_goals clear hX)
      all_goals first|(exfalso;contradiction)|exact ⟨k+1,by omega,by omega,by omega⟩|trace_state
     ·have z3:decide ((nth S.tracks k).is=2)=false:=decide_eq_false h1
      have d1:=dT k (by omega) h1
      obtain ⟨b1,b2⟩:=hb8 k (by omega)
      (have hX:=zA @z1 (zA @z2 @z3);(repeat' first|refine zaa [0,1,2,3,4,5,6,7,8,9,10,11,12,13,14,15,16,18,19,20,31,40,50,59,87,92,121,130,151] fun K hK=>?_|(refine hK.go ?_;clear hK K)|with_reducible exact wT|refine wA ?_|(refine wB (fun h=>?_) (fun h=>?_)<;>first|exact wN h|subst (h:(_:Bool)=_)|skip)|(refine wQ ?_;clear hQ hR hE hM)|refine wC d1 ?_|refine wU d1 ?_|refine wC c4 ?_|fail);all_goals clear hX)
      all_goals first|(exfalso;contradiction)|exact ⟨k+1,by omega,by omega,by omega⟩|trace_state
    ·(repeat' first|refine zaa [0,1,2,3,4,5,6,7,8,9,10,11,12,13,14,15,16,18,19,20,31,40,50,59,87,92,121,130,151] fun K hK=>?_|(refine hK.go ?_;clear hK K)|with_reducible exact wT|refine wA ?_|(refine wB (fun h=>?_) (fun h=>?_)<;>first|exact wN h|subst (h:(_:Bool)=_)|skip)|(refine wQ ?_;clear hQ hR hE hM)|fail)
     all_goals first|(exfalso;contradiction)|(exfalso;omega)|skip
     all_goals
      refine zap (ι:=Nat) [3,4,5,6,7,12] (fun z=>[(12,.n z)]) (fun _=>[]) (fun z=>z) (S.switches.length) (fun _=>True) (0) ?_;rintro k ⟨hk,-⟩;(try dsimp only at hk ⊢);rcases Nat.lt_or_ge k S.switches.length with hlt|hge
      ·have d1:=dL k (by assumption)
       (repeat' first|refine zaa [0,1,2,3,4,5,6,7,8,9,10,11,12,13,14,15,16,18,19,20,31,40,50,59,87,92,121,130,151] fun K hK=>?_|(refine hK.go ?_;clear hK K)|with_reducible exact wT|refine wA ?_|(refine wB (fun h=>?_) (fun h=>?_)<;>first|exact wN h|subst (h:(_:Bool)=_)|skip)|(refine wQ ?_;clear hQ hR hE hM)|refine wC d1 ?_|refine wU d1 ?_|refine wC c4 ?_|fail)
       all_goals first|(exfalso;contradiction)|exact ⟨k+1,by omega,by omega,by omega⟩|trace_state
      ·by_cases he:e=0∧(a.kind=1∨a.kind=2)
       ·obtain ⟨d1,d2⟩:=c6 he.1 he.2
        obtain ⟨he,hk2⟩:=he
        (repeat' first|refine zaa [0,1,2,3,4,5,6,7,8,9,10,11,12,13,14,15,16,18,19,20,31,40,50,59,87,92,121,130,151] fun K hK=>?_|(refine hK.go ?_;clear hK K)|with_reducible exact wT|refine wA ?_|(refine wB (fun h=>?_) (fun h=>?_)<;>first|exact wN h|subst (h:(_:Bool)=_)|skip)|(refine wQ ?_;clear hQ hR hE hM)|refine wC c5 ?_|refine wC d1 ?_|refine wC d2 ?_|fail)
        all_goals first|rfl|(exfalso;contradiction)|(exfalso;omega)|trace_state
       ·have he2:¬e=0∨(¬a.kind=1∧¬a.kind=2):=by
         by_cases h:e=0
         ·exact .inr ⟨fun h1=>he ⟨h,.inl h1⟩,fun h1=>he ⟨h,.inr h1⟩⟩
         ·exact .inl h
        clear he c6
        (repeat' first|refine zaa [0,1,2,3,4,5,6,7,8,9,10,11,12,13,14,15,16,18,19,20,31,40,50,59,87,92,121,130,151] fun K hK=>?_|(refine hK.go ?_;clear hK K)|with_reducible exact wT|refine wA ?_|(refine wB (fun h=>?_) (fun h=>?_)<;>first|exact wN h|subst (h:(_:Bool)=_)|skip)|(refine wQ ?_;clear hQ hR hE hM)|refine wC c5 ?_|fail)
        all_goals first|rfl|(exfalso;contradiction)|(exfalso;omega)|trace_state
   ·generalize zac p s=e at *
    generalize zcS p s=T at *
    refine PC.fn hH cd375 fun w0 M Q hM hE hQ hR=>?_;dsimp only[cd375,qm,ql,qf,qi,qb,qc,qp,qv,qN,qT,qF,qt]at hQ ⊢
    (repeat' first|refine zaa [0,1,2,3,4,5,6,7,8,9,10,11,12,13,14,15,16,18,19,20,31,40,50,59,87,92,121,130,151] fun K hK=>?_|(refine hK.go ?_;clear hK K)|with_reducible exact wT|refine wA ?_|(refine wB (fun h=>?_) (fun h=>?_)<;>first|exact wN h|subst (h:(_:Bool)=_)|skip)|(refine wQ ?_;clear hQ hR hE hM)|refine wC c0 ?_|refine wC c1 ?_|refine wC c2 ?_|refine wC c3 ?_|fail)
    all_goals first|rfl|(exfalso;contradiction)|trace_state
end Go.Lev
namespace Go.Lev
open Go.Eng
section
variable {p:Pln} {s u:State} {a:ActD} (g:StepS p s a u)
include g
end
end Go.Lev
namespace Go.Lev
open Go.Eng
section
variable {r:Rte} {is:Int→Int} {id:Int} (h0:0<r.path.length) (ht:1≤r.timer)
include h0 ht
end
section
variable (p:Pln) (at' d:Nat)
end
section
variable {p:Pln} {at' d:Nat} {i:Nat} {t:State}
variable (hd:d=1∨d=2) (g:TrI p at' d i t) (hi:i<(nth p.routes at').path.length)
include g
include hd hi
end
section
variable {p:Pln} {at' d:Nat} {i:Nat} {t:State} (g:TrI p at' d i t)
include g
end
end Go.Lev
