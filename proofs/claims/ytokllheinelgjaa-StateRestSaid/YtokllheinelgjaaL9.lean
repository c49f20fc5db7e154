/-
  A part of the engine that walks the functions' codes, and of the functions' contracts. Conditions: those that each theorem names.
-/
import Derived.Test.YtokllheinelgjaaL8
import Derived.IntWalk
set_option linter.unusedSimpArgs false
set_option linter.unusedVariables false
set_option linter.unusedSectionVars false
namespace Go.Lev
open Go.Eng
set_option maxRecDepth 10000
set_option maxHeartbeats 4000000
variable {P:Program} {inv:Nat→Option Nat} {w0:World} {M:Nat→Prop}
theorem zgD (p:Pln):(atS p).tracks.length=p.sections.length∧(atS p).switches.length=p.points.length∧(atS p).locks.length=p.routes.length:=by simp[atS]
theorem zfz {p:Pln} (ho:za2 p=true):zav p (atS p)=0:=by
 have hl:=zgD p
 have hpa:zap p (atS p)=true:=by
  unfold zap
  simp only[Bool.and_eq_true,zdn]
  refine ⟨⟨hl.1,fun i hi=>?_⟩,⟨hl.2.1,fun i hi=>?_⟩,hl.2.2,fun i hi=>?_⟩
  ·have:nth (atS p).tracks i=⟨(nth p.sections i).id,2⟩:=zk6 _ (by omega)
   rw[this];simp[zh3]
  ·have:nth (atS p).switches i=⟨(nth p.points i).id,0,0⟩:=zk6 _ (by omega)
   rw[this];simp[zhk,zem]
  ·have:nth (atS p).locks i=⟨(nth p.routes i).id,0,0,0⟩:=zk6 _ (by omega)
   rw[this];simp[zdW,zdb]
 have hlk:∀ i,i<(atS p).locks.length→nth (atS p).locks i=⟨(nth p.routes i).id,0,0,0⟩:=fun i hi=>zk6 _ (by omega)
 refine zd4.2 ⟨ho,hpa,fun i j hi _ _ m hm=>?_,fun i hi a ha=>?_⟩
 ·unfold hdAt zbv at hm
  rw[hlk i hi,if_pos rfl]at hm
  cases hm
 ·unfold asAt zbL at ha
  rw[hlk i hi,if_pos rfl]at ha
  cases ha
theorem zfy {p:Pln} (ho:za2 p=true) {n:Int} (hn:0≤n):nth (za0 p (atS p)).1 n.toNat=0∧nth (za0 p (atS p)).2.1 n.toNat=0:=by
 have hc:=zfz ho
 have hl:=zgD p
 have hlk:∀ i,i<(atS p).locks.length→nth (atS p).locks i=⟨(nth p.routes i).id,0,0,0⟩:=fun i hi=>zk6 _ (by omega)
 refine ⟨hold_no hc hn fun z hz hm=>?_,ask_no hc hn fun z hz a ha _=>?_⟩
 ·obtain ⟨i,hi,rfl⟩:=zfB hc hz
  unfold hdl zbv at hm
  dsimp only at hm
  rw[hlk i hi,if_pos rfl]at hm
  cases hm
 ·obtain ⟨i,hi,rfl⟩:=zfB hc hz
  unfold asl zbL at ha
  dsimp only at ha
  rw[hlk i hi,if_pos rfl]at ha
  cases ha
theorem atS_set {p:Pln} {i:Nat} (ho:za2 p=true) (hi:i<p.routes.length):zav p (setK (atS p) (nth p.routes i).id (zao p (nth p.routes i)).1.asks)=0:=by
 have hc:=zfz ho
 have hl:=zgD p
 have hok:=zbx hc
 have hlk:nth (atS p).locks i=⟨(nth p.routes i).id,0,0,0⟩:=zk6 _ (by omega)
 refine zlW hc (by omega) (by rw[hlk]) (by rw[hlk]) (fun m hm=>?_) (fun a ha=>.inr ?_)
 ·have hwp:=zdo ((zbB ho).2.1 _ (zas hi))
  rw[hwp.1,hwp.2.1]at hm
  obtain ⟨q,hq,rfl⟩:=(zfp hok (zas hi)).1 m hm
  have:=zc8 hok hq
  exact (zfy ho (by omega)).1
 ·have:=(zb2 hok (zas hi) ha).2.1
  exact (zfy ho (by omega)).2
theorem atS_bad {p:Pln} {i:Nat} (ho:za2 p=true) (hi:i<p.routes.length) (hne:(zao p (nth p.routes i)).1.asks≠[]):zav p ⟨(atS p).tracks,(atS p).switches,(atS p).locks.set i ⟨(nth p.routes i).id,1,0,0⟩⟩=8:=by
 refine zkb ho fun h=>?_
 have hc:=zfz ho
 have hl:=zgD p
 have hok:=zbx hc
 obtain ⟨_,h2,_,h4⟩:=zd4.1 h
 obtain ⟨a,q,e⟩:∃ a q,(zao p (nth p.routes i)).1.asks=a::q:=by
  cases h5:(zao p (nth p.routes i)).1.asks with
  |nil=>exact absurd h5 hne
  |cons a q=>exact ⟨a,q,rfl⟩
 have ha:a∈(zao p (nth p.routes i)).1.asks:=by rw[e];simp
 have hap:=zb2 hok (zas hi) ha
 have h5:=h4 i (by simp;omega) a (by
  unfold asAt zbL
  dsimp only
  rw[zbo _ _ _ _ (by omega),if_pos rfl,if_neg (by dsimp only;omega)]
  refine List.mem_filter.2 ⟨ha, ?_⟩
  simp only[zdl,Bool.or_eq_true,decide_eq_true_eq]
  omega)
 obtain ⟨x,hx,ex⟩:=hap.1
 have h6:(⟨x.id,0,0⟩:Switch)∈(atS p).switches:=List.mem_map.2 ⟨x,hx,rfl⟩
 have h7:=znf hok h2 (x:=⟨x.id,0,0⟩) h6
 dsimp only at h7
 rw[ex,h5]at h7
 omega
theorem zkz {α:Type} {c:α→List AV} {sz:Nat} [h:Cells c sz] (l:List α):∀ (n:Nat),n≤l.length→zbr sz n (l.map c).flatten=(l.take n).map c:=by
 induction l with
 |nil =>
  intro n hn
  have:n=0:=by simpa using hn
  subst this
  rfl
 |cons x l ih =>
  intro n hn
  cases n with
  |zero=>rfl
  |succ n =>
   rw[zbr,List.map_cons,List.flatten_cons,List.take_left' (h.len x),List.drop_left' (h.len x),ih n (by simpa using hn)]
   rfl
def zca (a:AskR) (_:Nat) (t:Switch):Switch:=if t.id=a.pnt then ⟨t.id,t.lie,a.lie⟩ else t
theorem zjS (a:AskR) (l:List Switch):l.mapIdx (zca a)=zc5 Switch.id a.pnt (fun t=>⟨t.id,t.lie,a.lie⟩) l:=by
 refine List.ext_getElem (by simp[zc5]) fun i h1 h2=>?_
 simp only[List.getElem_mapIdx,zc5,List.getElem_map]
 rfl
theorem zjP {q:List AskR} {k:Nat} (h:k<q.length) (l:List Switch):(zaN (q.take k) l).mapIdx (zca (nth q k))=zaN (q.take (k+1)) l:=by
 rw[zjS,←zjQ,zlL h]
theorem nmR_st (s:State):nmR (stR s)=true:=by
 unfold stR
 simp only[nmR,Bool.and_true,Bool.and_eq_true]
 exact ⟨zhC (fun _=>rfl) _,zhC (fun _=>rfl) _,zhC (fun _=>rfl) _⟩
theorem stateRest_pc (hH:HasAll P inv) (hI:HasIds P inv) (p:Pln) (hp:Pln.ok p) (n:Int):PC P inv 61 [.agg p.c,.n n] (·=.b true):=by
 have c0:=zlx hH hI
 have c1:=ziD hH p
 cases g1:ziE p with
 |true =>
  rw[g1]at c1
  refine zae (F:=cd61) (hH.has _ _ rfl) (Nat.le_of_ble_eq_true rfl) fun w0 M Q hM hQ hR=>?_;have hE:=hH.callable;dsimp only[cd61,qm,ql,qf,qi,qb,qc,qp,qv,qN,qT,qF,qt]at hQ ⊢
  repeat' (first|refine zaa [0,1,2,4,5,6,7,8,9,10,11,12,13,14,15,16,17,18,25,33,51,63,71,76,88,96,105,119,134,139,146,161] fun K hK=>?_|refine AWp.block ?_|(refine hK.go ?_;clear hK K)|refine Cont.go (by assumption) ?_|(refine cnd2 rfl (fun h=>?_) (fun h=>?_)<;>(try first|exact h.elim|obtain rfl:(_:Bool)=true:=h|obtain rfl:(_:Bool)=false:=h)<;>first|(exfalso;omega)|skip)|((first|refine AWp.reg hE hM ?_|refine AWp.regd hE hM ?_|refine AWp.ret ?_|refine AWp.skip ?_|refine AWp.exit ?_|(refine pk2 (fun h=>?_) (fun h=>?_)<;>(try first|exact h.elim|obtain rfl:(_:Bool)=true:=h|obtain rfl:(_:Bool)=false:=h))|refine zab (fun h=>?_) ?_|refine zad hM (c0) ?_|refine zad hM (c1) ?_|(refine hQ _ _ _ rfl ?_;clear hQ hR hE hM)|(refine hR _ _ (hQ _ _ _ rfl ?_);clear hQ hR hE hM)|(refine zaf ?_ ?_;focus first|omega|(refine zac ?_;(refine no_implicit_lambda% (st ?_);try with_reducible exact True.intro);done)))<;>try (refine no_implicit_lambda% (st ?_);try with_reducible exact True.intro)))
 |false =>
  rw[g1]at c1
  have sp:=sm_of hp g1
  have c2:=zcc hH hI p sp
  cases ho:za2 p with
  |false =>
   have e:zbd p=100:=by unfold zbd;rw[ho,if_neg (by simp)]
   have c3:=sAt_pc hH hI p sp
   rw[e]at c2 c3
   rw[show atR p=State.z by unfold atR;rw[ho,if_neg (by simp)]]at c3
   refine zae (F:=cd61) (hH.has _ _ rfl) (Nat.le_of_ble_eq_true rfl) fun w0 M Q hM hQ hR=>?_;have hE:=hH.callable;dsimp only[cd61,qm,ql,qf,qi,qb,qc,qp,qv,qN,qT,qF,qt]at hQ ⊢
   repeat' (first|refine zaa [0,1,2,4,5,6,7,8,9,10,11,12,13,14,15,16,17,18,25,33,51,63,71,76,88,96,105,119,134,139,146,161] fun K hK=>?_|refine AWp.block ?_|(refine hK.go ?_;clear hK K)|refine Cont.go (by assumption) ?_|(refine cnd2 rfl (fun h=>?_) (fun h=>?_)<;>(try first|exact h.elim|obtain rfl:(_:Bool)=true:=h|obtain rfl:(_:Bool)=false:=h)<;>first|(exfalso;omega)|skip)|((first|refine AWp.reg hE hM ?_|refine AWp.regd hE hM ?_|refine AWp.ret ?_|refine AWp.skip ?_|refine AWp.exit ?_|(refine pk2 (fun h=>?_) (fun h=>?_)<;>(try first|exact h.elim|obtain rfl:(_:Bool)=true:=h|obtain rfl:(_:Bool)=false:=h))|refine zab (fun h=>?_) ?_|refine zad hM (c0) ?_|refine zad hM (c1) ?_|refine zad hM (c2) ?_|refine zad hM (c3) ?_|(refine hQ _ _ _ rfl ?_;clear hQ hR hE hM)|(refine hR _ _ (hQ _ _ _ rfl ?_);clear hQ hR hE hM)|(refine zaf ?_ ?_;focus first|omega|(refine zac ?_;(refine no_implicit_lambda% (st ?_);try with_reducible exact True.intro);done)))<;>try (refine no_implicit_lambda% (st ?_);try with_reducible exact True.intro)))
   all_goals first|rfl|(exfalso;contradiction)|skip
  |true =>
   have c3:=sAt_po hH hI p sp ho
   have hc:=zfz ho
   have hl:=zgD p
   have hok:=zbx hc
   have h1:=sp.sec
   have h2:=sp.pts
   have h3:=sp.rte
   have hsm:SmS (atS p):=by
    have h4:=hok.pts
    simp only[points,Bool.and_eq_true]at h4
    have h5:=((zcN _ _).1 h4.1).2.2
    have h6:=((zcN _ _).1 hok.rise).2.2
    have h7:=((zim _).1 hok.sec).len
    simp only[List.length_map]at h5 h6
    exact ⟨by omega,by omega,by omega⟩
   have hS:∀ k,k<p.sections.length→PC P inv 67 [.agg p.c,.agg (atS p).c,.n (nth p.sections k).id] (·=.tup [.n 0,.n 0]):=fun k hk=>by
    have hsec:=zc8 hok (zas hk)
    have:=zmO hH hI p sp (atS p) hsm (nth p.sections k).id
    unfold zhK at this
    rw[if_pos hc,if_pos (show zlb p (nth p.sections k).id=true from List.any_eq_true.2 ⟨_,zas hk,by simp⟩),(zfy ho (by omega)).1]at this
    exact this
   have hA:∀ k,k<p.points.length→PC P inv 77 [.agg p.c,.agg (atS p).c,.n (nth p.points k).id] (·=.tup [.n 0,.n 0]):=fun k hk=>by
    have hpr:=zit hok (zas hk)
    have:=asked_pc hH hI p sp (atS p) hsm (nth p.points k).id
    unfold zkH at this
    rw[if_pos hc,if_pos (isPnt_at hk),(zfy ho (by omega)).2]at this
    exact this
   unfold stV stR at c3
   by_cases hat:0≤n∧n<p.routes.length
   ·obtain ⟨i,rfl⟩:∃ i:Nat,n=i:=⟨n.toNat,by omega⟩
    have hi:i<p.routes.length:=by omega
    have hi2:i<(atS p).locks.length:=by omega
    have c4:=zlI hH hI p sp (nth (atS p).locks i).id
    rw[ofW_at hc hi2]at c4
    dsimp only at c4
    have hlk:nth (atS p).locks i=⟨(nth p.routes i).id,0,0,0⟩:=zk6 _ hi
    have hwl:=(zfC hok (zas hi)).1
    have hL:(atS p).locks.set i ⟨(nth p.routes i).id,1,0,0⟩=(setK (atS p) (nth p.routes i).id (zao p (nth p.routes i)).1.asks).locks:=by
     have:=zj6 Lock.id (nth p.routes i).id (fun l=>(⟨l.id,1,l.gone,l.left⟩:Lock)) (by rw[zmA (zaF hc).2.1];exact zfQ hok) hi2 (by rw[hlk])
     rw[hlk]at this
     exact this
    have k0:=zdp hH hI p sp ⟨(atS p).tracks,zaN (zao p (nth p.routes i)).1.asks (atS p).switches,(atS p).locks.set i ⟨(nth p.routes i).id,1,0,0⟩⟩ ⟨hsm.1,by dsimp only;rw[zbt];exact hsm.2.1,by dsimp only;rw[List.length_set];exact hsm.2.2⟩
    have e0:zav p ⟨(atS p).tracks,zaN (zao p (nth p.routes i)).1.asks (atS p).switches,(atS p).locks.set i ⟨(nth p.routes i).id,1,0,0⟩⟩=0:=by rw[hL];exact atS_set ho hi
    rw[e0]at k0
    have k9:=zdp hH hI p sp ⟨(atS p).tracks,zaN (zao p (nth p.routes i)).1.asks (atS p).switches,((atS p).locks.set i ⟨(nth p.routes i).id,1,0,0⟩).take (p.routes.length-1)⟩ ⟨hsm.1,by dsimp only;rw[zbt];exact hsm.2.1,by dsimp only;rw[List.length_take,List.length_set];have:=hsm.2.2;omega⟩
    have e9:zav p ⟨(atS p).tracks,zaN (zao p (nth p.routes i)).1.asks (atS p).switches,((atS p).locks.set i ⟨(nth p.routes i).id,1,0,0⟩).take (p.routes.length-1)⟩=8:=zkb ho fun h=>by
     have:=(zaQ (zaF h).2.1).2.2
     dsimp only at this
     rw[List.length_take,List.length_set]at this
     omega
    rw[e9]at k9
    have k8:(zao p (nth p.routes i)).1.asks≠[]→PC P inv 69 [.agg p.c,.agg (State.c ⟨(atS p).tracks,(atS p).switches,(atS p).locks.set i ⟨(nth p.routes i).id,1,0,0⟩⟩)] (·=.n 8):=fun h=>by
     have:=zdp hH hI p sp ⟨(atS p).tracks,(atS p).switches,(atS p).locks.set i ⟨(nth p.routes i).id,1,0,0⟩⟩ ⟨hsm.1,hsm.2.1,by dsimp only;rw[List.length_set];exact hsm.2.2⟩
     rw[atS_bad ho hi h]at this
     exact this
    clear hL e0 e9
    have c5:=zl1 hH ⟨(atS p).tracks,zaN (zao p (nth p.routes i)).1.asks (atS p).switches,(atS p).locks.set i ⟨(nth p.routes i).id,1,0,0⟩⟩ ⟨hsm.1,by dsimp only;rw[zbt];exact hsm.2.1,by dsimp only;rw[List.length_set];exact hsm.2.2⟩
    have hnr:=nmR_st ⟨(atS p).tracks,zaN (zao p (nth p.routes i)).1.asks (atS p).switches,(atS p).locks.set i ⟨(nth p.routes i).id,1,0,0⟩⟩
    unfold stV stR at c5
    unfold stR at hnr
    dsimp only at c5 hnr
    generalize (zao p (nth p.routes i)).1=w at *
    generalize (nth p.routes i).id=rid at *
    clear hc hok ho c2 hsm
    generalize atS p=S at *
    obtain ⟨St,Sw,Sl⟩:=S
    dsimp only at *
    have hll:Sl.length=p.routes.length:=hl.2.2
    have lkp:(nth Sl i).id=rid∧(nth Sl i).gone=0∧(nth Sl i).left=0:=by rw[hlk];exact ⟨rfl,rfl,rfl⟩
    obtain ⟨lk1,lk2,lk3⟩:=lkp
    rw[lk1]at c4
    refine zae (F:=cd61) (hH.has _ _ rfl) (Nat.le_of_ble_eq_true rfl) fun w0 M Q hM hQ hR=>?_;have hE:=hH.callable;dsimp only[cd61,qm,ql,qf,qi,qb,qc,qp,qv,qN,qT,qF,qt]at hQ ⊢
    repeat' (first|refine zaa [0,1,2,4,5,6,7,8,9,10,11,12,13,14,15,16,17,18,25,33,51,63,71,76,88,96,105,119,134,139,146,161] fun K hK=>?_|refine AWp.block ?_|(refine hK.go ?_;clear hK K)|refine Cont.go (by assumption) ?_|(refine cnd2 rfl (fun h=>?_) (fun h=>?_)<;>(try first|exact h.elim|obtain rfl:(_:Bool)=true:=h|obtain rfl:(_:Bool)=false:=h)<;>first|(exfalso;omega)|skip)|((first|refine AWp.reg hE hM ?_|refine AWp.regd hE hM ?_|refine AWp.ret ?_|refine AWp.skip ?_|refine AWp.exit ?_|(refine pk2 (fun h=>?_) (fun h=>?_)<;>(try first|exact h.elim|obtain rfl:(_:Bool)=true:=h|obtain rfl:(_:Bool)=false:=h))|refine zab (fun h=>?_) ?_|refine zad hM (c0) ?_|refine zad hM (c1) ?_|refine PO.callK hM ( c3) ?_|(refine hQ _ _ _ rfl ?_;clear hQ hR hE hM)|(refine hR _ _ (hQ _ _ _ rfl ?_);clear hQ hR hE hM)|(refine zaf ?_ ?_;focus first|omega|(refine zac ?_;(refine no_implicit_lambda% (st ?_);try with_reducible exact True.intro);done)))<;>try (refine no_implicit_lambda% (st ?_);try with_reducible exact True.intro)))
    all_goals first|(exfalso;contradiction)|skip
    refine zai (ι:=Nat) [1,2,4,5,6,8] (fun zz=>[(8,.n zz)]) (fun zz=>[]) (fun zz=>zz≤p.sections.length) (fun zz=>p.sections.length-zz) (0) (Nat.zero_le _) (by (try dsimp only);(refine no_implicit_lambda% (st ?_);try with_reducible exact True.intro)<;>first|omega|(simp;done)) (by (try dsimp only);(refine no_implicit_lambda% (st ?_);try with_reducible exact True.intro)<;>first|omega|(simp;done)) ?_;rintro k hk;(try dsimp only at hk ⊢);rcases Nat.lt_or_ge k p.sections.length with hlt|hge
    ·have d1:=hS k hlt
     repeat' (first|refine zaa [0,1,2,4,5,6,7,8,9,10,11,12,13,14,15,16,17,18,25,33,51,63,71,76,88,96,105,119,134,139,146,161] fun K hK=>?_|refine AWp.block ?_|(refine hK.go ?_;clear hK K)|refine Cont.go (by assumption) ?_|(refine cnd2 rfl (fun h=>?_) (fun h=>?_)<;>(try first|exact h.elim|obtain rfl:(_:Bool)=true:=h|obtain rfl:(_:Bool)=false:=h)<;>first|(exfalso;omega)|skip)|((first|refine AWp.reg hE hM ?_|refine AWp.regd hE hM ?_|refine AWp.ret ?_|refine AWp.skip ?_|refine AWp.exit ?_|(refine pk2 (fun h=>?_) (fun h=>?_)<;>(try first|exact h.elim|obtain rfl:(_:Bool)=true:=h|obtain rfl:(_:Bool)=false:=h))|refine zab (fun h=>?_) ?_|(refine zat hM 4 ( d1) ?_ rfl ?_;(focus ((refine no_implicit_lambda% (st ?_);try with_reducible exact True.intro)<;>fail)))|(refine hQ _ _ _ rfl ?_;clear hQ hR hE hM)|(refine hR _ _ (hQ _ _ _ rfl ?_);clear hQ hR hE hM)|(refine zaf ?_ ?_;focus first|omega|(refine zac ?_;(refine no_implicit_lambda% (st ?_);try with_reducible exact True.intro);done)))<;>try (refine no_implicit_lambda% (st ?_);try with_reducible exact True.intro)))
     all_goals first|(exfalso;contradiction)|exact ⟨k+1,by omega,by omega,by omega⟩
    ·repeat' (first|refine zaa [0,1,2,4,5,6,7,8,9,10,11,12,13,14,15,16,17,18,25,33,51,63,71,76,88,96,105,119,134,139,146,161] fun K hK=>?_|refine AWp.block ?_|(refine hK.go ?_;clear hK K)|refine Cont.go (by assumption) ?_|(refine cnd2 rfl (fun h=>?_) (fun h=>?_)<;>(try first|exact h.elim|obtain rfl:(_:Bool)=true:=h|obtain rfl:(_:Bool)=false:=h)<;>first|(exfalso;omega)|skip)|((first|refine AWp.reg hE hM ?_|refine AWp.regd hE hM ?_|refine AWp.ret ?_|refine AWp.skip ?_|refine AWp.exit ?_|(refine pk2 (fun h=>?_) (fun h=>?_)<;>(try first|exact h.elim|obtain rfl:(_:Bool)=true:=h|obtain rfl:(_:Bool)=false:=h))|refine zab (fun h=>?_) ?_|(refine hQ _ _ _ rfl ?_;clear hQ hR hE hM)|(refine hR _ _ (hQ _ _ _ rfl ?_);clear hQ hR hE hM)|(refine zaf ?_ ?_;focus first|omega|(refine zac ?_;(refine no_implicit_lambda% (st ?_);try with_reducible exact True.intro);done)))<;>try (refine no_implicit_lambda% (st ?_);try with_reducible exact True.intro)))
     refine zai (ι:=Nat) [1,2,4,5,6,11] (fun zz=>[(11,.n zz)]) (fun zz=>[]) (fun zz=>zz≤p.points.length) (fun zz=>p.points.length-zz) (0) (Nat.zero_le _) (by (try dsimp only);(refine no_implicit_lambda% (st ?_);try with_reducible exact True.intro)<;>first|omega|(simp;done)) (by (try dsimp only);(refine no_implicit_lambda% (st ?_);try with_reducible exact True.intro)<;>first|omega|(simp;done)) ?_;rintro k hk;(try dsimp only at hk ⊢);rcases Nat.lt_or_ge k p.points.length with hlt|hge
     ·have d1:=hA k hlt
      repeat' (first|refine zaa [0,1,2,4,5,6,7,8,9,10,11,12,13,14,15,16,17,18,25,33,51,63,71,76,88,96,105,119,134,139,146,161] fun K hK=>?_|refine AWp.block ?_|(refine hK.go ?_;clear hK K)|refine Cont.go (by assumption) ?_|(refine cnd2 rfl (fun h=>?_) (fun h=>?_)<;>(try first|exact h.elim|obtain rfl:(_:Bool)=true:=h|obtain rfl:(_:Bool)=false:=h)<;>first|(exfalso;omega)|skip)|((first|refine AWp.reg hE hM ?_|refine AWp.regd hE hM ?_|refine AWp.ret ?_|refine AWp.skip ?_|refine AWp.exit ?_|(refine pk2 (fun h=>?_) (fun h=>?_)<;>(try first|exact h.elim|obtain rfl:(_:Bool)=true:=h|obtain rfl:(_:Bool)=false:=h))|refine zab (fun h=>?_) ?_|(refine zat hM 4 ( d1) ?_ rfl ?_;(focus ((refine no_implicit_lambda% (st ?_);try with_reducible exact True.intro)<;>fail)))|(refine hQ _ _ _ rfl ?_;clear hQ hR hE hM)|(refine hR _ _ (hQ _ _ _ rfl ?_);clear hQ hR hE hM)|(refine zaf ?_ ?_;focus first|omega|(refine zac ?_;(refine no_implicit_lambda% (st ?_);try with_reducible exact True.intro);done)))<;>try (refine no_implicit_lambda% (st ?_);try with_reducible exact True.intro)))
      all_goals first|(exfalso;contradiction)|exact ⟨k+1,by omega,by omega,by omega⟩
     ·clear hS hA
      have hn1:((p.routes.length:Int)-1).toNat=p.routes.length-1:=by omega
      have hn2:(p.routes.length-1)*4≤p.routes.length*4:=by omega
      have f2:zbr 4 p.routes.length ((Sl.set i ⟨rid,1,0,0⟩).map Lock.c).flatten=(Sl.set i ⟨rid,1,0,0⟩).map Lock.c:=by
       have:=zbX (c:=Lock.c) (Sl.set i ⟨rid,1,0,0⟩)
       rw[List.length_set,hll]at this
       exact this
      by_cases hne:w.asks=[]
      ·have hz:w.asks.length=0:=by rw[hne];rfl
       repeat' (first|refine zaa [0,1,2,4,5,6,7,8,9,10,11,12,13,14,15,16,17,18,25,33,51,63,71,76,88,96,105,119,134,139,146,161] fun K hK=>?_|refine AWp.block ?_|(refine hK.go ?_;clear hK K)|refine Cont.go (by assumption) ?_|(refine cnd2 rfl (fun h=>?_) (fun h=>?_)<;>(try first|exact h.elim|obtain rfl:(_:Bool)=true:=h|obtain rfl:(_:Bool)=false:=h)<;>first|(exfalso;omega)|skip)|((first|refine AWp.reg hE hM ?_|refine AWp.regd hE hM ?_|refine AWp.ret ?_|refine AWp.skip ?_|refine AWp.exit ?_|(refine pk2 (fun h=>?_) (fun h=>?_)<;>(try first|exact h.elim|obtain rfl:(_:Bool)=true:=h|obtain rfl:(_:Bool)=false:=h))|refine zab (fun h=>?_) ?_|refine zfA hM ( c4) ?_|(refine hQ _ _ _ rfl ?_;clear hQ hR hE hM)|(refine hR _ _ (hQ _ _ _ rfl ?_);clear hQ hR hE hM)|(refine zaf ?_ ?_;focus first|omega|(refine zac ?_;(refine no_implicit_lambda% (st ?_);try with_reducible exact True.intro);done)))<;>try simp -dsimp -implicitDefEqProofs (disch:=omega) only[go_sem,reduceIte,↓reduceIte,Nat.reduceEqDiff,Nat.reduceLT,Nat.reduceLeDiff,Nat.reduceAdd,Nat.reduceSub,Nat.reduceMul,Int.reduceToNat,Int.reduceLT,Int.reduceLE,Int.reduceEq,Int.reduceNeg,Int.reduceNe,reduceCtorEq,zjD hi2,zjC hi2,lk1,lk2,lk3,hll,hz]))
       all_goals first|(exfalso;contradiction)|(exfalso;omega)|skip
       refine zai (ι:=Nat) [2,4,5,6,14,16] (fun zz=>[(16,.n zz)]) (fun zz=>[(4,.cells ((zaN (w.asks.take zz) Sw).map Switch.c).flatten (decide (0<Sw.length)))]) (fun zz=>zz≤w.asks.length) (fun zz=>w.asks.length-zz) (0) (Nat.zero_le _) (by (try dsimp only);(refine no_implicit_lambda% (st ?_);try with_reducible exact True.intro)<;>first|omega|(simp;done)) (by (try dsimp only);(refine no_implicit_lambda% (st ?_);try with_reducible exact True.intro)<;>first|omega|(simp;done)) ?_;rintro k2 hk;(try dsimp only at hk ⊢);rcases Nat.lt_or_ge k2 w.asks.length with hlt|hge
       ·exact absurd hlt (by omega)
       ·rw[List.take_of_length_le (by omega)]
        have hcl:=zbt w.asks Sw
        have f1:zbr 3 Sw.length ((zaN w.asks Sw).map Switch.c).flatten=(zaN w.asks Sw).map Switch.c:=by
         have:=zbX (c:=Switch.c) (zaN w.asks Sw)
         rw[hcl]at this
         exact this
        have f3:=zkz (c:=Lock.c) (Sl.set i ⟨rid,1,0,0⟩) (p.routes.length-1) (by rw[List.length_set];omega)
        repeat' (first|refine zaa [0,1,2,4,5,6,7,8,9,10,11,12,13,14,15,16,17,18,25,33,51,63,71,76,88,96,105,119,134,139,146,161] fun K hK=>?_|refine AWp.block ?_|(refine hK.go ?_;clear hK K)|refine Cont.go (by assumption) ?_|(refine cnd2 rfl (fun h=>?_) (fun h=>?_)<;>(try first|exact h.elim|obtain rfl:(_:Bool)=true:=h|obtain rfl:(_:Bool)=false:=h)<;>first|(exfalso;omega)|skip)|((first|refine AWp.reg hE hM ?_|refine AWp.regd hE hM ?_|refine AWp.ret ?_|refine AWp.skip ?_|refine AWp.exit ?_|(refine pk2 (fun h=>?_) (fun h=>?_)<;>(try first|exact h.elim|obtain rfl:(_:Bool)=true:=h|obtain rfl:(_:Bool)=false:=h))|refine zab (fun h=>?_) ?_|(refine zat hM 4 ( k0) ?_ rfl ?_;(focus (simp -dsimp -implicitDefEqProofs (disch:=omega) only[go_sem,reduceIte,↓reduceIte,Nat.reduceEqDiff,Nat.reduceLT,Nat.reduceLeDiff,Nat.reduceAdd,Nat.reduceSub,Nat.reduceMul,Int.reduceToNat,Int.reduceLT,Int.reduceLE,Int.reduceEq,Int.reduceNeg,Int.reduceNe,reduceCtorEq,hn1,hn2,hll,hcl,f1,f2,f3]<;>fail)))|(refine zat hM 4 ( k9) ?_ rfl ?_;(focus (simp -dsimp -implicitDefEqProofs (disch:=omega) only[go_sem,reduceIte,↓reduceIte,Nat.reduceEqDiff,Nat.reduceLT,Nat.reduceLeDiff,Nat.reduceAdd,Nat.reduceSub,Nat.reduceMul,Int.reduceToNat,Int.reduceLT,Int.reduceLE,Int.reduceEq,Int.reduceNeg,Int.reduceNe,reduceCtorEq,hn1,hn2,hll,hcl,f1,f2,f3]<;>fail)))|(refine zkK hM 4 ( c5) ?_ rfl (by assumption) ?_;(focus (simp -dsimp -implicitDefEqProofs (disch:=omega) only[go_sem,reduceIte,↓reduceIte,Nat.reduceEqDiff,Nat.reduceLT,Nat.reduceLeDiff,Nat.reduceAdd,Nat.reduceSub,Nat.reduceMul,Int.reduceToNat,Int.reduceLT,Int.reduceLE,Int.reduceEq,Int.reduceNeg,Int.reduceNe,reduceCtorEq,hn1,hn2,hll,hcl,f1,f2,f3]<;>fail)))|(refine hQ _ _ _ rfl ?_;clear hQ hR hE hM)|(refine hR _ _ (hQ _ _ _ rfl ?_);clear hQ hR hE hM)|(refine zaf ?_ ?_;focus first|omega|(refine zac ?_;(refine no_implicit_lambda% (st ?_);try with_reducible exact True.intro);done)))<;>try simp -dsimp -implicitDefEqProofs (disch:=omega) only[go_sem,reduceIte,↓reduceIte,Nat.reduceEqDiff,Nat.reduceLT,Nat.reduceLeDiff,Nat.reduceAdd,Nat.reduceSub,Nat.reduceMul,Int.reduceToNat,Int.reduceLT,Int.reduceLE,Int.reduceEq,Int.reduceNeg,Int.reduceNe,reduceCtorEq,hn1,hn2,hll,hcl,f1,f2,f3]))
        all_goals first|rfl|(exfalso;contradiction)|(exfalso;omega)|trace_state
      ·have k8:=k8 hne
       have hz:decide ((0:Int)<w.asks.length)=true:=decide_eq_true (by have:=List.length_pos_iff.2 hne;omega)
       repeat' (first|refine zaa [0,1,2,4,5,6,7,8,9,10,11,12,13,14,15,16,17,18,25,33,51,63,71,76,88,96,105,119,134,139,146,161] fun K hK=>?_|refine AWp.block ?_|(refine hK.go ?_;clear hK K)|refine Cont.go (by assumption) ?_|(refine cnd2 rfl (fun h=>?_) (fun h=>?_)<;>(try first|exact h.elim|obtain rfl:(_:Bool)=true:=h|obtain rfl:(_:Bool)=false:=h)<;>first|(exfalso;omega)|skip)|((first|refine AWp.reg hE hM ?_|refine AWp.regd hE hM ?_|refine AWp.ret ?_|refine AWp.skip ?_|refine AWp.exit ?_|(refine pk2 (fun h=>?_) (fun h=>?_)<;>(try first|exact h.elim|obtain rfl:(_:Bool)=true:=h|obtain rfl:(_:Bool)=false:=h))|refine zab (fun h=>?_) ?_|refine zfA hM ( c4) ?_|(refine zat hM 4 ( k8) ?_ rfl ?_;(focus (simp -dsimp -implicitDefEqProofs (disch:=omega) only[go_sem,reduceIte,↓reduceIte,Nat.reduceEqDiff,Nat.reduceLT,Nat.reduceLeDiff,Nat.reduceAdd,Nat.reduceSub,Nat.reduceMul,Int.reduceToNat,Int.reduceLT,Int.reduceLE,Int.reduceEq,Int.reduceNeg,Int.reduceNe,reduceCtorEq,zjD hi2,zjC hi2,lk1,lk2,lk3,hll,hz,f2]<;>fail)))|(refine hQ _ _ _ rfl ?_;clear hQ hR hE hM)|(refine hR _ _ (hQ _ _ _ rfl ?_);clear hQ hR hE hM)|(refine zaf ?_ ?_;focus first|omega|(refine zac ?_;(refine no_implicit_lambda% (st ?_);try with_reducible exact True.intro);done)))<;>try simp -dsimp -implicitDefEqProofs (disch:=omega) only[go_sem,reduceIte,↓reduceIte,Nat.reduceEqDiff,Nat.reduceLT,Nat.reduceLeDiff,Nat.reduceAdd,Nat.reduceSub,Nat.reduceMul,Int.reduceToNat,Int.reduceLT,Int.reduceLE,Int.reduceEq,Int.reduceNeg,Int.reduceNe,reduceCtorEq,zjD hi2,zjC hi2,lk1,lk2,lk3,hll,hz,f2]))
       all_goals first|(exfalso;contradiction)|(exfalso;omega)|skip
       refine zai (ι:=Nat) [2,4,5,6,14,16] (fun zz=>[(16,.n zz)]) (fun zz=>[(4,.cells ((zaN (w.asks.take zz) Sw).map Switch.c).flatten (decide (0<Sw.length)))]) (fun zz=>zz≤w.asks.length) (fun zz=>w.asks.length-zz) (0) (Nat.zero_le _) (by (try dsimp only);(refine no_implicit_lambda% (st ?_);try with_reducible exact True.intro)<;>first|omega|(simp;done)) (by (try dsimp only);(refine no_implicit_lambda% (st ?_);try with_reducible exact True.intro)<;>first|omega|(simp;done)) ?_;rintro k2 hk;(try dsimp only at hk ⊢);rcases Nat.lt_or_ge k2 w.asks.length with hlt|hge
       ·have hcl:=zbt (w.asks.take k2) Sw
        repeat' (first|refine zaa [0,1,2,4,5,6,7,8,9,10,11,12,13,14,15,16,17,18,25,33,51,63,71,76,88,96,105,119,134,139,146,161] fun K hK=>?_|refine AWp.block ?_|(refine hK.go ?_;clear hK K)|refine Cont.go (by assumption) ?_|(refine cnd2 rfl (fun h=>?_) (fun h=>?_)<;>(try first|exact h.elim|obtain rfl:(_:Bool)=true:=h|obtain rfl:(_:Bool)=false:=h)<;>first|(exfalso;omega)|skip)|((first|refine AWp.reg hE hM ?_|refine AWp.regd hE hM ?_|refine AWp.ret ?_|refine AWp.skip ?_|refine AWp.exit ?_|(refine pk2 (fun h=>?_) (fun h=>?_)<;>(try first|exact h.elim|obtain rfl:(_:Bool)=true:=h|obtain rfl:(_:Bool)=false:=h))|refine zab (fun h=>?_) ?_|(refine hQ _ _ _ rfl ?_;clear hQ hR hE hM)|(refine hR _ _ (hQ _ _ _ rfl ?_);clear hQ hR hE hM)|(refine zaf ?_ ?_;focus first|omega|(refine zac ?_;(refine no_implicit_lambda% (st ?_);try with_reducible exact True.intro);done)))<;>try simp -dsimp -implicitDefEqProofs (disch:=omega) only[go_sem,reduceIte,↓reduceIte,Nat.reduceEqDiff,Nat.reduceLT,Nat.reduceLeDiff,Nat.reduceAdd,Nat.reduceSub,Nat.reduceMul,Int.reduceToNat,Int.reduceLT,Int.reduceLE,Int.reduceEq,Int.reduceNeg,Int.reduceNe,reduceCtorEq,hll]))
        refine zai (ι:=Nat) [2,4,5,6,14,16,17] (fun zz=>[(17,.n zz)]) (fun zz=>[(4,.cells ((zi8 (zca (nth w.asks k2)) zz (zaN (w.asks.take k2) Sw)).map Switch.c).flatten (decide (0<Sw.length)))]) (fun zz=>zz≤Sw.length) (fun zz=>Sw.length-zz) (0) (Nat.zero_le _) (by (try dsimp only);(refine no_implicit_lambda% (st ?_);try with_reducible exact True.intro)<;>first|omega|(simp;done)) (by (try dsimp only);(refine no_implicit_lambda% (st ?_);try with_reducible exact True.intro)<;>first|omega|(simp;done)) ?_;rintro j hk;(try dsimp only at hk ⊢);rcases Nat.lt_or_ge j Sw.length with hlt|hge
        ·have hj:j<(zaN (w.asks.take k2) Sw).length:=by omega
         have e1:=zj4 (zca (nth w.asks k2)) hj
         have en:=zj5 (zca (nth w.asks k2)) hj
         have hlU:(zi8 (zca (nth w.asks k2)) j (zaN (w.asks.take k2) Sw)).length=Sw.length:=by rw[zfm];exact hcl
         have eid:=updI_id (zca (nth w.asks k2)) hj
         generalize hX:nth (zaN (w.asks.take k2) Sw) j=X at *
         generalize hU:zi8 (zca (nth w.asks k2)) j (zaN (w.asks.take k2) Sw)=U at *
         have hg0:=fget0 (c:=Switch.c) (l:=U) (k:=j) (by omega) (by omega)
         rw[en]at hg0
         by_cases hid:X.id=(nth w.asks k2).pnt
         ·have ex:zca (nth w.asks k2) j X=⟨X.id,X.lie,(nth w.asks k2).lie⟩:=by unfold zca;rw[if_pos hid]
          have e2:=zhO (c:=Switch.c) (l:=U) (k:=j) (i:=2) (by omega) (by omega) (.i .i64 (nth w.asks k2).lie) (zca (nth w.asks k2) j X) (by rw[en,ex];rfl)
          rw[e1]at e2
          have hd:decide (X.id=(nth w.asks k2).pnt)=true:=decide_eq_true hid
          repeat' (first|refine zaa [0,1,2,4,5,6,7,8,9,10,11,12,13,14,15,16,17,18,25,33,51,63,71,76,88,96,105,119,134,139,146,161] fun K hK=>?_|refine AWp.block ?_|(refine hK.go ?_;clear hK K)|refine Cont.go (by assumption) ?_|(refine cnd2 rfl (fun h=>?_) (fun h=>?_)<;>(try first|exact h.elim|obtain rfl:(_:Bool)=true:=h|obtain rfl:(_:Bool)=false:=h)<;>first|(exfalso;omega)|skip)|((first|refine AWp.reg hE hM ?_|refine AWp.regd hE hM ?_|refine AWp.ret ?_|refine AWp.skip ?_|refine AWp.exit ?_|(refine pk2 (fun h=>?_) (fun h=>?_)<;>(try first|exact h.elim|obtain rfl:(_:Bool)=true:=h|obtain rfl:(_:Bool)=false:=h))|refine zab (fun h=>?_) ?_|(refine hQ _ _ _ rfl ?_;clear hQ hR hE hM)|(refine hR _ _ (hQ _ _ _ rfl ?_);clear hQ hR hE hM)|(refine zaf ?_ ?_;focus first|omega|(refine zac ?_;(refine no_implicit_lambda% (st ?_);try with_reducible exact True.intro);done)))<;>try simp -dsimp -implicitDefEqProofs (disch:=omega) only[go_sem,reduceIte,↓reduceIte,Nat.reduceEqDiff,Nat.reduceLT,Nat.reduceLeDiff,Nat.reduceAdd,Nat.reduceSub,Nat.reduceMul,Int.reduceToNat,Int.reduceLT,Int.reduceLE,Int.reduceEq,Int.reduceNeg,Int.reduceNe,reduceCtorEq,hg0,e2,hd,hlU,hll]))
          all_goals first|(exfalso;contradiction)|exact ⟨j+1,by omega,by omega,by omega,rfl⟩|trace_state
         ·have hd:decide (X.id=(nth w.asks k2).pnt)=false:=decide_eq_false hid
          have eid:=eid (by unfold zca;rw[if_neg hid])
          repeat' (first|refine zaa [0,1,2,4,5,6,7,8,9,10,11,12,13,14,15,16,17,18,25,33,51,63,71,76,88,96,105,119,134,139,146,161] fun K hK=>?_|refine AWp.block ?_|(refine hK.go ?_;clear hK K)|refine Cont.go (by assumption) ?_|(refine cnd2 rfl (fun h=>?_) (fun h=>?_)<;>(try first|exact h.elim|obtain rfl:(_:Bool)=true:=h|obtain rfl:(_:Bool)=false:=h)<;>first|(exfalso;omega)|skip)|((first|refine AWp.reg hE hM ?_|refine AWp.regd hE hM ?_|refine AWp.ret ?_|refine AWp.skip ?_|refine AWp.exit ?_|(refine pk2 (fun h=>?_) (fun h=>?_)<;>(try first|exact h.elim|obtain rfl:(_:Bool)=true:=h|obtain rfl:(_:Bool)=false:=h))|refine zab (fun h=>?_) ?_|(refine hQ _ _ _ rfl ?_;clear hQ hR hE hM)|(refine hR _ _ (hQ _ _ _ rfl ?_);clear hQ hR hE hM)|(refine zaf ?_ ?_;focus first|omega|(refine zac ?_;(refine no_implicit_lambda% (st ?_);try with_reducible exact True.intro);done)))<;>try simp -dsimp -implicitDefEqProofs (disch:=omega) only[go_sem,reduceIte,↓reduceIte,Nat.reduceEqDiff,Nat.reduceLT,Nat.reduceLeDiff,Nat.reduceAdd,Nat.reduceSub,Nat.reduceMul,Int.reduceToNat,Int.reduceLT,Int.reduceLE,Int.reduceEq,Int.reduceNeg,Int.reduceNe,reduceCtorEq,hg0,hd,hlU,hll]))
          all_goals first|(exfalso;contradiction)|exact ⟨j+1,by omega,by omega,by omega,by rw[eid]⟩|trace_state
        ·rw[updI_end _ (by omega),zjP (by omega)]
         have hcl2:=zbt (w.asks.take (k2+1)) Sw
         repeat' (first|refine zaa [0,1,2,4,5,6,7,8,9,10,11,12,13,14,15,16,17,18,25,33,51,63,71,76,88,96,105,119,134,139,146,161] fun K hK=>?_|refine AWp.block ?_|(refine hK.go ?_;clear hK K)|refine Cont.go (by assumption) ?_|(refine cnd2 rfl (fun h=>?_) (fun h=>?_)<;>(try first|exact h.elim|obtain rfl:(_:Bool)=true:=h|obtain rfl:(_:Bool)=false:=h)<;>first|(exfalso;omega)|skip)|((first|refine AWp.reg hE hM ?_|refine AWp.regd hE hM ?_|refine AWp.ret ?_|refine AWp.skip ?_|refine AWp.exit ?_|(refine pk2 (fun h=>?_) (fun h=>?_)<;>(try first|exact h.elim|obtain rfl:(_:Bool)=true:=h|obtain rfl:(_:Bool)=false:=h))|refine zab (fun h=>?_) ?_|(refine hQ _ _ _ rfl ?_;clear hQ hR hE hM)|(refine hR _ _ (hQ _ _ _ rfl ?_);clear hQ hR hE hM)|(refine zaf ?_ ?_;focus first|omega|(refine zac ?_;(refine no_implicit_lambda% (st ?_);try with_reducible exact True.intro);done)))<;>try simp -dsimp -implicitDefEqProofs (disch:=omega) only[go_sem,reduceIte,↓reduceIte,Nat.reduceEqDiff,Nat.reduceLT,Nat.reduceLeDiff,Nat.reduceAdd,Nat.reduceSub,Nat.reduceMul,Int.reduceToNat,Int.reduceLT,Int.reduceLE,Int.reduceEq,Int.reduceNeg,Int.reduceNe,reduceCtorEq,hll,hcl2]))
         all_goals first|exact ⟨k2+1,by omega,by omega,by omega,rfl⟩|trace_state
       ·rw[List.take_of_length_le (by omega)]
        have hcl:=zbt w.asks Sw
        have f1:zbr 3 Sw.length ((zaN w.asks Sw).map Switch.c).flatten=(zaN w.asks Sw).map Switch.c:=by
         have:=zbX (c:=Switch.c) (zaN w.asks Sw)
         rw[hcl]at this
         exact this
        have f3:=zkz (c:=Lock.c) (Sl.set i ⟨rid,1,0,0⟩) (p.routes.length-1) (by rw[List.length_set];omega)
        repeat' (first|refine zaa [0,1,2,4,5,6,7,8,9,10,11,12,13,14,15,16,17,18,25,33,51,63,71,76,88,96,105,119,134,139,146,161] fun K hK=>?_|refine AWp.block ?_|(refine hK.go ?_;clear hK K)|refine Cont.go (by assumption) ?_|(refine cnd2 rfl (fun h=>?_) (fun h=>?_)<;>(try first|exact h.elim|obtain rfl:(_:Bool)=true:=h|obtain rfl:(_:Bool)=false:=h)<;>first|(exfalso;omega)|skip)|((first|refine AWp.reg hE hM ?_|refine AWp.regd hE hM ?_|refine AWp.ret ?_|refine AWp.skip ?_|refine AWp.exit ?_|(refine pk2 (fun h=>?_) (fun h=>?_)<;>(try first|exact h.elim|obtain rfl:(_:Bool)=true:=h|obtain rfl:(_:Bool)=false:=h))|refine zab (fun h=>?_) ?_|(refine zat hM 4 ( k0) ?_ rfl ?_;(focus (simp -dsimp -implicitDefEqProofs (disch:=omega) only[go_sem,reduceIte,↓reduceIte,Nat.reduceEqDiff,Nat.reduceLT,Nat.reduceLeDiff,Nat.reduceAdd,Nat.reduceSub,Nat.reduceMul,Int.reduceToNat,Int.reduceLT,Int.reduceLE,Int.reduceEq,Int.reduceNeg,Int.reduceNe,reduceCtorEq,hn1,hn2,hll,hcl,f1,f2,f3]<;>fail)))|(refine zat hM 4 ( k9) ?_ rfl ?_;(focus (simp -dsimp -implicitDefEqProofs (disch:=omega) only[go_sem,reduceIte,↓reduceIte,Nat.reduceEqDiff,Nat.reduceLT,Nat.reduceLeDiff,Nat.reduceAdd,Nat.reduceSub,Nat.reduceMul,Int.reduceToNat,Int.reduceLT,Int.reduceLE,Int.reduceEq,Int.reduceNeg,Int.reduceNe,reduceCtorEq,hn1,hn2,hll,hcl,f1,f2,f3]<;>fail)))|(refine zkK hM 4 ( c5) ?_ rfl (by assumption) ?_;(focus (simp -dsimp -implicitDefEqProofs (disch:=omega) only[go_sem,reduceIte,↓reduceIte,Nat.reduceEqDiff,Nat.reduceLT,Nat.reduceLeDiff,Nat.reduceAdd,Nat.reduceSub,Nat.reduceMul,Int.reduceToNat,Int.reduceLT,Int.reduceLE,Int.reduceEq,Int.reduceNeg,Int.reduceNe,reduceCtorEq,hn1,hn2,hll,hcl,f1,f2,f3]<;>fail)))|(refine hQ _ _ _ rfl ?_;clear hQ hR hE hM)|(refine hR _ _ (hQ _ _ _ rfl ?_);clear hQ hR hE hM)|(refine zaf ?_ ?_;focus first|omega|(refine zac ?_;(refine no_implicit_lambda% (st ?_);try with_reducible exact True.intro);done)))<;>try simp -dsimp -implicitDefEqProofs (disch:=omega) only[go_sem,reduceIte,↓reduceIte,Nat.reduceEqDiff,Nat.reduceLT,Nat.reduceLeDiff,Nat.reduceAdd,Nat.reduceSub,Nat.reduceMul,Int.reduceToNat,Int.reduceLT,Int.reduceLE,Int.reduceEq,Int.reduceNeg,Int.reduceNe,reduceCtorEq,hn1,hn2,hll,hcl,f1,f2,f3]))
        all_goals first|rfl|(exfalso;contradiction)|(exfalso;omega)|trace_state
   ·generalize atS p=S at *
    obtain ⟨St,Sw,Sl⟩:=S
    dsimp only at *
    refine zae (F:=cd61) (hH.has _ _ rfl) (Nat.le_of_ble_eq_true rfl) fun w0 M Q hM hQ hR=>?_;have hE:=hH.callable;dsimp only[cd61,qm,ql,qf,qi,qb,qc,qp,qv,qN,qT,qF,qt]at hQ ⊢
    repeat' (first|refine zaa [0,1,2,4,5,6,7,8,9,10,11,12,13,14,15,16,17,18,25,33,51,63,71,76,88,96,105,119,134,139,146,161] fun K hK=>?_|refine AWp.block ?_|(refine hK.go ?_;clear hK K)|refine Cont.go (by assumption) ?_|(refine cnd2 rfl (fun h=>?_) (fun h=>?_)<;>(try first|exact h.elim|obtain rfl:(_:Bool)=true:=h|obtain rfl:(_:Bool)=false:=h)<;>first|(exfalso;omega)|skip)|((first|refine AWp.reg hE hM ?_|refine AWp.regd hE hM ?_|refine AWp.ret ?_|refine AWp.skip ?_|refine AWp.exit ?_|(refine pk2 (fun h=>?_) (fun h=>?_)<;>(try first|exact h.elim|obtain rfl:(_:Bool)=true:=h|obtain rfl:(_:Bool)=false:=h))|refine zab (fun h=>?_) ?_|refine zad hM (c0) ?_|refine zad hM (c1) ?_|refine PO.callK hM ( c3) ?_|(refine hQ _ _ _ rfl ?_;clear hQ hR hE hM)|(refine hR _ _ (hQ _ _ _ rfl ?_);clear hQ hR hE hM)|(refine zaf ?_ ?_;focus first|omega|(refine zac ?_;(refine no_implicit_lambda% (st ?_);try with_reducible exact True.intro);done)))<;>try (refine no_implicit_lambda% (st ?_);try with_reducible exact True.intro)))
    all_goals first|(exfalso;contradiction)|skip
    refine zai (ι:=Nat) [1,2,4,5,6,8] (fun zz=>[(8,.n zz)]) (fun zz=>[]) (fun zz=>zz≤p.sections.length) (fun zz=>p.sections.length-zz) (0) (Nat.zero_le _) (by (try dsimp only);(refine no_implicit_lambda% (st ?_);try with_reducible exact True.intro)<;>first|omega|(simp;done)) (by (try dsimp only);(refine no_implicit_lambda% (st ?_);try with_reducible exact True.intro)<;>first|omega|(simp;done)) ?_;rintro k hk;(try dsimp only at hk ⊢);rcases Nat.lt_or_ge k p.sections.length with hlt|hge
    ·have d1:=hS k hlt
     repeat' (first|refine zaa [0,1,2,4,5,6,7,8,9,10,11,12,13,14,15,16,17,18,25,33,51,63,71,76,88,96,105,119,134,139,146,161] fun K hK=>?_|refine AWp.block ?_|(refine hK.go ?_;clear hK K)|refine Cont.go (by assumption) ?_|(refine cnd2 rfl (fun h=>?_) (fun h=>?_)<;>(try first|exact h.elim|obtain rfl:(_:Bool)=true:=h|obtain rfl:(_:Bool)=false:=h)<;>first|(exfalso;omega)|skip)|((first|refine AWp.reg hE hM ?_|refine AWp.regd hE hM ?_|refine AWp.ret ?_|refine AWp.skip ?_|refine AWp.exit ?_|(refine pk2 (fun h=>?_) (fun h=>?_)<;>(try first|exact h.elim|obtain rfl:(_:Bool)=true:=h|obtain rfl:(_:Bool)=false:=h))|refine zab (fun h=>?_) ?_|(refine zat hM 4 ( d1) ?_ rfl ?_;(focus ((refine no_implicit_lambda% (st ?_);try with_reducible exact True.intro)<;>fail)))|(refine hQ _ _ _ rfl ?_;clear hQ hR hE hM)|(refine hR _ _ (hQ _ _ _ rfl ?_);clear hQ hR hE hM)|(refine zaf ?_ ?_;focus first|omega|(refine zac ?_;(refine no_implicit_lambda% (st ?_);try with_reducible exact True.intro);done)))<;>try (refine no_implicit_lambda% (st ?_);try with_reducible exact True.intro)))
     all_goals first|(exfalso;contradiction)|exact ⟨k+1,by omega,by omega,by omega⟩|trace_state
    ·repeat' (first|refine zaa [0,1,2,4,5,6,7,8,9,10,11,12,13,14,15,16,17,18,25,33,51,63,71,76,88,96,105,119,134,139,146,161] fun K hK=>?_|refine AWp.block ?_|(refine hK.go ?_;clear hK K)|refine Cont.go (by assumption) ?_|(refine cnd2 rfl (fun h=>?_) (fun h=>?_)<;>(try first|exact h.elim|obtain rfl:(_:Bool)=true:=h|obtain rfl:(_:Bool)=false:=h)<;>first|(exfalso;omega)|skip)|((first|refine AWp.reg hE hM ?_|refine AWp.regd hE hM ?_|refine AWp.ret ?_|refine AWp.skip ?_|refine AWp.exit ?_|(refine pk2 (fun h=>?_) (fun h=>?_)<;>(try first|exact h.elim|obtain rfl:(_:Bool)=true:=h|obtain rfl:(_:Bool)=false:=h))|refine zab (fun h=>?_) ?_|(refine hQ _ _ _ rfl ?_;clear hQ hR hE hM)|(refine hR _ _ (hQ _ _ _ rfl ?_);clear hQ hR hE hM)|(refine zaf ?_ ?_;focus first|omega|(refine zac ?_;(refine no_implicit_lambda% (st ?_);try with_reducible exact True.intro);done)))<;>try (refine no_implicit_lambda% (st ?_);try with_reducible exact True.intro)))
     refine zai (ι:=Nat) [1,2,4,5,6,11] (fun zz=>[(11,.n zz)]) (fun zz=>[]) (fun zz=>zz≤p.points.length) (fun zz=>p.points.length-zz) (0) (Nat.zero_le _) (by (try dsimp only);(refine no_implicit_lambda% (st ?_);try with_reducible exact True.intro)<;>first|omega|(simp;done)) (by (try dsimp only);(refine no_implicit_lambda% (st ?_);try with_reducible exact True.intro)<;>first|omega|(simp;done)) ?_;rintro k hk;(try dsimp only at hk ⊢);rcases Nat.lt_or_ge k p.points.length with hlt|hge
     ·have d1:=hA k hlt
      repeat' (first|refine zaa [0,1,2,4,5,6,7,8,9,10,11,12,13,14,15,16,17,18,25,33,51,63,71,76,88,96,105,119,134,139,146,161] fun K hK=>?_|refine AWp.block ?_|(refine hK.go ?_;clear hK K)|refine Cont.go (by assumption) ?_|(refine cnd2 rfl (fun h=>?_) (fun h=>?_)<;>(try first|exact h.elim|obtain rfl:(_:Bool)=true:=h|obtain rfl:(_:Bool)=false:=h)<;>first|(exfalso;omega)|skip)|((first|refine AWp.reg hE hM ?_|refine AWp.regd hE hM ?_|refine AWp.ret ?_|refine AWp.skip ?_|refine AWp.exit ?_|(refine pk2 (fun h=>?_) (fun h=>?_)<;>(try first|exact h.elim|obtain rfl:(_:Bool)=true:=h|obtain rfl:(_:Bool)=false:=h))|refine zab (fun h=>?_) ?_|(refine zat hM 4 ( d1) ?_ rfl ?_;(focus ((refine no_implicit_lambda% (st ?_);try with_reducible exact True.intro)<;>fail)))|(refine hQ _ _ _ rfl ?_;clear hQ hR hE hM)|(refine hR _ _ (hQ _ _ _ rfl ?_);clear hQ hR hE hM)|(refine zaf ?_ ?_;focus first|omega|(refine zac ?_;(refine no_implicit_lambda% (st ?_);try with_reducible exact True.intro);done)))<;>try (refine no_implicit_lambda% (st ?_);try with_reducible exact True.intro)))
      all_goals first|(exfalso;contradiction)|exact ⟨k+1,by omega,by omega,by omega⟩|trace_state
     ·repeat' (first|refine zaa [0,1,2,4,5,6,7,8,9,10,11,12,13,14,15,16,17,18,25,33,51,63,71,76,88,96,105,119,134,139,146,161] fun K hK=>?_|refine AWp.block ?_|(refine hK.go ?_;clear hK K)|refine Cont.go (by assumption) ?_|(refine cnd2 rfl (fun h=>?_) (fun h=>?_)<;>(try first|exact h.elim|obtain rfl:(_:Bool)=true:=h|obtain rfl:(_:Bool)=false:=h)<;>first|(exfalso;omega)|skip)|((first|refine AWp.reg hE hM ?_|refine AWp.regd hE hM ?_|refine AWp.ret ?_|refine AWp.skip ?_|refine AWp.exit ?_|(refine pk2 (fun h=>?_) (fun h=>?_)<;>(try first|exact h.elim|obtain rfl:(_:Bool)=true:=h|obtain rfl:(_:Bool)=false:=h))|refine zab (fun h=>?_) ?_|(refine hQ _ _ _ rfl ?_;clear hQ hR hE hM)|(refine hR _ _ (hQ _ _ _ rfl ?_);clear hQ hR hE hM)|(refine zaf ?_ ?_;focus first|omega|(refine zac ?_;(refine no_implicit_lambda% (st ?_);try with_reducible exact True.intro);done)))<;>try (refine no_implicit_lambda% (st ?_);try with_reducible exact True.intro)))
      all_goals first|rfl|(exfalso;omega)|trace_state
end Go.Lev
