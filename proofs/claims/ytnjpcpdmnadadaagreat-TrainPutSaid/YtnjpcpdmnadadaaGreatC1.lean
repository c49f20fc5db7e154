/-
  A part of the engine that walks the functions' codes, and of the functions' contracts. Conditions: those that each theorem names.
-/
import Derived.Test.YtnjpcpdmnadadaaGreatL14
import Derived.IntWalk
import Derived.Laws.IdiomCopy
set_option linter.unusedSimpArgs false
set_option linter.unusedVariables false
set_option linter.unusedSectionVars false
namespace Go.Lev
open Go.Eng
theorem kept_of {a b:State} (h1:a.switches=b.switches) (h2:a.locks=b.locks):kept a b=true:=by
 have k1:∀ (l:List Switch),zaA ziB l l=true:=by
  intro l
  induction l with
  |nil=>rfl
  |cons x l ih=>simp[zaA,ih,ziB]
 have k2:∀ (l:List Lock),zaA zhF l l=true:=by
  intro l
  induction l with
  |nil=>rfl
  |cons x l ih=>simp[zaA,ih,zhF]
 unfold kept
 rw[h1,h2,k1,k2];rfl
theorem zku:∀ {l m:List Switch},zaA ziB l m=true→∀ C,zfU C l=zfU C m
 |[],[],_,_=>rfl
 |[],_::_,h,_=>by simp[zaA]at h
 |_::_,[],h,_=>by simp[zaA]at h
 |x::l,y::m,h,C=>by
  simp only[zaA,ziB,Bool.and_eq_true,decide_eq_true_eq]at h
  rw[zfU,zfU,h.1.1,h.1.2,zku h.2]
theorem zn1 (w:WayR) {a b:Lock} (h:zhF a b=true):zbN w a=zbN w b∧zb8 w a=zb8 w b∧zc4 a=zc4 b∧a.id=b.id:=by
 simp only[zhF,Bool.and_eq_true,decide_eq_true_eq]at h
 refine ⟨by unfold zbN;rw[h.1.2,h.2],by unfold zb8;rw[h.1.2], ?_,h.1.1⟩
 funext x
 unfold zc4
 rw[h.2]
theorem zhZ {a b:Lock} (h:zc4 a=zc4 b) (C:List (Int×Int)):∀ (q:List AskR) (A:List Int) (t:Bool),zdW a C q A t=zdW b C q A t
 |[],_,_=>rfl
 |x::q,A,t=>by
  rw[zdW,zdW,h,zhZ h C q,zhZ h C q]
theorem ziD (ws:List WayR) (C:List (Int×Int)):∀ {l m:List Lock},zaA zhF l m=true→∀ (i:Nat) (H A:List Int) (t:Bool),zdg ws C i l H A t=zdg ws C i m H A t
 |[],[],_,_,_,_,_=>rfl
 |[],_::_,h,_,_,_,_=>by simp[zaA]at h
 |_::_,[],h,_,_,_,_=>by simp[zaA]at h
 |x::l,y::m,h,i,H,A,t=>by
  simp only[zaA,Bool.and_eq_true]at h
  obtain ⟨h1,h2,h3,h4⟩:=zn1 (nth ws i) h.1
  rw[zdg,zdg,h1,h2,h4,zhZ h3,ziD ws C h.2]
theorem zn2 (p:Pln) {a b:State} (h:kept a b=true):zaW p a=zaW p b:=by
 simp only[kept,Bool.and_eq_true]at h
 unfold zaW
 rw[zku h.1,ziD _ _ h.2]
theorem zlg {p:Pln} {a b:State} (h:zai p a=0) (hk:kept a b=true) (hb:zao p b=true):zai p b=0:=by
 obtain ⟨h1,h2,h3⟩:=zar h
 unfold zai
 rw[if_pos h1,if_pos ⟨hb,by rw[←zn2 p hk];exact h3⟩]
theorem ziy {α:Type} [Inhabited α] (f:Nat→α→α) {l:List α} {i:Nat} (h:i<l.length):nth (l.mapIdx f) i=f i (nth l i):=by
 rw[zay (by simpa using h),zay h,List.getElem_mapIdx]
theorem img_kept (p:Pln) (s:State):kept s (imgS p s)=true:=by
 unfold kept imgS
 simp only[Bool.and_eq_true,zdl,List.length_mapIdx,true_and]
 refine ⟨fun i hi=>?_,fun i hi=>?_⟩
 ·rw[ziy _ hi];simp[ziB,imgW]
 ·rw[ziy _ hi];unfold imgK;split<;>simp[zhF]
theorem zo0 (s:State) (n v:Int):kept s (zhd s n v)=true:=kept_of rfl rfl
theorem znA {p:Pln} {s:State} {n v:Int} (h:zao p s=true) (hv:v≤2):zao p (zhd s n v)=true:=by
 unfold zao at h ⊢
 simp only[Bool.and_eq_true,zdl]at h ⊢
 unfold zhd
 simp only[zcO]
 refine ⟨⟨h.1.1,fun i hi=>?_⟩,h.2⟩
 have:=h.1.2 i hi
 unfold zeR
 rw[nthm (fun x=>if Track.id x=n then (⟨x.id,v⟩:Track) else x) hi]
 simp only[ziY,Bool.and_eq_true,decide_eq_true_eq]at this ⊢
 split
 ·exact ⟨this.1,hv⟩
 ·exact this
theorem zo1 {p:Pln} {s:State} {n v:Int} (h:zai p s=0) (hv:v≤2):zai p (zhd s n v)=0:=zlg h (zo0 s n v) (znA (zar h).2.1 hv)
end Go.Lev
namespace Go.Lev
open Go.Eng
set_option maxRecDepth 10000
set_option maxHeartbeats 4000000
variable {P:Program} {inv:Nat→Option Nat} {w0:World} {M:Nat→Prop}
theorem setT_sm {s:State} (h:SmS s) (n v:Int):SmS (zhd s n v):=⟨by unfold zhd;dsimp only;rw[zcO];exact h.1,h.2⟩
end Go.Lev
namespace Go.Lev
open Go.Eng
theorem zm1 {t:TrainD}:∀ {l:List TrainD},(za2 l).Nodup→t.secs.Nodup→(∀ n∈t.secs,n∉za2 l)→(za2 (zge l t)).Nodup
 |[],_,h2,_=>by simpa [zge,za2] using h2
 |y::r,h1,h2,h3=>by
  have e:za2 (y::r)=y.secs++za2 r:=rfl
  rw[e]at h1 h3
  rw[zdA]
  split
  ·have e2:za2 (y::zge r t)=y.secs++za2 (zge r t):=rfl
   rw[e2]
   rw[List.nodup_append]at h1
   refine List.nodup_append.2 ⟨h1.1,zm1 h1.2.1 h2 fun n hn hm=>h3 n hn (List.mem_append_right _ hm),fun a ha b hb hab=>?_⟩
   subst hab
   unfold za2 at hb
   obtain ⟨x,hx,hxa⟩:=List.mem_flatMap.1 hb
   rcases (zdM t r x).1 hx with rfl|hx
   ·exact h3 a hxa (List.mem_append_left _ ha)
   ·exact h1.2.2 a ha a (List.mem_flatMap.2 ⟨x,hx,hxa⟩) rfl
  ·have e2:za2 (t::y::r)=t.secs++(y.secs++za2 r):=rfl
   rw[e2]
   refine List.nodup_append.2 ⟨h2,h1,fun a ha b hb hab=>?_⟩
   subst hab
   exact h3 a ha hb
theorem TrsOk.ins {p:Pln} {s:State} {l:List TrainD} (h:TrsOk p s l) {t:TrainD} (h8:l.length<8) (hid:1≤t.id∧t.id≤99) (hne:∀ x∈l,x.id≠t.id) (hok:TrOk p s t) (hnd:t.secs.Nodup) (hsec:∀ n∈t.secs,n∉za2 l):TrsOk p s (zge l t) where
 len:=by rw[zjw];omega
 id:=fun x hx=>by
  rcases (zdM t l x).1 hx with rfl|hx
  ·exact hid
  ·exact h.id x hx
 may:=fun x hx=>by
  rcases (zdM t l x).1 hx with rfl|hx
  ·exact zb9.2 hok
  ·exact h.may x hx
 up:=zlT h.up hne
 own:=zm1 h.own hnd hsec
end Go.Lev
namespace Go.Lev
open Go.Eng
theorem mv1 {p:Pln} {s:State} {l:List TrainD} {n se ed:Int} (hc:ckC p s l=0):mvR p s l ⟨1,n,se,ed⟩=putR p s l ⟨1,n,se,ed⟩:=by
 unfold mvR;rw[if_pos hc,if_pos rfl]
theorem put_true {p:Pln} {s:State} {l:List TrainD} {n se ed:Int} (he:(mvR p s l ⟨1,n,se,ed⟩).1=0) :
  mvR p s l ⟨1,n,se,ed⟩=(0,zge l (zop ⟨1,n,se,ed⟩ (zaw p.sections se).1),[((zaw p.sections se).1.id,1)])∧zai p s=0 ∧
  ckC p (zhd s (zaw p.sections se).1.id 1) (zge l (zop ⟨1,n,se,ed⟩ (zaw p.sections se).1))=0∧l.length<8:=by
 by_cases hc:ckC p s l=0
 ·obtain ⟨hst,hT⟩:=(zbr p s l).1 hc
  rw[mv1 hc]at he ⊢
  unfold putR at he ⊢
  dsimp only at he ⊢
  split at he
  ·simp at he
  rename_i n1
  rw[if_neg n1]
  split at he
  ·simp at he
  rename_i n2
  rw[if_neg n2]
  split at he
  rotate_left
  ·rename_i n3;exact absurd he n3
  rename_i n3
  rw[if_pos n3]
  split at he
  ·simp at he
  rename_i n4
  rw[if_neg n4]
  split at he
  ·simp at he
  rename_i n5
  rw[if_neg n5]
  refine ⟨rfl,hst,(zbr p _ _).2 ⟨zo1 hst (by decide), ?_⟩,by omega⟩
  obtain ⟨hm,hid⟩:=zkh n3
  have ho:=zaH hst
  have hone:=((zkf _).1 ho.sec).one _ hm
  have hpt:(zaw p.sections se).1.pt=0:=by
   have h1:=(zbd ho.sec _ hm).2.2.1
   have h2:¬0<(zaw p.sections se).1.pt:=fun h=>n4 (.inl h)
   omega
  have hed:0≤ed∧ed≤1:=by
   have h1:¬ed<0:=fun h=>n4 (.inr (.inl h))
   have h2:¬1<ed:=fun h=>n4 (.inr (.inr h))
   omega
  have hno:∀ x∈l,x.id≠n:=zgW.1 (by omega)
  have hstd:stdT l (zaw p.sections se).1.id=false:=by
   cases e:stdT l (zaw p.sections se).1.id with
   |false=>rfl
   |true=>exact absurd (.inr (.inl e)) n5
  refine (hT.take _).ins (by omega) ⟨by show 1≤n;omega,by show n≤99;omega⟩ hno ?_ (by show [(zaw p.sections se).1.id].Nodup;simp) (fun x hx=>?_)
  ·refine ⟨by show 1≤1;omega,by show 1≤4;omega,by show (0:Int)≤0;decide,by show (0:Int)≤9;decide,fun i hi=>?_,fun i h0 hi=>?_, ?_,.inr ⟨rfl,rfl⟩,zmw rfl rfl⟩
   ·have h0:i=0:=by have:i<1:=hi;omega
    subst h0
    show (zaw p.sections (zaw p.sections se).1.id).2=0∧¬zdj (zhd s (zaw p.sections se).1.id 1) (zaw p.sections se).1.id=0
    exact ⟨by rw[hid];exact n3,zeN⟩
   ·have:i<1:=hi
    omega
   ·show (zbH (zaw p.sections (zaw p.sections se).1.id).1 (1-ed) ed).2=0
    rw[hid]
    refine zej.2 ⟨by rw[zcT];exact hone.2.2,by omega,by omega, ?_⟩
    unfold zbb
    rw[if_pos hpt]
    rcases (show ed=0∨ed=1 by omega) with rfl|rfl<;>decide
  ·have hx2:x=(zaw p.sections se).1.id:=List.mem_singleton.1 hx
   subst hx2
   intro h
   have h2:stdT l (zaw p.sections se).1.id=true:=by
    unfold za2 at h
    obtain ⟨t,ht,hxt⟩:=List.mem_flatMap.1 h
    exact List.any_eq_true.2 ⟨t,ht,List.any_eq_true.2 ⟨_,hxt,by simp⟩⟩
   rw[hstd]at h2
   cases h2
 ·have hm:mvR p s l ⟨1,n,se,ed⟩=(ckC p s l,[],[]):=if_neg hc
  rw[hm]at he
  exact absurd he hc
end Go.Lev
namespace Go.Lev
open Go.Eng
set_option maxRecDepth 10000
set_option maxHeartbeats 8000000
variable {P:Program} {inv:Nat→Option Nat} {w0:World} {M:Nat→Prop}
theorem f9_end (n:Int) (s:State):s.tracks.mapIdx (f9 n)=(zhd s n 1).tracks:=by
 unfold zhd zeR
 dsimp only
 refine List.ext_getElem (by simp) fun i h1 h2=>?_
 simp[f9]
theorem setT_len (s:State) (n v:Int):(zhd s n v).tracks.length=s.tracks.length:=by unfold zhd;dsimp only;rw[zcO]
theorem ck_secs' {p:Pln} {s:State} {l:List TrainD} (h:ckC p s l=0):∀ t∈l,t.secs.length≤1000:=fun t ht =>
 Nat.le_trans (zb9.1 (((zbr p s l).1 h).2.may t ht)).four (by decide)
theorem zk8 (hH:HasAll P inv) (hI:HasIds P inv) (hIn:HasIns P inv) (c0:PC P inv 212 [] (·=.b true)) (p:Pln) (hp:Pln.ok p) (s:State) (l:List TrainD) (n se ed:Int):PC P inv 380 [.agg p.c,.agg s.c,.agg (wld l),.n n,.n se,.n ed] (·=.b true):=by
 have c1:=zex hH p s l
 cases hg:(gPl p||(zgG s||gTr l)) with
 |true =>
  rw[hg]at c1
  unfold wld at *
  refine PC.fn hH cd380 fun w0 M Q hM hE hQ hR=>?_;dsimp only[cd380,qm,ql,qf,qi,qb,qc,qp,qv,qN,qT,qF,qt]at hQ ⊢
  (repeat' first|refine zaa [0,1,2,3,4,5,6,7,8,12,13,14,15,16,17,18,27,42,46,56,69] fun K hK=>?_|(refine hK.go ?_;clear hK K)|with_reducible exact wT|refine wA ?_|(refine wB (fun h=>?_) (fun h=>?_)<;>first|exact wN h|subst (h:(_:Bool)=_)|skip)|(refine wQ ?_;clear hQ hR hE hM)|refine wC c0 ?_|refine wC c1 ?_|fail)
 |false =>
  rw[hg]at c1
  simp only[Bool.or_eq_false_iff]at hg
  have hp':=sm31 hp hg.1
  have hs':=zmB hg.2.1
  obtain ⟨hl30,hls30⟩:=tr31 hg.2.2
  have hls:∀ t∈l,t.secs.length≤1000:=fun t ht=>Nat.le_trans (hls30 t ht) (by omega)
  have c2:=zbK hH hI hIn p hp' s hs' l (by omega) hls ⟨1,n,se,ed⟩ (by dsimp only;omega)
  have hX:=zjo p s l ⟨1,n,se,ed⟩
  by_cases h0:(mvR p s l ⟨1,n,se,ed⟩).1=0
  ·obtain ⟨r1,hst,hck,hl8⟩:=put_true h0
   rw[r1]at c2 hX
   clear r1 h0
   generalize (zaw p.sections se).1.id=I at *
   generalize zge l (zop ⟨1,n,se,ed⟩ (zaw p.sections se).1)=D at *
   dsimp only at hX
   have c9:=zbD hH hI p hp' (zhd s I 1) (setT_sm hs' I 1) D (by omega) (ck_secs' hck)
   rw[hck]at c9
   have hlen:=setT_len s I 1
   have hq:s.tracks.length≤1000000:=by have:=hs'.1;omega
   have hend:=f9_end I s
   have c9':PC P inv 225 [.agg p.c,.agg [.sl 2 ((zhd s I 1).tracks.map Track.c),.sl 3 (s.switches.map Switch.c),.sl 4 (s.locks.map Lock.c)],.agg (wld D)] (·=.n 0):=c9
   clear c9 hst hck
   generalize (zhd s I 1).tracks=T at *
   unfold zoj zcm MoveD.c at c2
   dsimp only[List.map,zoE]at c2
   unfold wld at *
   refine PC.fn hH cd380 fun w0 M Q hM hE hQ hR=>?_;dsimp only[cd380,qm,ql,qf,qi,qb,qc,qp,qv,qN,qT,qF,qt]at hQ ⊢
   (repeat' first|refine zaa [0,1,2,3,4,5,6,7,8,12,13,14,15,16,17,18,27,42,46,56,69] fun K hK=>?_|(refine hK.go ?_;clear hK K)|with_reducible exact wT|refine wA ?_|(refine wB (fun h=>?_) (fun h=>?_)<;>first|exact wN h|subst (h:(_:Bool)=_)|skip)|(refine wQ ?_;clear hQ hR hE hM)|refine wC c0 ?_|refine wC c1 ?_|refine wC c2 ?_|fail)
   refine zaz (ι:=Nat) [6,12,14,15,17,18] (fun z=>[(18,.n z)]) (fun z=>[(5,.cells ((zh9 (f9 I) z s.tracks).map Track.c).flatten (decide (0<s.tracks.length)))]) (fun z=>z) (s.tracks.length) (fun _=>True) (0) ?_;rintro k ⟨hk,-⟩;(try dsimp only at hk ⊢);rcases Nat.lt_or_ge k s.tracks.length with hlt|hge
   ·have e1:=zms (f9 I) hlt
    have e3:=zmt (f9 I) hlt
    have e5:((zh9 (f9 I) k s.tracks).map Track.c).flatten[k*2]?=some (.n (nth s.tracks k).id):=by
     have:=zcA (c:=Track.c) (l:=zh9 (f9 I) k s.tracks) (k:=k) (i:=0) (by rw[zdG];exact hlt) (by omega)
     rw[e3]at this
     exact this
    by_cases h7:(nth s.tracks k).id=I
    ·have e2:=zey (c:=Track.c) (l:=zh9 (f9 I) k s.tracks) (k:=k) (i:=1) (by rw[zdG];exact hlt) (by omega) (.i .u8 1) (f9 I k (nth s.tracks k)) (by rw[e3];unfold f9;rw[if_pos h7];rfl)
     rw[e1]at e2
     (have hX:=zA @e2 (zA @e5 @h7);(repeat' first|refine zaa [0,1,2,3,4,5,6,7,8,12,13,14,15,16,17,18,27,42,46,56,69] fun K hK=>?_|(refine hK.go ?_;clear hK K)|with_reducible exact wT|refine wA ?_|(refine wB (fun h=>?_) (fun h=>?_)<;>first|exact wN h|subst (h:(_:Bool)=_)|skip)|(refine wQ ?_;clear hQ hR hE hM)|fail);all_goals clear hX)
     all_goals first|(exfalso;contradiction)|exact nY (k+1) (by (try dsimp only);omega)|trace_state
    ·have e4:zh9 (f9 I) k s.tracks=zh9 (f9 I) (k+1) s.tracks:=by
      rw[←e1]
      unfold f9
      rw[if_neg h7]
      refine (List.set_getElem_self (as:=zh9 (f9 I) k s.tracks) (i:=k) (by rw[zdG];exact hlt) |>.symm.trans ?_)
      rw[←zay (by rw[zdG];exact hlt)]
      show (zh9 (f9 I) k s.tracks).set k (nth (zh9 (f9 I) k s.tracks) k)=_
      rw[e3]
      rfl
     (have hX:=@e5;(repeat' first|refine zaa [0,1,2,3,4,5,6,7,8,12,13,14,15,16,17,18,27,42,46,56,69] fun K hK=>?_|(refine hK.go ?_;clear hK K)|with_reducible exact wT|refine wA ?_|(refine wB (fun h=>?_) (fun h=>?_)<;>first|exact wN h|subst (h:(_:Bool)=_)|skip)|(refine wQ ?_;clear hQ hR hE hM)|fail);all_goals clear hX)
     all_goals first|(exfalso;contradiction)|(rw[e4];exact nY (k+1) (by (try dsimp only);omega))|trace_state
   ·rw[zmu _ hge,hend]
    have hch:zbv 2 s.tracks.length (T.map Track.c).flatten=T.map Track.c:=by rw[←hlen];exact za6 (c:=Track.c) T
    (have hX:=zA @hlen @hch;(repeat' first|refine zaa [0,1,2,3,4,5,6,7,8,12,13,14,15,16,17,18,27,42,46,56,69] fun K hK=>?_|(refine hK.go ?_;clear hK K)|with_reducible exact wT|refine wA ?_|(refine wB (fun h=>?_) (fun h=>?_)<;>first|exact wN h|subst (h:(_:Bool)=_)|skip)|(refine wQ ?_;clear hQ hR hE hM)|refine wS c9' ?_|fail);all_goals clear hX)
    all_goals first|rfl|(exfalso;contradiction)|trace_state
  ·generalize mvR p s l ⟨1,n,se,ed⟩=R at *
   obtain ⟨e,X,A⟩:=R
   dsimp only at h0
   unfold zoj zcm MoveD.c at c2
   dsimp only at c2
   unfold wld at *
   refine PC.fn hH cd380 fun w0 M Q hM hE hQ hR=>?_;dsimp only[cd380,qm,ql,qf,qi,qb,qc,qp,qv,qN,qT,qF,qt]at hQ ⊢
   (repeat' first|refine zaa [0,1,2,3,4,5,6,7,8,12,13,14,15,16,17,18,27,42,46,56,69] fun K hK=>?_|(refine hK.go ?_;clear hK K)|with_reducible exact wT|refine wA ?_|(refine wB (fun h=>?_) (fun h=>?_)<;>first|exact wN h|subst (h:(_:Bool)=_)|skip)|(refine wQ ?_;clear hQ hR hE hM)|refine wC c0 ?_|refine wC c1 ?_|refine wC c2 ?_|fail)
   all_goals first|rfl|(exfalso;contradiction)|(exfalso;omega)|trace_state
end Go.Lev
namespace Go.Lev
open Go.Eng
variable {P:Program} {inv:Nat→Option Nat}
theorem trainPut_all (hH:HasAll P inv) (hI:HasIds P inv) (hIn:HasIns P inv) (p:Pln) (hp:Pln.ok p) (s:State) (l:List TrainD) (n se ed:Int):PC P inv 380 [.agg p.c,.agg s.c,.agg (wld l),.n n,.n se,.n ed] (·=.b true):=zk8 hH hI hIn (zdD hH hI hIn) p hp s l n se ed
end Go.Lev
