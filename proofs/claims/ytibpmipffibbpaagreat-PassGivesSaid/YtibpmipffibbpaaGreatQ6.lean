/-
  A part of the engine that walks the functions' codes, and of the functions' contracts. Conditions: those that each theorem names.
-/
import Derived.Test.YtibpmipffibbpaaGreatQ5
import Derived.IntWalk
set_option linter.unusedSimpArgs false
set_option linter.unusedVariables false
set_option linter.unusedSectionVars false
namespace Go.Eng
open Go.RowKit
section
variable {P:Program} {inv:Nat→Option Nat} {w0:World} {M:Nat→Prop} {n N:Nat} {φ:AF} {σ:AS}
theorem zmo (ks:List Nat) (m:List (Nat×AV)) (A:Prop) {x y:ACode} {Q:Exit→AF→AS→Prop} (h1:AWp P inv w0 M N n x (znp (midK A (zhn m (zef ks φ)) σ) Q) φ σ) (h2:A→AWp P inv w0 M N n y Q (zhn m (zef ks φ)) σ):AWp P inv w0 M N n (.seq x y) Q φ σ :=
 AWp.seq fun K hK=>by
  refine AWp.mono ?_ h1
  intro e φ' σ' q
  cases e with
  |normal=>exact hK _ _ ((h2 q.1).sub q.2.1 q.2.2)
  |exit id=>exact q
  |goto l=>exact q
  |ret=>exact q
  |panic ch=>exact q
  |outgrown=>exact q
end
end Go.Eng
namespace Go.Eng
open Go.RowKit
def zdM {S R:Type} (body:Nat→S→(S→R)→R) (fin:S→R):Nat→Nat→S→R
 |0,_,s=>fin s
 |m+1,k,s=>body k s fun s'=>zdM body fin m (k+1) s'
section
variable {S R:Type} {body:Nat→S→(S→R)→R} {fin:S→R} {n k:Nat} {s:S}
end
mutual
def okS (g:Nat→Bool):AV→Bool
 |.agg cs=>znl g cs
 |.tup cs=>znl g cs
 |.fn _ cs=>znl g cs
 |.ptr l _ _=>g l
 |.sm l _ _ _ _=>g l
 |.i _ _=>true|.b _=>true|.v _=>true|.u=>true|.s0 _=>true|.sl _ _=>true|.ip _ _ _ _=>true|.mp _=>true|.top=>true
def znl (g:Nat→Bool):List AV→Bool
 |[]=>true
 |x::xs=>okS g x&&znl g xs
end
def okF:Nat→AS→Nat→Bool
 |0,_,_=>false
 |k+1,σ,l=>match zaC σ l with
  |some (.cells cs _)=>znl (okF k σ) cs
  |_=>false
section
variable {f f':Nat→Option (List AV)} {g:Nat→Bool} (h:∀ l,g l=true→f' l=f l)
include h
mutual
theorem znD:∀ x:AV,okS g x=true→zaQ f' x=zaQ f x
 |.agg cs,e=>by simp only[okS]at e;simp only[zaQ,zc0 cs e]
 |.tup cs,e=>by simp only[okS]at e;simp only[zaQ,zc0 cs e]
 |.fn j cs,e=>by simp only[okS]at e;simp only[zaQ,zc0 cs e]
 |.ptr l ver off,e=>by simp only[okS]at e;simp only[zaQ,h l e]
 |.sm l ver off n sz,e=>by simp only[okS]at e;simp only[zaQ,h l e]
 |.i _ _,_=>by simp only[zaQ]
 |.b _,_=>by simp only[zaQ]
 |.v _,_=>by simp only[zaQ]
 |.u,_=>by simp only[zaQ]
 |.s0 _,_=>by simp only[zaQ]
 |.sl _ _,_=>by simp only[zaQ]
 |.ip _ _ _ _,_=>by simp only[zaQ]
 |.mp _,_=>by simp only[zaQ]
 |.top,_=>by simp only[zaQ]
theorem zc0:∀ xs:List AV,znl g xs=true→zbL f' xs=zbL f xs
 |[],_=>by simp only[zbL]
 |x::xs,e=>by
  simp only[znl,Bool.and_eq_true]at e
  simp only[zbL,znD x e.1,zc0 xs e.2]
end
end
theorem zjs {σ σ':AS} (hle:SLe σ σ'):∀ (k l:Nat),okF k σ l=true→zgz k σ' l=zgz k σ l
 |0,_,e=>by simp[okF]at e
 |k+1,l,e=>by
  simp only[okF]at e
  split at e
  ·rename_i cs r hg
   simp only[zgz,hg,hle l _ hg (by intro h;cases h),zc0 (fun l=>zjs hle k l) cs e]
  ·cases e
def oks (k:Nat) (σ:List (Nat×AO)) (xs:List AV):Bool:=znl (okF k σ) xs
def ok1 (k:Nat) (σ:List (Nat×AO)) (x:AV):Bool:=okS (okF k σ) x
def okR (o:Option AO) (l:Nat) (K:List AV→Bool) (_:l=l):Bool:=match o with|some (.cells cs _)=>K cs|_=>false
theorem okR_c (cs:List AV) (r:Bool) (l:Nat) (K:List AV→Bool) (h:l=l):okR (some (.cells cs r)) l K h=K cs:=rfl
section
variable (k:Nat) (σ:List (Nat×AO))
theorem ok_i (q:IntKind) (n:Int):ok1 k σ (.i q n)=true:=by simp only[ok1,okS]
theorem ok_b (t:Bool):ok1 k σ (.b t)=true:=by simp only[ok1,okS]
theorem ok_v (x:Value):ok1 k σ (.v x)=true:=by simp only[ok1,okS]
theorem ok_u:ok1 k σ .u=true:=by simp only[ok1,okS]
theorem ok_s0 (sz:Nat):ok1 k σ (.s0 sz)=true:=by simp only[ok1,okS]
theorem ok_sl (sz:Nat) (es:List (List AV)):ok1 k σ (.sl sz es)=true:=by simp only[ok1,okS]
theorem ok_ip (sz:Nat) (es:List (List AV)) (i j:Nat):ok1 k σ (.ip sz es i j)=true:=by simp only[ok1,okS]
theorem ok_agg (cs:List AV):ok1 k σ (.agg cs)=oks k σ cs:=by simp only[ok1,okS,oks]
theorem ok_tup (cs:List AV):ok1 k σ (.tup cs)=oks k σ cs:=by simp only[ok1,okS,oks]
theorem ok_fn (j:Nat) (cs:List AV):ok1 k σ (.fn j cs)=oks k σ cs:=by simp only[ok1,okS,oks]
theorem ok_nil:oks k σ []=true:=by simp only[oks,znl]
theorem ok_cons (x:AV) (xs:List AV):oks k σ (x::xs)=(ok1 k σ x&&oks k σ xs):=by simp only[ok1,znl,oks]
theorem ok_ptr (l ver off:Nat):ok1 (k+1) σ (.ptr l ver off)=okR (zaC σ l) l (fun cs=>oks k σ cs) rfl:=by
 simp only[ok1,okS,okF,okR,oks]
theorem ok_sm (l ver off n sz:Nat):ok1 (k+1) σ (.sm l ver off n sz)=okR (zaC σ l) l (fun cs=>oks k σ cs) rfl:=by
 simp only[ok1,okS,okF,okR,oks]
end
mutual
theorem plain_ok (g:Nat→Bool):∀ x:AV,x.plain=true→okS g x=true
 |.agg cs,h=>by simp only[AV.plain]at h;simp only[okS];exact zdJ g cs h
 |.i _ _,_=>rfl|.b _,_=>rfl|.v _,_=>rfl|.sl _ _,_=>rfl|.ip _ _ _ _,_=>rfl
 |.tup _,h=>by simp[AV.plain]at h
 |.u,h=>by simp[AV.plain]at h
 |.s0 _,h=>by simp[AV.plain]at h
 |.ptr _ _ _,h=>by simp[AV.plain]at h
 |.sm _ _ _ _ _,h=>by simp[AV.plain]at h
 |.fn _ _,h=>by simp[AV.plain]at h
 |.mp _,h=>by simp[AV.plain]at h
 |.top,h=>by simp[AV.plain]at h
theorem zdJ (g:Nat→Bool):∀ xs:List AV,zaw xs=true→znl g xs=true
 |[],_=>rfl
 |x::xs,h=>by
  simp only[zaw,Bool.and_eq_true]at h
  simp only[znl,plain_ok g x h.1,zdJ g xs h.2,Bool.and_self]
end
theorem ok_flat {α:Type} {c:α→List AV} {sz:Nat} [h:Cells c sz] (k:Nat) (σ:AS) (l:List α):oks k σ (l.map c).flatten=true:=zdJ _ _ (zb3 l)
theorem ok_bmap (k:Nat) (σ:AS) (l:List Bool):oks k σ (l.map AV.b)=true:=zdJ _ _ (zea l)
theorem ok_imap (k:Nat) (σ:AS) (q:IntKind) (l:List Int):oks k σ (l.map (AV.i q))=true:=zdJ _ _ (zcu q l)
attribute [go_sem] okR_c ok_i ok_b ok_v ok_u ok_s0 ok_sl ok_ip ok_agg ok_tup ok_fn ok_nil ok_cons ok_ptr ok_sm ok_flat ok_bmap ok_imap
section
variable {P:Program} {inv:Nat→Option Nat} {w0:World} {M:Nat→Prop} {σ:AS}
theorem zpn (hM:∀ b,M b→b<w0.heap.size) (k:Nat) {j:Nat} {args args':List AV} {r:AV} (h:PC P inv j args' (·=r)) (he:zbw k σ args=args') (hok:oks k σ args=true) (hs:r.scalar=true) {K:AV→Prop} (hk:K r):PureK P inv w0 M σ j args K :=
 ⟨r,fun _ _ σ' hle=>zec hM k h (by rw[←he];exact zc0 (fun l=>zjs hle k l) args hok) hs ⟨rfl,rfl⟩,hk⟩
end
section
variable {P:Program} {inv:Nat→Option Nat} {w0:World} {M:Nat→Prop} {n N:Nat} {φ:AF} {σ:AS}
theorem zaB {x r:ACode} {Q:Exit→AF→AS→Prop} (l:Nat) (hf:zhJ x l=some r) (h:AWp P inv w0 M N n x (zf3 l (fun _ _=>False) Q) φ σ):AWp P inv w0 M N n (.scope x) Q φ σ :=
 AWp.scope l hf (fun _ _ _=>False) (AWp.mono (fun e φ' σ' q=>by
  cases e with
  |goto l'=>exact q.2.elim
  |normal=>exact q
  |exit id=>exact q
  |ret=>exact q
  |panic ch=>exact q
  |outgrown=>exact q) h) fun _ _ _ h=>h.elim
variable {l:Nat} {J:AF→AS→Prop} {Q:Exit→AF→AS→Prop}
theorem jt_ret:zf3 l J Q .ret φ σ=Q .ret φ σ:=rfl
theorem zom:zf3 l J Q .normal φ σ=Q .normal φ σ:=rfl
theorem jt_exit (i:Nat):zf3 l J Q (.exit i) φ σ=Q (.exit i) φ σ:=rfl
theorem jt_goto (l':Nat):zf3 l J Q (.goto l') φ σ=(l'=l∧J φ σ):=rfl
attribute [go_sem] jt_ret zom jt_exit jt_goto
end
section
variable {P:Program} {inv:Nat→Option Nat} {w0:World} {M:Nat→Prop} {n N:Nat} {φ:AF} {σ:AS}
theorem AWp.sqpC (ks:List Nat) {l:List GOp} {c:Opd} {u v y:ACode} {Q:Exit→AF→AS→Prop} (h:∀ K:AF→AS→Prop,Cont K (AWp P inv w0 M N n y Q)→AWp P inv w0 M N n (.seq (.reg l) (.cond c u v)) (znp (pk ks K) Q) φ σ):AWp P inv w0 M N n (.seq (.seq (.reg l) (.cond c u v)) y) Q φ σ:=zaa ks h
theorem AWp.sqpD (ks:List Nat) {k:Nat} {l:List GOp} {c:Opd} {u v y:ACode} {Q:Exit→AF→AS→Prop} (h:∀ K:AF→AS→Prop,Cont K (AWp P inv w0 M N n y Q)→AWp P inv w0 M N n (.seq (.regd k l) (.cond c u v)) (znp (pk ks K) Q) φ σ):AWp P inv w0 M N n (.seq (.seq (.regd k l) (.cond c u v)) y) Q φ σ:=zaa ks h
end
end Go.Eng
namespace Go.Lev
open Go.Eng
set_option maxRecDepth 10000
set_option maxHeartbeats 4000000
variable {P:Program} {inv:Nat→Option Nat} {w0:World} {M:Nat→Prop}
def ze1 (s:State) (n:Int):Int:=match s.tracks.find? fun t=>decide (t.id=n) with|some t=>t.is|none=>2
def zdI (p:Pln) (n:Int):Int:=match p.points.find? fun t=>decide (t.id=n) with|some t=>t.sec|none=>0
def mayC (p:Pln) (s:State) (n:Int):Int:=if zae p s=0 then (if zhR p n=true then (if nth (zaF p s).2.1 n.toNat=0 then (if ze1 s (zdI p n)=0 then 0 else 171) else 170) else 6) else zae p s
def setC (s:State) (n v:Int):State:=⟨s.tracks,zdD Switch.id n (fun t=>⟨t.id,t.lie,v⟩) s.switches,s.locks⟩
def callC (p:Pln) (s:State) (n v:Int):Int:=if zae p s=0 then (if zhR p n=true then (if v=1∨v=2 then mayC p s n else 2) else 6) else zae p s
def callR (p:Pln) (s:State) (n v:Int):State:=if callC p s n v=0 then setC s n v else State.z
theorem zi7 {α:Type} [Inhabited α] (f:α→Int) {l:List α} (hn:(l.map f).Nodup) {k:Nat} (hk:k<l.length) {n:Int} (e:f (nth l k)=n):(l.find? fun t=>decide (f t=n))=some (nth l k):=by
 subst e
 exact zll f hn (zaf hk)
theorem swt_of {p:Pln} {s:State} (h:zal p s=true) {n:Int} (hn:zhR p n=true):zk9 s n:=by
 obtain ⟨x,hx,e⟩:=List.any_eq_true.1 hn
 have e:x.id=n:=by simpa using e
 have:x.id∈s.switches.map Switch.id:=by rw[zcT h];exact List.mem_map_of_mem hx
 obtain ⟨t,ht,e2⟩:=List.mem_map.1 this
 exact ⟨t,ht,e2.trans e⟩
end Go.Lev
namespace Go.Lev
open Go.Eng
theorem ziV (n v m:Int) (hm:m≠n):∀ (l:List Switch) (C D:List (Int×Int)),zfi C m=zfi D m→zfi (zgn C (zdD Switch.id n (fun t=>⟨t.id,t.lie,v⟩) l)) m=zfi (zgn D l) m
 |[],_,_,h=>h
 |x::r,C,D,h=>by
  show zfi (zgn (zk4 C (if x.id=n then (⟨x.id,x.lie,v⟩:Switch) else x).id (if x.id=n then (⟨x.id,x.lie,v⟩:Switch) else x).call) (zdD Switch.id n (fun t=>⟨t.id,t.lie,v⟩) r)) m=zfi (zgn (zk4 D x.id x.call) r) m
  refine ziV n v m hm r _ _ ?_
  rw[ze0,ze0]
  by_cases hx:x.id=n
  ·rw[if_pos hx]
   dsimp only
   rw[if_neg (by omega),if_neg (by omega)]
   exact h
  ·rw[if_neg hx,h]
theorem zlq (s:State) {n m:Int} (v:Int) (hm:m≠n):zch (setC s n v) m=zch s m:=ziV n v m hm s.switches [] [] rfl
theorem zmB {p:Pln} {s:State} {n v:Int} (h:zal p s=true) (hv:0≤v∧v≤2):zal p (setC s n v)=true:=by
 unfold zal at h ⊢
 simp only[Bool.and_eq_true,zcZ]at h ⊢
 unfold setC
 simp only[zcn]
 refine ⟨h.1,⟨h.2.1.1,fun i hi=>?_⟩,h.2.2⟩
 have:=h.2.1.2 i hi
 unfold zdD
 rw[nthm (fun x=>if Switch.id x=n then (⟨x.id,x.lie,v⟩:Switch) else x) hi]
 simp only[ziw,zfD,Bool.and_eq_true,decide_eq_true_eq]at this ⊢
 split
 ·exact ⟨this.1,this.2.1,hv⟩
 ·exact this
theorem asl_lie {p:Pln} {s:State} (h:zae p s=0) {z:WL} (hz:z∈zof p s) {a:AskR} (ha:a∈asl z):a.lie=1∨a.lie=2:=by
 obtain ⟨i,hi,rfl⟩:=zgt h hz
 exact zoi h hi ha
theorem znL {p:Pln} {s:State} {n v:Int} (h:zae p s=0) (hn:nth (zaF p s).2.1 n.toNat=0) (hv:0≤v∧v≤2):zae p (setC s n v)=0:=by
 obtain ⟨h1,h2,h3,h4⟩:=(zfo p s).1 h
 refine (zfo p _).2 ⟨h1,zmB h2 hv,h3,fun z hz a ha=>?_⟩
 have hne:a.pnt≠n:=fun e=>by
  have h5:=ask_at h hz ha
  have h6:=asl_lie h hz ha
  rw[e,hn]at h5
  omega
 rw[zlq s v hne]
 exact h4 z hz a ha
structure MayCall (p:Pln) (s:State) (n:Int):Prop where
 st:zae p s=0
 pt:zhR p n=true
 ask:nth (zaF p s).2.1 n.toNat=0
 free:ze1 s (zdI p n)=0
theorem MayCall.code {p:Pln} {s:State} {n v:Int} (h:MayCall p s n) (hv:v=1∨v=2):zae p (setC s n v)=0:=znL h.st h.ask (by omega)
theorem zk2 {α:Type} [Inhabited α] (f:α→Int) {l:List α} (hn:(l.map f).Nodup) {i j:Nat} (hi:i<l.length) (hj:j<l.length) (e:f (nth l i)=f (nth l j)):i=j:=by
 have:=List.nodup_iff_pairwise_ne.1 hn
 rcases Nat.lt_trichotomy i j with hlt|he|hlt
 ·have:=List.pairwise_iff_getElem.1 this i j (by simpa using hi) (by simpa using hj) hlt
  simp only[List.getElem_map]at this
  rw[←zaN hi,←zaN hj]at this
  exact absurd e this
 ·exact he
 ·have:=List.pairwise_iff_getElem.1 this j i (by simpa using hj) (by simpa using hi) hlt
  simp only[List.getElem_map]at this
  rw[←zaN hi,←zaN hj]at this
  exact absurd e.symm this
theorem zfC {α:Type} [Inhabited α] {l:List α} {x:α} (h:x∈l):∃ k,k<l.length∧nth l k=x:=by
 obtain ⟨k,hk,e⟩:=List.mem_iff_getElem.1 h
 exact ⟨k,hk,by rw[zaN hk];exact e⟩
end Go.Lev
namespace Go.Lev
open Go.Eng
theorem zop {p:Pln} {s:State} (ho:OkP p) (h:zal p s=true) {k:Nat} (hk:k<s.tracks.length):ze1 s (nth s.tracks k).id=(nth s.tracks k).is:=by
 unfold ze1
 rw[zi7 Track.id (by rw[zgv h];exact zeO ho) hk rfl]
def peF (p:Pln) (s:State) (n e a g m:Int):Bool :=
 zdM (fun i _ zcK=>cond (!decide ((nth p.points i).id=n)) (zcK ())
   (cond (!decide (a=0)) (decide (e=170))
    (zdM (fun k _ next2=>cond (decide ((nth s.tracks k).id=(nth p.points i).sec)&&!decide ((nth s.tracks k).is=0)) (decide (e=171)) (next2 ()))
     (fun _=>decide (e=0)&&decide (g=0)&&decide (m=0)) s.tracks.length 0 ())))
  (fun _=>decide (e=6)) p.points.length 0 ()
def pfF (p:Pln) (s:State) (n v e a c:Int):Bool :=
 zdM (fun i (st:Bool×Int) zcK=>cond (!decide ((nth p.points i).id=n)) (zcK st)
   (zdM (fun k (fr:Bool) next2=>next2 (fr||decide ((nth s.tracks k).id=(nth p.points i).sec)&&decide ((nth s.tracks k).is=0)))
    (fun fr=>zcK (fr,(i:Int))) s.tracks.length 0 st.1))
  (fun st=>cond (!decide (decide (e=0)=(decide (0≤st.2)&&(decide (v=1)||decide (v=2))&&decide (c=0)&&decide (a=0)&&st.1))) false true) p.points.length 0 (false,-1)
end Go.Lev
namespace Go.Lev
open Go.Eng
set_option maxRecDepth 10000
set_option maxHeartbeats 4000000
variable {P:Program} {inv:Nat→Option Nat} {w0:World} {M:Nat→Prop}
theorem zoy (hH:HasAll P inv) (l:List Track) (v:Track) (hl:l.length≤1000000000):PC P inv 184 [.sl 2 (l.map Track.c),.agg v.c] (·=.n (zbn (fun x=>decide (v.id=x.id)&&decide (v.is=x.is)) 0 l)):=by
 refine PC.fn hH cd184 fun w0 M Q hM hE hQ hR=>?_;dsimp only[cd184,qm,ql,qf,qi,qb,qc,qp,qv,qN,qT,qF,qt]at hQ ⊢
 (repeat' first|refine zaa [0,1,3,4,5,7,8,9,16] fun K hK=>?_|(refine hK.go ?_;clear hK K)|with_reducible exact wT|refine wA ?_|(refine wB (fun h=>?_) (fun h=>?_)<;>first|exact wN h|subst (h:(_:Bool)=_)|skip)|(refine wQ ?_;clear hQ hR hE hM)|fail)
 refine zat (ι:=Nat) [0,3,4,7,8] (fun z=>[(8,.n z)]) (fun _=>[]) (fun z=>z) (l.length) (fun z=>(zbn (fun x=>decide (v.id=x.id)&&decide (v.is=x.is)) z (l.drop z)=zbn (fun x=>decide (v.id=x.id)&&decide (v.is=x.is)) 0 l)) (0) ?_;rintro k ⟨hk,hg⟩;(try dsimp only at hk hg ⊢);rcases Nat.lt_or_ge k l.length with hlt|hge
 ·rw[zah hlt]at hg
  rw[zbn]at hg
  cases ht:decide (v.id=(nth l k).id)&&decide (v.is=(nth l k).is) with
  |true =>
   rw[if_pos ht]at hg
   (have hX:=@ht;(repeat' first|refine zaa [0,1,3,4,5,7,8,9,16] fun K hK=>?_|(refine hK.go ?_;clear hK K)|with_reducible exact wT|refine wA ?_|(refine wB (fun h=>?_) (fun h=>?_)<;>first|exact wN h|subst (h:(_:Bool)=_)|skip)|(refine wQ ?_;clear hQ hR hE hM)|fail);all_goals clear hX)
   all_goals first|exact hg|(exfalso;contradiction)
  |false =>
   rw[if_neg (by rw[ht];simp)]at hg
   (have hX:=@ht;(repeat' first|refine zaa [0,1,3,4,5,7,8,9,16] fun K hK=>?_|(refine hK.go ?_;clear hK K)|with_reducible exact wT|refine wA ?_|(refine wB (fun h=>?_) (fun h=>?_)<;>first|exact wN h|subst (h:(_:Bool)=_)|skip)|(refine wQ ?_;clear hQ hR hE hM)|fail);all_goals clear hX)
   all_goals first|(exfalso;contradiction)|exact ⟨k+1,by omega,⟨by omega,hg⟩,by omega⟩
 ·rw[List.drop_eq_nil_of_le hge]at hg
  (repeat' first|refine zaa [0,1,3,4,5,7,8,9,16] fun K hK=>?_|(refine hK.go ?_;clear hK K)|with_reducible exact wT|refine wA ?_|(refine wB (fun h=>?_) (fun h=>?_)<;>first|exact wN h|subst (h:(_:Bool)=_)|skip)|(refine wQ ?_;clear hQ hR hE hM)|fail)
  rw[←hg];rfl
theorem zoF (hH:HasAll P inv) (l:List Track) (v:Track) (hl:l.length≤1000000000):PC P inv 176 [.sl 2 (l.map Track.c),.agg v.c] (·=.b (l.any fun x=>decide (v.id=x.id)&&decide (v.is=x.is))):=by
 have c1:=zoy hH l v hl
 have e:=zex (fun x:Track=>decide (v.id=x.id)&&decide (v.is=x.is)) l
 revert c1 e
 generalize zbn (fun x:Track=>decide (v.id=x.id)&&decide (v.is=x.is)) 0 l=i
 generalize (l.any fun x=>decide (v.id=x.id)&&decide (v.is=x.is))=t
 intro c1 e
 refine PC.fn hH cd176 fun w0 M Q hM hE hQ hR=>?_;dsimp only[cd176,qm,ql,qf,qi,qb,qc,qp,qv,qN,qT,qF,qt]at hQ ⊢
 (have hX:=@e;(repeat' first|refine zaa [0,1,3,4] fun K hK=>?_|(refine hK.go ?_;clear hK K)|with_reducible exact wT|refine wA ?_|(refine wB (fun h=>?_) (fun h=>?_)<;>first|exact wN h|subst (h:(_:Bool)=_)|skip)|(refine wQ ?_;clear hQ hR hE hM)|refine wC c1 ?_|fail);all_goals clear hX)
theorem zoG (hH:HasAll P inv) {jc:Nat} {caps:List AV} {q:Int→Bool} (l:List Int) (hc:∀ x∈l,PC P inv jc ([.n x]++caps) (·=.b (q x))) (hl:l.length≤1000000000):PC P inv 177 [.sl 1 (l.map zew),.fn jc caps] (·=.b (l.any q)):=by
 have c1:=idx_int hH l hc hl
 have e:=zex q l
 refine PC.fn hH cd177 fun w0 M Q hM hE hQ hR=>?_;dsimp only[cd177,qm,ql,qf,qi,qb,qc,qp,qv,qN,qT,qF,qt]at hQ ⊢
 (have hX:=@e;(repeat' first|refine zaa [0,1,4] fun K hK=>?_|(refine hK.go ?_;clear hK K)|with_reducible exact wT|refine wA ?_|(refine wB (fun h=>?_) (fun h=>?_)<;>first|exact wN h|subst (h:(_:Bool)=_)|skip)|(refine wQ ?_;clear hQ hR hE hM)|refine wC c1 ?_|fail);all_goals clear hX)
def frT (s:State) (n:Int):Bool:=s.tracks.any fun x=>decide (n=x.id)&&decide (0=x.is)
theorem free_pc (hH:HasAll P inv) (s:State) (hs:s.tracks.length≤1000000000) (n:Int):PC P inv 181 [.agg s.c,.n n] (·=.b (frT s n)):=by
 have c1:=zoF hH s.tracks ⟨n,0⟩ hs
 rw[show (s.tracks.any fun x=>decide ((⟨n,0⟩:Track).id=x.id)&&decide ((⟨n,0⟩:Track).is=x.is))=frT s n from rfl]at c1
 refine PC.fn hH cd181 fun w0 M Q hM hE hQ hR=>?_;dsimp only[cd181,qm,ql,qf,qi,qb,qc,qp,qv,qN,qT,qF,qt]at hQ ⊢
 (repeat' first|refine zaa [0,1,2,4] fun K hK=>?_|(refine hK.go ?_;clear hK K)|with_reducible exact wT|refine wA ?_|(refine wB (fun h=>?_) (fun h=>?_)<;>first|exact wN h|subst (h:(_:Bool)=_)|skip)|(refine wQ ?_;clear hQ hR hE hM)|refine wC c1 ?_|fail)
theorem is189_pc (hH:HasAll P inv) (n:Int) (x:Pnt):PC P inv 189 ([.agg x.c]++[.ip 1 [[.n n]] 0 0]) (·=.b (decide (x.id=n))):=by
 refine PC.fn hH cd189 fun w0 M Q hM hE hQ hR=>?_;dsimp only[cd189,qm,ql,qf,qi,qb,qc,qp,qv,qN,qT,qF,qt]at hQ ⊢
 (repeat' first|refine zaa [0,1,2,3] fun K hK=>?_|(refine hK.go ?_;clear hK K)|with_reducible exact wT|refine wA ?_|(refine wB (fun h=>?_) (fun h=>?_)<;>first|exact wN h|subst (h:(_:Bool)=_)|skip)|(refine wQ ?_;clear hQ hR hE hM)|fail)
theorem zl5 (hH:HasAll P inv) (n:Int) (x:Switch):PC P inv 183 ([.agg x.c]++[.ip 1 [[.n n]] 0 0]) (·=.b (decide (x.id=n))):=by
 refine PC.fn hH cd183 fun w0 M Q hM hE hQ hR=>?_;dsimp only[cd183,qm,ql,qf,qi,qb,qc,qp,qv,qN,qT,qF,qt]at hQ ⊢
 (repeat' first|refine zaa [0,1,2,3] fun K hK=>?_|(refine hK.go ?_;clear hK K)|with_reducible exact wT|refine wA ?_|(refine wB (fun h=>?_) (fun h=>?_)<;>first|exact wN h|subst (h:(_:Bool)=_)|skip)|(refine wQ ?_;clear hQ hR hE hM)|fail)
theorem is180_pc (hH:HasAll P inv) (n:Int) (x:Lock):PC P inv 180 ([.agg x.c]++[.ip 1 [[.n n]] 0 0]) (·=.b (decide (x.id=n))):=by
 refine PC.fn hH cd180 fun w0 M Q hM hE hQ hR=>?_;dsimp only[cd180,qm,ql,qf,qi,qb,qc,qp,qv,qN,qT,qF,qt]at hQ ⊢
 (repeat' first|refine zaa [0,1,2,3] fun K hK=>?_|(refine hK.go ?_;clear hK K)|with_reducible exact wT|refine wA ?_|(refine wB (fun h=>?_) (fun h=>?_)<;>first|exact wN h|subst (h:(_:Bool)=_)|skip)|(refine wQ ?_;clear hQ hR hE hM)|fail)
theorem lies_pc (hH:HasAll P inv) (p:Pln) (hl:p.points.length≤1000000000) {k:Nat} (hk:k<p.points.length) {n:Int} (he:zbn (fun x=>decide (Pnt.id x=n)) 0 p.points=(k:Int)):PC P inv 182 [.agg p.c,.n n] (·=.n (nth p.points k).sec):=by
 have c1:=zle hH p.points (fun x _=>is189_pc hH n x) hl
 rw[he]at c1
 refine PC.fn hH cd182 fun w0 M Q hM hE hQ hR=>?_;dsimp only[cd182,qm,ql,qf,qi,qb,qc,qp,qv,qN,qT,qF,qt]at hQ ⊢
 (repeat' first|refine zaa [0,1,2,3,4] fun K hK=>?_|(refine hK.go ?_;clear hK K)|with_reducible exact wT|refine wA ?_|(refine wB (fun h=>?_) (fun h=>?_)<;>first|exact wN h|subst (h:(_:Bool)=_)|skip)|(refine wQ ?_;clear hQ hR hE hM)|refine wS c1 ?_|fail)
theorem zo9 (hH:HasAll P inv) (s:State) (hl:s.switches.length≤1000000000) {k:Nat} (hk:k<s.switches.length) {n:Int} (he:zbn (fun x=>decide (Switch.id x=n)) 0 s.switches=(k:Int)):PC P inv 172 [.agg s.c,.n n] (·=.ip 3 (s.switches.map Switch.c) k 2):=by
 have c1:=zhh hH s.switches (fun x _=>zl5 hH n x) hl
 rw[he]at c1
 refine PC.fn hH cd172 fun w0 M Q hM hE hQ hR=>?_;dsimp only[cd172,qm,ql,qf,qi,qb,qc,qp,qv,qN,qT,qF,qt]at hQ ⊢
 (repeat' first|refine zaa [0,1,2,3,4,5] fun K hK=>?_|(refine hK.go ?_;clear hK K)|with_reducible exact wT|refine wA ?_|(refine wB (fun h=>?_) (fun h=>?_)<;>first|exact wN h|subst (h:(_:Bool)=_)|skip)|(refine wQ ?_;clear hQ hR hE hM)|refine wS c1 ?_|fail)
end Go.Lev
namespace Go.Lev
open Go.Eng
set_option maxRecDepth 10000
set_option maxHeartbeats 4000000
variable {P:Program} {inv:Nat→Option Nat} {w0:World} {M:Nat→Prop}
def zf6 (s:State) (n:Int):Int:=zbn (fun x=>decide (Lock.id x=n)) 0 s.locks
def zcW (H:List Int) (fr:Int→Bool):List Int→Int
 |[]=>0
 |x::r=>if nth H x.toNat=0 then (if fr x=true then zcW H fr r else 182) else 181
def zlu (p:Pln) (s:State) (A:List Int) (a:AskR):Bool:=decide (zch s a.pnt=a.lie)||(decide (nth A a.pnt.toNat=0)&&frT s (zdI p a.pnt))
def setE (p:Pln) (s:State) (i:Nat):Int :=
 if zcW (zaF p s).1 (frT s) ((zaj p (nth p.routes i)).1.path++(zaj p (nth p.routes i)).1.over)=0 then (if (zaj p (nth p.routes i)).1.asks.all (zlu p s (zaF p s).2.1)=true then 0 else 183)
 else zcW (zaF p s).1 (frT s) ((zaj p (nth p.routes i)).1.path++(zaj p (nth p.routes i)).1.over)
def lkC (p:Pln) (s:State) (n:Int):Int:=if zae p s=0 then (if zf6 s n<0 then 6 else if (nth s.locks (zf6 s n).toNat).phase=0 then setE p s (zf6 s n).toNat else 180) else zae p s
def lkW (p:Pln) (s:State) (n:Int):WayR:=if zae p s=0 then (if zf6 s n<0 then WayR.z else if (nth s.locks (zf6 s n).toNat).phase=0 then (zaj p (nth p.routes (zf6 s n).toNat)).1 else WayR.z) else WayR.z
def askE (ok:AskR→Bool):Int→List AskR→Int
 |e,[]=>e
 |e,a::r=>askE ok (if e=0 then (if ok a=true then 0 else 183) else e) r
theorem zlv (ok:AskR→Bool) {e:Int} (he:¬e=0):∀ l,askE ok e l=e
 |[]=>rfl
 |a::r=>by rw[askE,if_neg he];exact zlv ok he r
theorem askE_0 (ok:AskR→Bool):∀ l,askE ok 0 l=if l.all ok=true then 0 else 183
 |[]=>rfl
 |a::r=>by
  rw[askE,if_pos rfl,List.all_cons]
  cases h:ok a with
  |true=>rw[if_pos rfl,askE_0 ok r,Bool.true_and]
  |false=>rw[if_neg (by simp),zlv ok (by decide)];simp
theorem setE_ask (p:Pln) (s:State) (i:Nat):setE p s i=askE (zlu p s (zaF p s).2.1) (zcW (zaF p s).1 (frT s) ((zaj p (nth p.routes i)).1.path++(zaj p (nth p.routes i)).1.over)) (zaj p (nth p.routes i)).1.asks:=by
 unfold setE
 split
 ·rename_i h;rw[h,askE_0]
 ·rename_i h;rw[zlv _ h]
theorem zn3 {p:Pln} (h:OkP p) {k:Nat} (hk:k<p.points.length):zdI p (nth p.points k).id=(nth p.points k).sec:=by
 unfold zdI
 rw[zi7 Pnt.id (zcD h) hk rfl]
theorem zib (hH:HasAll P inv) (hI:HasIds P inv) (p:Pln) (hp:Sm p) (s:State) (hs:SmS s) (n:Int):PC P inv 171 [.agg p.c,.agg s.c,.n n] (·=.tup [.agg (lkW p s n).c,.n (lkC p s n)]):=by
 have c0:=of_pc hH hI p hp s hs
 have c1:=idx_lck hH s.locks (fun x _=>is180_pc hH n x) (by have:=hs.2.2;omega)
 have hRl:=zhc p s
 have hRe:=ziS p s
 by_cases hst:zae p s=0
 ·have hok:=zao hst
  have hpa:=(zad hst).2.1
  have hpl:=zap hpa
  have hR:ofR p s=⟨(zaF p s).1,(zaF p s).2.1,zaM p,0⟩:=by unfold ofR;rw[if_pos hst]
  rw[hR]at c0 hRl
  dsimp only at c0 hRl
  have hW:lkW p s n=if zf6 s n<0 then WayR.z else if (nth s.locks (zf6 s n).toNat).phase=0 then (zaj p (nth p.routes (zf6 s n).toNat)).1 else WayR.z:=by unfold lkW;rw[if_pos hst]
  have hC:lkC p s n=if zf6 s n<0 then 6 else if (nth s.locks (zf6 s n).toNat).phase=0 then setE p s (zf6 s n).toNat else 180:=by unfold lkC;rw[if_pos hst]
  rw[hW,hC]
  clear hW hC
  obtain ⟨G,Z,hg⟩:=zjk
  rw[←hg.eq]at c0
  have hfold:=hg.fold
  have hlen0:=hg.len (.s0 4) hg.zl hg.zl
  have hlen:=hg.len (.sl 4 ((zaM p).map Way.c)) hRl.1 hRl.2
  have hov:=hg.ov (.s0 4) (.sl 4 ((zaM p).map Way.c)) hg.zl hg.zl hRl.1 hRl.2
  have hbd0:=hg.bd0 Z Z
  have hbd:=hg.bd (zaF p s).1 (zaF p s).2.1 ((zaM p).map Way.c)
  have hba:=hg.ba (zaF p s).1 (zaF p s).2.1 ((zaM p).map Way.c)
  have hlix:zf6 s n=zbn (fun x=>decide (Lock.id x=n)) 0 s.locks:=rfl
  rcases za3 Lock.id n s.locks with ⟨h4,_⟩|⟨i,hi,h4,h5⟩
  ·rw[h4]at c1 hlix
   rw[hlix,if_pos (by decide),if_pos (by decide)]
   refine PC.fn hH cd171 fun w0 M Q hM hE hQ hR=>?_;dsimp only[cd171,qm,ql,qf,qi,qb,qc,qp,qv,qN,qT,qF,qt]at hQ ⊢
   (have hX:=zA @hfold (zA @hlen0 (zA @hlen (zA @hov (zA @hbd0 (zA @hbd @hba)))));(repeat' first|refine zaa [0,1,2,3,4,5,6,7,8,9,11,13,15,23,29,37,48,49,50,51,54,55,56,57,60,66,74,75,76,77,106,109] fun K hK=>?_|(refine hK.go ?_;clear hK K)|with_reducible exact wT|refine wA ?_|(refine wB (fun h=>?_) (fun h=>?_)<;>first|exact wN h|subst (h:(_:Bool)=_)|skip)|(refine zaB 0 rfl ?_;try (refine no_implicit_lambda% (st ?_);try with_reducible exact wT))|(refine wQ ?_;clear hQ hR hE hM)|refine wC c0 ?_|refine wS c1 ?_|fail);all_goals clear hX)
   all_goals first|rfl|(exfalso;contradiction)|skip
  ·rw[h4]at c1 hlix
   rw[hlix,if_neg (show ¬((i:Nat):Int)<0 by omega),if_neg (show ¬((i:Nat):Int)<0 by omega),Int.toNat_natCast]
   have hri:i<p.routes.length:=by omega
   have hlk:s.locks.length≤1000:=hs.2.2
   by_cases hph:(nth s.locks i).phase=0
   ·rw[if_pos hph,if_pos hph]
    have hr:=zaf hri
    have hwp:=zbG ((za0 (zad hst).1).2.1 _ hr)
    have hwl:=zcw hok hr
    have hsec:∀ m∈(zaj p (nth p.routes i)).1.path++(zaj p (nth p.routes i)).1.over,0≤m∧m≤99:=fun m hm=>by
     rw[hwp.1,hwp.2.1]at hm
     obtain ⟨q,hq,rfl⟩:=(zdi hok hr).1 m hm
     have:=zcA hok hq
     omega
    have hask:∀ k,k<(zaj p (nth p.routes i)).1.asks.length→0≤(nth (zaj p (nth p.routes i)).1.asks k).pnt∧(nth (zaj p (nth p.routes i)).1.asks k).pnt≤99 ∧
      (∃ j,j<s.switches.length∧PC P inv 172 [.agg s.c,.n (nth (zaj p (nth p.routes i)).1.asks k).pnt] (·=.ip 3 (s.switches.map Switch.c) j 2)∧(nth s.switches j).call=zch s (nth (zaj p (nth p.routes i)).1.asks k).pnt) ∧
      PC P inv 182 [.agg p.c,.n (nth (zaj p (nth p.routes i)).1.asks k).pnt] (·=.n (zdI p (nth (zaj p (nth p.routes i)).1.asks k).pnt)):=fun k hk=>by
     obtain ⟨⟨x,hx,ex⟩,hb,_⟩:=zbv hok hr (zaf hk)
     refine ⟨by omega,by omega, ?_, ?_⟩
     ·obtain ⟨y,hy,ey⟩:=swt_of hpa (n:=(nth (zaj p (nth p.routes i)).1.asks k).pnt) (List.any_eq_true.2 ⟨x,hx,by simpa using ex⟩)
      rcases za3 Switch.id (nth (zaj p (nth p.routes i)).1.asks k).pnt s.switches with ⟨_,q⟩|⟨j,hj,q1,q2⟩
      ·exact absurd ey (q y hy)
      ·exact ⟨j,hj,zo9 hH s (by have:=hs.2.1;omega) hj q1,by rw[←q2];exact (zkk hok hpa (zaf hj)).symm⟩
     ·rcases za3 Pnt.id (nth (zaj p (nth p.routes i)).1.asks k).pnt p.points with ⟨_,q⟩|⟨j,hj,q1,q2⟩
      ·exact absurd ex (q x hx)
      ·have:=lies_pc hH p (by have:=hp.pts;omega) hj q1
       rw[←zn3 hok hj,q2]at this
       exact this
    rw[setE_ask]
    have hgw:=hg.get (.sl 4 ((zaM p).map Way.c)) hRl.1 hRl.2
    have hwat:nth (zaM p) i=(zaj p (nth p.routes i)).1:=nthm _ hri
    have hwlen:(zaM p).length=p.routes.length:=by simp[zaM]
    have hfr:∀ x,PC P inv 181 [.agg s.c,.n x] (·=.b (frT s x)):=fun x=>free_pc hH s (by have:=hs.1;omega) x
    have hok2:∀ a:AskR,zlu p s (zaF p s).2.1 a=(decide (zch s a.pnt=a.lie)||(decide (nth (zaF p s).2.1 a.pnt.toNat=0)&&frT s (zdI p a.pnt))):=fun a=>rfl
    have hg1:∀ k:Nat,k<100→(G (zaF p s).1 (zaF p s).2.1 (.sl 4 ((zaM p).map Way.c)))[k]?=some (.n (nth (zaF p s).1 k)):=fun k hk=>hg.get1 _ hRl.1 hk
    have hg2:∀ k:Nat,k<100→(G (zaF p s).1 (zaF p s).2.1 (.sl 4 ((zaM p).map Way.c)))[100+k]?=some (.n (nth (zaF p s).2.1 k)):=fun k hk=>hg.get2 _ hRl.1 hRl.2 hk
    generalize (zaj p (nth p.routes i)).1=w at *
    generalize zaF p s=GR at *
    obtain ⟨H,A,B⟩:=GR
    dsimp only at *
    generalize zaM p=ws at *
    generalize zlu p s A=ok at *
    clear hwp hr hok hst hpa hR h5 hRe hg
    refine PC.fn hH cd171 fun w0 M Q hM hE hQ hR=>?_;dsimp only[cd171,qm,ql,qf,qi,qb,qc,qp,qv,qN,qT,qF,qt]at hQ ⊢
    repeat' (first|(refine zaa [0,1,2,3,4,5,6,7,8,9,11,13,15,23,29,37,48,49,50,51,54,55,56,57,60,66,74,75,76,77,106,109] fun K hK=>cnd2 rfl (fun h=>?_) (fun h=>?_)<;>(try first|exact h.elim|obtain rfl:(_:Bool)=_:=h)<;>first|(exfalso;omega)|skip)|refine AWp.sqpC [0,1,2,3,4,5,6,7,8,9,11,13,15,23,29,37,48,49,50,51,54,55,56,57,60,66,74,75,76,77,106,109] fun K hK=>?_|refine AWp.sqpD [0,1,2,3,4,5,6,7,8,9,11,13,15,23,29,37,48,49,50,51,54,55,56,57,60,66,74,75,76,77,106,109] fun K hK=>?_|refine zaa [0,1,2,3,4,5,6,7,8,9,11,13,15,23,29,37,48,49,50,51,54,55,56,57,60,66,74,75,76,77,106,109] fun K hK=>AWp.label ?_|refine AWp.block ?_|(refine hK.go ?_;clear hK K)|refine Cont.go (by assumption) ?_|(refine cnd2 rfl (fun h=>?_) (fun h=>?_)<;>(try first|exact h.elim|obtain rfl:(_:Bool)=_:=h)<;>first|(exfalso;omega)|skip)|((first|refine zaa [0,1,2,3,4,5,6,7,8,9,11,13,15,23,29,37,48,49,50,51,54,55,56,57,60,66,74,75,76,77,106,109] fun K hK=>AWp.reg hE hM ?_|refine zaa [0,1,2,3,4,5,6,7,8,9,11,13,15,23,29,37,48,49,50,51,54,55,56,57,60,66,74,75,76,77,106,109] fun K hK=>AWp.regd hE hM ?_|refine AWp.reg hE hM ?_|refine AWp.regd hE hM ?_|refine AWp.ret ?_|refine AWp.label ?_|(refine zaB 0 rfl ?_)|refine AWp.skip ?_|refine AWp.exit ?_|(refine pk2 (fun h=>?_) (fun h=>?_)<;>(try first|exact h.elim|obtain rfl:(_:Bool)=_:=h))|refine zk3 (fun h=>?_) ?_|refine zas hM (c0) ?_|(refine zec hM 4 ( c1) ?_ rfl ?_;(focus (simp -dsimp -implicitDefEqProofs (disch:=omega) only[go_sem,reduceIte,↓reduceIte,Nat.reduceEqDiff,Nat.reduceLT,Nat.reduceLeDiff,Nat.reduceAdd,Nat.reduceSub,Nat.reduceMul,Int.reduceToNat,Int.reduceLT,Int.reduceLE,Int.reduceEq,Int.reduceNeg,Int.reduceNe,reduceCtorEq,hfold,hlen0,hlen,hov,hbd0,hbd,hba,hgw,hwat]<;>fail)))|(refine hQ _ _ _ rfl ?_;clear hQ hR hE hM)|(refine hR _ _ (hQ _ _ _ rfl ?_);clear hQ hR hE hM)|(refine ob_mk ?_ ?_;focus first|omega|(refine zpl ?_;(refine no_implicit_lambda% (st ?_);try with_reducible exact wT);done)))<;>try simp -dsimp -implicitDefEqProofs (disch:=omega) only[go_sem,reduceIte,↓reduceIte,Nat.reduceEqDiff,Nat.reduceLT,Nat.reduceLeDiff,Nat.reduceAdd,Nat.reduceSub,Nat.reduceMul,Int.reduceToNat,Int.reduceLT,Int.reduceLE,Int.reduceEq,Int.reduceNeg,Int.reduceNe,reduceCtorEq,hfold,hlen0,hlen,hov,hbd0,hbd,hba,hgw,hwat]))
    refine zmo [3,4,6,8] [(7,.n (zcW H (frT s) (w.path++w.over)))] (True) ?_ fun hmid=>?_
    ·(have hX:=zA @hfold (zA @hlen0 (zA @hlen (zA @hov (zA @hbd0 (zA @hbd @hba)))));(repeat' first|refine zaa [0,1,2,3,4,5,6,7,8,9,11,13,15,23,29,37,48,49,50,51,54,55,56,57,60,66,74,75,76,77,106,109] fun K hK=>?_|(refine hK.go ?_;clear hK K)|with_reducible exact wT|refine wA ?_|(refine wB (fun h=>?_) (fun h=>?_)<;>first|exact wN h|subst (h:(_:Bool)=_)|skip)|(refine zaB 0 rfl ?_;try (refine no_implicit_lambda% (st ?_);try with_reducible exact wT))|(refine wQ ?_;clear hQ hR hE hM)|fail);all_goals clear hX)
     refine zat (ι:=Nat) [3,4,6,7,8,48,49,50] (fun z=>[(50,.n z)]) (fun _=>[]) (fun z=>z) (2) (fun z=>(zcW H (frT s) ((([w.path,w.over]:List (List Int)).drop z).flatten)=zcW H (frT s) (w.path++w.over))) (0) ?_;rintro k ⟨hk,hg0⟩;(try dsimp only at hk hg0 ⊢);rcases Nat.lt_or_ge k 2 with hlt|hge
     ·have hout:=hg0
      obtain rfl|rfl:k=0∨k=1:=by omega
      ·(repeat' first|refine zaa [0,1,2,3,4,5,6,7,8,9,11,13,15,23,29,37,48,49,50,51,54,55,56,57,60,66,74,75,76,77,106,109] fun K hK=>?_|(refine hK.go ?_;clear hK K)|with_reducible exact wT|refine wA ?_|(refine wB (fun h=>?_) (fun h=>?_)<;>first|exact wN h|subst (h:(_:Bool)=_)|skip)|(refine zaB 0 rfl ?_;try (refine no_implicit_lambda% (st ?_);try with_reducible exact wT))|(refine wQ ?_;clear hQ hR hE hM)|fail)
       refine zat (ι:=Nat) [3,4,6,7,8,48,49,50,54,55,56] (fun z=>[(56,.n z)]) (fun _=>[]) (fun z=>z) (w.path.length) (fun z=>(zcW H (frT s) (w.path.drop z++w.over)=zcW H (frT s) (w.path++w.over))) (0) ?_;rintro j ⟨hk,hj⟩;(try dsimp only at hk hj ⊢);rcases Nat.lt_or_ge j w.path.length with hlt|hge
       ·have hx:=hsec (nth w.path j) (List.mem_append_left _ (zaf hlt))
        rw[zah hlt,List.cons_append,zcW]at hj
        by_cases h1:nth H (nth w.path j).toNat=0
        ·rw[if_pos h1]at hj
         have c3:=hfr (nth w.path j)
         cases hf:frT s (nth w.path j) with
         |true =>
          rw[if_pos hf]at hj
          rw[hf]at c3
          (have hX:=zA @hlen (zA @hbd (zA @hba (zA @hg1 @h1)));(repeat' first|refine zaa [0,1,2,3,4,5,6,7,8,9,11,13,15,23,29,37,48,49,50,51,54,55,56,57,60,66,74,75,76,77,106,109] fun K hK=>?_|(refine hK.go ?_;clear hK K)|with_reducible exact wT|refine wA ?_|(refine wB (fun h=>?_) (fun h=>?_)<;>first|exact wN h|subst (h:(_:Bool)=_)|skip)|(refine zaB 0 rfl ?_;try (refine no_implicit_lambda% (st ?_);try with_reducible exact wT))|(refine wQ ?_;clear hQ hR hE hM)|refine wC c3 ?_|fail);all_goals clear hX)
          all_goals first|(exfalso;contradiction)|exact ⟨j+1,by omega,⟨by omega,hj⟩,by omega⟩
         |false =>
          rw[if_neg (by rw[hf];simp)]at hj
          rw[hf]at c3
          (have hX:=zA @hlen (zA @hbd (zA @hba (zA @hg1 @h1)));(repeat' first|refine zaa [0,1,2,3,4,5,6,7,8,9,11,13,15,23,29,37,48,49,50,51,54,55,56,57,60,66,74,75,76,77,106,109] fun K hK=>?_|(refine hK.go ?_;clear hK K)|with_reducible exact wT|refine wA ?_|(refine wB (fun h=>?_) (fun h=>?_)<;>first|exact wN h|subst (h:(_:Bool)=_)|skip)|(refine zaB 0 rfl ?_;try (refine no_implicit_lambda% (st ?_);try with_reducible exact wT))|(refine wQ ?_;clear hQ hR hE hM)|refine wC c3 ?_|fail);all_goals clear hX)
          all_goals first|exact hj|(exfalso;contradiction)
        ·rw[if_neg h1]at hj
         (have hX:=zA @hlen (zA @hbd (zA @hba @hg1));(repeat' first|refine zaa [0,1,2,3,4,5,6,7,8,9,11,13,15,23,29,37,48,49,50,51,54,55,56,57,60,66,74,75,76,77,106,109] fun K hK=>?_|(refine hK.go ?_;clear hK K)|with_reducible exact wT|refine wA ?_|(refine wB (fun h=>?_) (fun h=>?_)<;>first|exact wN h|subst (h:(_:Bool)=_)|skip)|(refine zaB 0 rfl ?_;try (refine no_implicit_lambda% (st ?_);try with_reducible exact wT))|(refine wQ ?_;clear hQ hR hE hM)|fail);all_goals clear hX)
         all_goals first|exact hj|(exfalso;contradiction)
       ·rw[List.drop_eq_nil_of_le hge]at hj
        (repeat' first|refine zaa [0,1,2,3,4,5,6,7,8,9,11,13,15,23,29,37,48,49,50,51,54,55,56,57,60,66,74,75,76,77,106,109] fun K hK=>?_|(refine hK.go ?_;clear hK K)|with_reducible exact wT|refine wA ?_|(refine wB (fun h=>?_) (fun h=>?_)<;>first|exact wN h|subst (h:(_:Bool)=_)|skip)|(refine zaB 0 rfl ?_;try (refine no_implicit_lambda% (st ?_);try with_reducible exact wT))|(refine wQ ?_;clear hQ hR hE hM)|fail)
        exact ⟨1,by omega,⟨by omega,by simpa using hj⟩,rfl⟩
      ·replace hout:zcW H (frT s) (w.over.drop 0)=zcW H (frT s) (w.path++w.over):=by simpa using hout
       (repeat' first|refine zaa [0,1,2,3,4,5,6,7,8,9,11,13,15,23,29,37,48,49,50,51,54,55,56,57,60,66,74,75,76,77,106,109] fun K hK=>?_|(refine hK.go ?_;clear hK K)|with_reducible exact wT|refine wA ?_|(refine wB (fun h=>?_) (fun h=>?_)<;>first|exact wN h|subst (h:(_:Bool)=_)|skip)|(refine zaB 0 rfl ?_;try (refine no_implicit_lambda% (st ?_);try with_reducible exact wT))|(refine wQ ?_;clear hQ hR hE hM)|fail)
       refine zat (ι:=Nat) [3,4,6,7,8,48,49,50,54,55,56] (fun z=>[(56,.n z)]) (fun _=>[]) (fun z=>z) (w.over.length) (fun z=>(zcW H (frT s) (w.over.drop z)=zcW H (frT s) (w.path++w.over))) (0) ?_;rintro j ⟨hk,hj⟩;(try dsimp only at hk hj ⊢);rcases Nat.lt_or_ge j w.over.length with hlt|hge
       ·have hx:=hsec (nth w.over j) (List.mem_append_right _ (zaf hlt))
        rw[zah hlt,zcW]at hj
        by_cases h1:nth H (nth w.over j).toNat=0
        ·rw[if_pos h1]at hj
         have c3:=hfr (nth w.over j)
         cases hf:frT s (nth w.over j) with
         |true =>
          rw[if_pos hf]at hj
          rw[hf]at c3
          (have hX:=zA @hlen (zA @hbd (zA @hba (zA @hg1 @h1)));(repeat' first|refine zaa [0,1,2,3,4,5,6,7,8,9,11,13,15,23,29,37,48,49,50,51,54,55,56,57,60,66,74,75,76,77,106,109] fun K hK=>?_|(refine hK.go ?_;clear hK K)|with_reducible exact wT|refine wA ?_|(refine wB (fun h=>?_) (fun h=>?_)<;>first|exact wN h|subst (h:(_:Bool)=_)|skip)|(refine zaB 0 rfl ?_;try (refine no_implicit_lambda% (st ?_);try with_reducible exact wT))|(refine wQ ?_;clear hQ hR hE hM)|refine wC c3 ?_|fail);all_goals clear hX)
          all_goals first|(exfalso;contradiction)|exact ⟨j+1,by omega,⟨by omega,hj⟩,by omega⟩
         |false =>
          rw[if_neg (by rw[hf];simp)]at hj
          rw[hf]at c3
          (have hX:=zA @hlen (zA @hbd (zA @hba (zA @hg1 @h1)));(repeat' first|refine zaa [0,1,2,3,4,5,6,7,8,9,11,13,15,23,29,37,48,49,50,51,54,55,56,57,60,66,74,75,76,77,106,109] fun K hK=>?_|(refine hK.go ?_;clear hK K)|with_reducible exact wT|refine wA ?_|(refine wB (fun h=>?_) (fun h=>?_)<;>first|exact wN h|subst (h:(_:Bool)=_)|skip)|(refine zaB 0 rfl ?_;try (refine no_implicit_lambda% (st ?_);try with_reducible exact wT))|(refine wQ ?_;clear hQ hR hE hM)|refine wC c3 ?_|fail);all_goals clear hX)
          all_goals first|exact hj|(exfalso;contradiction)
        ·rw[if_neg h1]at hj
         (have hX:=zA @hlen (zA @hbd (zA @hba @hg1));(repeat' first|refine zaa [0,1,2,3,4,5,6,7,8,9,11,13,15,23,29,37,48,49,50,51,54,55,56,57,60,66,74,75,76,77,106,109] fun K hK=>?_|(refine hK.go ?_;clear hK K)|with_reducible exact wT|refine wA ?_|(refine wB (fun h=>?_) (fun h=>?_)<;>first|exact wN h|subst (h:(_:Bool)=_)|skip)|(refine zaB 0 rfl ?_;try (refine no_implicit_lambda% (st ?_);try with_reducible exact wT))|(refine wQ ?_;clear hQ hR hE hM)|fail);all_goals clear hX)
         all_goals first|exact hj|(exfalso;contradiction)
       ·rw[List.drop_eq_nil_of_le hge]at hj
        (repeat' first|refine zaa [0,1,2,3,4,5,6,7,8,9,11,13,15,23,29,37,48,49,50,51,54,55,56,57,60,66,74,75,76,77,106,109] fun K hK=>?_|(refine hK.go ?_;clear hK K)|with_reducible exact wT|refine wA ?_|(refine wB (fun h=>?_) (fun h=>?_)<;>first|exact wN h|subst (h:(_:Bool)=_)|skip)|(refine zaB 0 rfl ?_;try (refine no_implicit_lambda% (st ?_);try with_reducible exact wT))|(refine wQ ?_;clear hQ hR hE hM)|fail)
        exact ⟨2,by omega,⟨by omega,by simpa using hj⟩,rfl⟩
     ·obtain rfl:k=2:=by omega
      (repeat' first|refine zaa [0,1,2,3,4,5,6,7,8,9,11,13,15,23,29,37,48,49,50,51,54,55,56,57,60,66,74,75,76,77,106,109] fun K hK=>?_|(refine hK.go ?_;clear hK K)|with_reducible exact wT|refine wA ?_|(refine wB (fun h=>?_) (fun h=>?_)<;>first|exact wN h|subst (h:(_:Bool)=_)|skip)|(refine zaB 0 rfl ?_;try (refine no_implicit_lambda% (st ?_);try with_reducible exact wT))|(refine wQ ?_;clear hQ hR hE hM)|fail)
      all_goals first|exact hg0|(simpa using hg0)
    ·(have hX:=zA @hlen (zA @hbd @hba);(repeat' first|refine zaa [0,1,2,3,4,5,6,7,8,9,11,13,15,23,29,37,48,49,50,51,54,55,56,57,60,66,74,75,76,77,106,109] fun K hK=>?_|(refine hK.go ?_;clear hK K)|with_reducible exact wT|refine wA ?_|(refine wB (fun h=>?_) (fun h=>?_)<;>first|exact wN h|subst (h:(_:Bool)=_)|skip)|(refine zaB 0 rfl ?_;try (refine no_implicit_lambda% (st ?_);try with_reducible exact wT))|(refine wQ ?_;clear hQ hR hE hM)|fail);all_goals clear hX)
     refine zat (ι:=Nat×Int) [3,4,6,7,8,74,75,76] (fun z=>[(7,.n z.2),(76,.n z.1)]) (fun _=>[]) (fun z=>z.1) (w.asks.length) (fun z=>(askE ok z.2 (w.asks.drop z.1)=askE ok (zcW H (frT s) (w.path++w.over)) w.asks)) (0,(zcW H (frT s) (w.path++w.over))) ?_;rintro ⟨k,e⟩ ⟨hk,hq⟩;(try dsimp only at hk hq ⊢);rcases Nat.lt_or_ge k w.asks.length with hlt|hge
     ·obtain ⟨ha1,ha2,⟨j,hj,d1,hcall⟩,d2⟩:=hask k hlt
      have d3:=hfr (zdI p (nth w.asks k).pnt)
      have hok3:=hok2 (nth w.asks k)
      rw[zah hlt,askE]at hq
      by_cases he:e=0
      ·subst he
       rw[if_pos rfl]at hq
       by_cases h1:zch s (nth w.asks k).pnt=(nth w.asks k).lie
       ·rw[hok3,decide_eq_true h1,Bool.true_or,if_pos rfl]at hq
        have h2:decide ((nth s.switches j).call=(nth w.asks k).lie)=true:=decide_eq_true (hcall.trans h1)
        (have hX:=zA @hlen (zA @hbd (zA @hba (zA @hg2 @h2)));(repeat' first|refine zaa [0,1,2,3,4,5,6,7,8,9,11,13,15,23,29,37,48,49,50,51,54,55,56,57,60,66,74,75,76,77,106,109] fun K hK=>?_|(refine hK.go ?_;clear hK K)|with_reducible exact wT|refine wA ?_|(refine wB (fun h=>?_) (fun h=>?_)<;>first|exact wN h|subst (h:(_:Bool)=_)|skip)|(refine zaB 0 rfl ?_;try (refine no_implicit_lambda% (st ?_);try with_reducible exact wT))|(refine wQ ?_;clear hQ hR hE hM)|refine wC d1 ?_|refine wC d2 ?_|refine wC d3 ?_|fail);all_goals clear hX)
        all_goals first|(exfalso;contradiction)|exact ⟨(k+1,0),by dsimp only;omega,⟨by dsimp only;omega,hq⟩,rfl,by dsimp only;omega⟩
       ·have h2:decide ((nth s.switches j).call=(nth w.asks k).lie)=false:=decide_eq_false (fun e=>h1 (hcall.symm.trans e))
        rw[hok3,decide_eq_false h1,Bool.false_or]at hq
        by_cases h3:nth A (nth w.asks k).pnt.toNat=0
        ·rw[decide_eq_true h3,Bool.true_and]at hq
         cases hf:frT s (zdI p (nth w.asks k).pnt) with
         |true =>
          rw[if_pos hf]at hq
          rw[hf]at d3
          (have hX:=zA @hlen (zA @hbd (zA @hba (zA @hg2 (zA @h2 @h3))));(repeat' first|refine zaa [0,1,2,3,4,5,6,7,8,9,11,13,15,23,29,37,48,49,50,51,54,55,56,57,60,66,74,75,76,77,106,109] fun K hK=>?_|(refine hK.go ?_;clear hK K)|with_reducible exact wT|refine wA ?_|(refine wB (fun h=>?_) (fun h=>?_)<;>first|exact wN h|subst (h:(_:Bool)=_)|skip)|(refine zaB 0 rfl ?_;try (refine no_implicit_lambda% (st ?_);try with_reducible exact wT))|(refine wQ ?_;clear hQ hR hE hM)|refine wC d1 ?_|refine wC d2 ?_|refine wC d3 ?_|fail);all_goals clear hX)
          all_goals first|(exfalso;contradiction)|exact ⟨(k+1,0),by dsimp only;omega,⟨by dsimp only;omega,hq⟩,rfl,by dsimp only;omega⟩
         |false =>
          rw[if_neg (by rw[hf];simp)]at hq
          rw[hf]at d3
          (have hX:=zA @hlen (zA @hbd (zA @hba (zA @hg2 (zA @h2 @h3))));(repeat' first|refine zaa [0,1,2,3,4,5,6,7,8,9,11,13,15,23,29,37,48,49,50,51,54,55,56,57,60,66,74,75,76,77,106,109] fun K hK=>?_|(refine hK.go ?_;clear hK K)|with_reducible exact wT|refine wA ?_|(refine wB (fun h=>?_) (fun h=>?_)<;>first|exact wN h|subst (h:(_:Bool)=_)|skip)|(refine zaB 0 rfl ?_;try (refine no_implicit_lambda% (st ?_);try with_reducible exact wT))|(refine wQ ?_;clear hQ hR hE hM)|refine wC d1 ?_|refine wC d2 ?_|refine wC d3 ?_|fail);all_goals clear hX)
          all_goals first|(exfalso;contradiction)|exact ⟨(k+1,183),by dsimp only;omega,⟨by dsimp only;omega,hq⟩,rfl,by dsimp only;omega⟩
        ·rw[decide_eq_false h3,Bool.false_and,if_neg (by simp)]at hq
         have h4:decide (nth A (nth w.asks k).pnt.toNat=0)=false:=decide_eq_false h3
         (have hX:=zA @hlen (zA @hbd (zA @hba (zA @hg2 (zA @h2 @h4))));(repeat' first|refine zaa [0,1,2,3,4,5,6,7,8,9,11,13,15,23,29,37,48,49,50,51,54,55,56,57,60,66,74,75,76,77,106,109] fun K hK=>?_|(refine hK.go ?_;clear hK K)|with_reducible exact wT|refine wA ?_|(refine wB (fun h=>?_) (fun h=>?_)<;>first|exact wN h|subst (h:(_:Bool)=_)|skip)|(refine zaB 0 rfl ?_;try (refine no_implicit_lambda% (st ?_);try with_reducible exact wT))|(refine wQ ?_;clear hQ hR hE hM)|refine wC d1 ?_|refine wC d2 ?_|refine wC d3 ?_|fail);all_goals clear hX)
         all_goals first|(exfalso;contradiction)|exact ⟨(k+1,183),by dsimp only;omega,⟨by dsimp only;omega,hq⟩,rfl,by dsimp only;omega⟩
      ·rw[if_neg he]at hq
       have hed:decide (e=0)=false:=decide_eq_false he
       (have hX:=zA @hlen (zA @hbd (zA @hba @hed));(repeat' first|refine zaa [0,1,2,3,4,5,6,7,8,9,11,13,15,23,29,37,48,49,50,51,54,55,56,57,60,66,74,75,76,77,106,109] fun K hK=>?_|(refine hK.go ?_;clear hK K)|with_reducible exact wT|refine wA ?_|(refine wB (fun h=>?_) (fun h=>?_)<;>first|exact wN h|subst (h:(_:Bool)=_)|skip)|(refine zaB 0 rfl ?_;try (refine no_implicit_lambda% (st ?_);try with_reducible exact wT))|(refine wQ ?_;clear hQ hR hE hM)|fail);all_goals clear hX)
       all_goals first|(exfalso;contradiction)|exact ⟨(k+1,e),by dsimp only;omega,⟨by dsimp only;omega,hq⟩,rfl,by dsimp only;omega⟩
     ·rw[List.drop_eq_nil_of_le hge,askE]at hq
      (repeat' first|refine zaa [0,1,2,3,4,5,6,7,8,9,11,13,15,23,29,37,48,49,50,51,54,55,56,57,60,66,74,75,76,77,106,109] fun K hK=>?_|(refine hK.go ?_;clear hK K)|with_reducible exact wT|refine wA ?_|(refine wB (fun h=>?_) (fun h=>?_)<;>first|exact wN h|subst (h:(_:Bool)=_)|skip)|(refine zaB 0 rfl ?_;try (refine no_implicit_lambda% (st ?_);try with_reducible exact wT))|(refine wQ ?_;clear hQ hR hE hM)|fail)
      all_goals first|exact hq|rw[hq]|skip
   ·rw[if_neg hph,if_neg hph]
    refine PC.fn hH cd171 fun w0 M Q hM hE hQ hR=>?_;dsimp only[cd171,qm,ql,qf,qi,qb,qc,qp,qv,qN,qT,qF,qt]at hQ ⊢
    (have hX:=zA @hfold (zA @hlen0 (zA @hlen (zA @hov (zA @hbd0 (zA @hbd @hba)))));(repeat' first|refine zaa [0,1,2,3,4,5,6,7,8,9,11,13,15,23,29,37,48,49,50,51,54,55,56,57,60,66,74,75,76,77,106,109] fun K hK=>?_|(refine hK.go ?_;clear hK K)|with_reducible exact wT|refine wA ?_|(refine wB (fun h=>?_) (fun h=>?_)<;>first|exact wN h|subst (h:(_:Bool)=_)|skip)|(refine zaB 0 rfl ?_;try (refine no_implicit_lambda% (st ?_);try with_reducible exact wT))|(refine wQ ?_;clear hQ hR hE hM)|refine wC c0 ?_|refine wS c1 ?_|fail);all_goals clear hX)
    all_goals first|rfl|(exfalso;contradiction)|skip
 ·rw[show lkW p s n=WayR.z by unfold lkW;rw[if_neg hst],show lkC p s n=zae p s by unfold lkC;rw[if_neg hst]]
  rw[←hRe]at hst ⊢
  revert c0 hRl hst
  generalize ofR p s=R
  obtain ⟨G,Z,hg⟩:=zjk
  rw[←hg.eq]
  intro c0 hRl hst
  have hfold:=hg.fold
  have hlen0:=hg.len (.s0 4) hg.zl hg.zl
  have hlen:=hg.len (.sl 4 (R.ways.map Way.c)) hRl.1 hRl.2
  have hov:=hg.ov (.s0 4) (.sl 4 (R.ways.map Way.c)) hg.zl hg.zl hRl.1 hRl.2
  have hbd0:=hg.bd0 Z Z
  have hbd:=hg.bd R.hold R.ask (R.ways.map Way.c)
  have hba:=hg.ba R.hold R.ask (R.ways.map Way.c)
  refine PC.fn hH cd171 fun w0 M Q hM hE hQ hR=>?_;dsimp only[cd171,qm,ql,qf,qi,qb,qc,qp,qv,qN,qT,qF,qt]at hQ ⊢
  (have hX:=zA @hfold (zA @hlen0 (zA @hlen (zA @hov (zA @hbd0 (zA @hbd @hba)))));(repeat' first|refine zaa [0,1,2,3,4,5,6,7,8,9,11,13,15,23,29,37,48,49,50,51,54,55,56,57,60,66,74,75,76,77,106,109] fun K hK=>?_|(refine hK.go ?_;clear hK K)|with_reducible exact wT|refine wA ?_|(refine wB (fun h=>?_) (fun h=>?_)<;>first|exact wN h|subst (h:(_:Bool)=_)|skip)|(refine zaB 0 rfl ?_;try (refine no_implicit_lambda% (st ?_);try with_reducible exact wT))|(refine wQ ?_;clear hQ hR hE hM)|refine wC c0 ?_|refine wS c1 ?_|fail);all_goals clear hX)
  all_goals first|rfl|(exfalso;contradiction)|skip
end Go.Lev
namespace Go.Lev
open Go.Eng
set_option maxRecDepth 10000
set_option maxHeartbeats 4000000
variable {P:Program} {inv:Nat→Option Nat} {w0:World} {M:Nat→Prop}
def zaZ (q:List AskR) (l:List Switch):List Switch:=q.foldl (fun l a=>zdD Switch.id a.pnt (fun t=>⟨t.id,t.lie,a.lie⟩) l) l
theorem zfJ (q:List AskR):∀ l:List Switch,(zaZ q l).map Switch.id=l.map Switch.id:=by
 induction q with
 |nil=>intro l;rfl
 |cons a q ih=>intro l;show (zaZ q _).map Switch.id=_;rw[ih,zis Switch.id a.pnt (fun t=>⟨t.id,t.lie,a.lie⟩) (fun _=>rfl)]
theorem zdb (q:List AskR) (l:List Switch):(zaZ q l).length=l.length:=by
 have:=congrArg List.length (zfJ q l)
 simpa using this
theorem zlp (q:List AskR) (a:AskR) (l:List Switch):zaZ (q++[a]) l=zdD Switch.id a.pnt (fun t=>⟨t.id,t.lie,a.lie⟩) (zaZ q l):=by unfold zaZ;rw[List.foldl_append];rfl
theorem zm3 (l:List Switch):zaZ [] l=l:=rfl
attribute [go_sem] zm3
theorem fget0 {α:Type} {c:α→List AV} {sz:Nat} [Cells c sz] [Inhabited α] {l:List α} {k:Nat} (hk:k<l.length) (hs:0<sz):(l.map c).flatten[k*sz]?=(c (nth l k))[0]?:=by simpa using zmc (c:=c) (i:=0) hk hs
def zgi (s:State) (n:Int) (q:List AskR):State:=⟨s.tracks,zaZ q s.switches,zdD Lock.id n (fun l=>⟨l.id,1,l.gone,l.left⟩) s.locks⟩
def znn (n:Int) (_:Nat) (l:Lock):Lock:=if l.id=n then ⟨l.id,1,l.gone,l.left⟩ else l
theorem k1At_all (n:Int) (l:List Lock):l.mapIdx (znn n)=zdD Lock.id n (fun l=>⟨l.id,1,l.gone,l.left⟩) l:=by
 refine List.ext_getElem (by simp[zdD]) fun i h1 h2=>?_
 simp only[List.getElem_mapIdx,zdD,List.getElem_map]
 rfl
theorem zmS (hH:HasAll P inv) (hI:HasIds P inv) (p:Pln) (hp:Sm p) (s:State) (hs:SmS s) (n:Int) (he:lkC p s n=0):PO P inv 156 [.agg p.c,.agg s.c,.n n] (.tup [zky 6 (zgi s n (lkW p s n).asks),.n 0]) (zkz 6 (zgi s n (lkW p s n).asks)):=by
 have c0:=zib hH hI p hp s hs n
 rw[he]at c0
 have c1:=zc3 hH s hs
 have hst:zae p s=0:=by
  unfold lkC at he
  split at he
  ·assumption
  ·rename_i h;exact absurd he h
 have hok:=zao hst
 have hpa:=(zad hst).2.1
 have hpl:=zap hpa
 have hwl:(lkW p s n).asks.length≤1000∧∀ a∈(lkW p s n).asks,zhR p a.pnt=true:=by
  unfold lkW
  rw[if_pos hst]
  rcases za3 Lock.id n s.locks with ⟨h4,_⟩|⟨i,hi,h4,h5⟩
  ·rw[show zf6 s n=-1 from h4,if_pos (by decide)]
   exact ⟨by simp[WayR.z],fun a ha=>by simp[WayR.z]at ha⟩
  ·rw[show zf6 s n=(i:Int) from h4,if_neg (by omega),Int.toNat_natCast]
   split
   ·refine ⟨(zcw hok (zaf (by omega))).1,fun a ha=>?_⟩
    obtain ⟨⟨x,hx,ex⟩,_⟩:=zbv hok (zaf (show i<p.routes.length by omega)) ha
    exact List.any_eq_true.2 ⟨x,hx,by simpa using ex⟩
   ·exact ⟨by simp[WayR.z],fun a ha=>by simp[WayR.z]at ha⟩
 generalize lkW p s n=w at *
 have hno:(s.switches.map Switch.id).Nodup:=by rw[zcT hpa];exact zcD hok
 obtain ⟨h1,h2,h3⟩:=hs
 have hix:∀ (q:List AskR) (k:Nat),k<w.asks.length→∃ j,j<s.switches.length∧zbn (fun x=>decide (Switch.id x=(nth w.asks k).pnt)) 0 (zaZ q s.switches)=(j:Int)∧(nth (zaZ q s.switches) j).id=(nth w.asks k).pnt:=fun q k hk=>by
  obtain ⟨y,hy,ey⟩:=swt_of hpa (hwl.2 _ (zaf hk))
  have hm:(nth w.asks k).pnt∈(zaZ q s.switches).map Switch.id:=by rw[zfJ,←ey];exact List.mem_map_of_mem hy
  obtain ⟨z,hz,ez⟩:=List.mem_map.1 hm
  rcases za3 Switch.id (nth w.asks k).pnt (zaZ q s.switches) with ⟨_,r⟩|⟨j,hj,q1,q2⟩
  ·exact absurd ez (r z hz)
  ·exact ⟨j,by rw[zdb]at hj;exact hj,q1,q2⟩
 clear hst hok hpa hpl he
 unfold stV stR at c1
 refine PO.fn hH cd156 fun w0 M Q hM hE hQ hR=>?_;dsimp only[cd156,qm,ql,qf,qi,qb,qc,qp,qv,qN,qT,qF,qt]at hQ ⊢
 skip
 (repeat' first|refine zaa [0,1,2,3,4,5,6,7,8,9,11,12,21,27,28,29,30,43,44,45,54] fun K hK=>?_|(refine hK.go ?_;clear hK K)|with_reducible exact wT|refine wA ?_|(refine wB (fun h=>?_) (fun h=>?_)<;>first|exact wN h|subst (h:(_:Bool)=_)|skip)|(refine wQ ?_;clear hQ hR)|refine wC c0 ?_|refine wO c1 ?_|fail)
 have hcl:=fun q=>zdb q s.switches
 refine zat (ι:=Nat) [2,4,6,7,27,28,29] (fun z=>[(29,.n z)]) (fun z=>[(7,.cells ((zaZ (w.asks.take z) s.switches).map Switch.c).flatten (decide (0<s.switches.length)))]) (fun z=>z) (w.asks.length) (fun _=>True) (0) ?_;rintro k ⟨hk,-⟩;(try dsimp only at hk ⊢);rcases Nat.lt_or_ge k w.asks.length with hlt|hge
 ·obtain ⟨j,hj,q1,q2⟩:=hix (w.asks.take k) k hlt
  have c2:=zhh hH (zaZ (w.asks.take k) s.switches) (fun x _=>zl5 hH (nth w.asks k).pnt x) (by rw[hcl];omega)
  rw[q1]at c2
  have hno2:((zaZ (w.asks.take k) s.switches).map Switch.id).Nodup:=by rw[zfJ];exact hno
  have e1:=zgg Switch.id (nth w.asks k).pnt (fun t=>(⟨t.id,t.lie,(nth w.asks k).lie⟩:Switch)) hno2 (by rw[hcl];exact hj) q2
  rw[←zlp,znx hlt]at e1
  have e2:=zb7 (c:=Switch.c) (l:=zaZ (w.asks.take k) s.switches) (k:=j) (i:=2) (by rw[hcl];exact hj) (by omega) (.i .i64 (nth w.asks k).lie) (⟨(nth (zaZ (w.asks.take k) s.switches) j).id,(nth (zaZ (w.asks.take k) s.switches) j).lie,(nth w.asks k).lie⟩:Switch) rfl
  rw[e1]at e2
  have e3:=zcE (c:=Switch.c) (zaZ (w.asks.take k) s.switches)
  rw[hcl]at e3
  have e4:=hcl (w.asks.take k)
  (have hX:=zA @e2 (zA @e3 @e4);(repeat' first|refine zaa [0,1,2,3,4,5,6,7,8,9,11,12,21,27,28,29,30,43,44,45,54] fun K hK=>?_|(refine hK.go ?_;clear hK K)|with_reducible exact wT|refine wA ?_|(refine wB (fun h=>?_) (fun h=>?_)<;>first|exact wN h|subst (h:(_:Bool)=_)|skip)|(refine wQ ?_;clear hQ hR)|(refine AC.callK 30 (by omega) (by first|omega|exact wF|((refine no_implicit_lambda% (st ?_);try with_reducible exact wT);omega)) (zaq (F:=cd172) (hH.has _ _ rfl) (Nat.le_of_ble_eq_true rfl) fun Q hQ hR=>?_);dsimp only[cd172,qm,ql,qf,qi,qb,qc,qp,qv,qN,qT,qF,qt]at hQ ⊢;try (refine no_implicit_lambda% (st ?_);try with_reducible exact wT))|refine wS c2 ?_|fail);all_goals clear hX)
  all_goals first|exact ⟨k+1,by omega,by omega,by omega,rfl⟩|trace_state
  all_goals sorry
 ·rw[List.take_of_length_le hge]
  (repeat' first|refine zaa [0,1,2,3,4,5,6,7,8,9,11,12,21,27,28,29,30,43,44,45,54] fun K hK=>?_|(refine hK.go ?_;clear hK K)|with_reducible exact wT|refine wA ?_|(refine wB (fun h=>?_) (fun h=>?_)<;>first|exact wN h|subst (h:(_:Bool)=_)|skip)|(refine wQ ?_;clear hQ hR)|fail)
  refine zat (ι:=Nat) [2,4,6,7,43,44] (fun z=>[(44,.n z)]) (fun z=>[(8,.cells ((zf4 (znn n) z s.locks).map Lock.c).flatten (decide (0<s.locks.length)))]) (fun z=>z) (s.locks.length) (fun _=>True) (0) ?_;rintro k2 ⟨hk,-⟩;(try dsimp only at hk ⊢);rcases Nat.lt_or_ge k2 s.locks.length with hlt|hge
  ·have e1:=zge (znn n) (l:=s.locks) (k:=k2) (by assumption)
   have hg:=fget0 (c:=Lock.c) (l:=zf4 (znn n) k2 s.locks) (k:=k2) (by rw[zcL];assumption) (by omega)
   rw[zdV _ (by assumption)]at hg
   by_cases hid:(nth s.locks k2).id=n
   ·have e2:=zb7 (c:=Lock.c) (l:=zf4 (znn n) k2 s.locks) (k:=k2) (i:=1) (by rw[zcL];assumption) (by omega) (.i .u8 1) (znn n k2 (nth s.locks k2)) (by rw[zdV _ (by assumption)];unfold znn;rw[if_pos hid];rfl)
    rw[e1]at e2
    (have hX:=zA @hg @e2;(repeat' first|refine zaa [0,1,2,3,4,5,6,7,8,9,11,12,21,27,28,29,30,43,44,45,54] fun K hK=>?_|(refine hK.go ?_;clear hK K)|with_reducible exact wT|refine wA ?_|(refine wB (fun h=>?_) (fun h=>?_)<;>first|exact wN h|subst (h:(_:Bool)=_)|skip)|(refine wQ ?_;clear hQ hR)|fail);all_goals clear hX)
    all_goals first|(exfalso;contradiction)|exact ⟨k2+1,by omega,by omega,by omega,rfl⟩
   ·rw[show znn n k2 (nth s.locks k2)=nth (zf4 (znn n) k2 s.locks) k2 by rw[zdV _ (by assumption)];unfold znn;rw[if_neg hid]]at e1
    have e3:zf4 (znn n) k2 s.locks=zf4 (znn n) (k2+1) s.locks:=by
     rw[←e1,zaN (by rw[zcL];assumption),List.set_getElem_self]
    (have hX:=@hg;(repeat' first|refine zaa [0,1,2,3,4,5,6,7,8,9,11,12,21,27,28,29,30,43,44,45,54] fun K hK=>?_|(refine hK.go ?_;clear hK K)|with_reducible exact wT|refine wA ?_|(refine wB (fun h=>?_) (fun h=>?_)<;>first|exact wN h|subst (h:(_:Bool)=_)|skip)|(refine wQ ?_;clear hQ hR)|fail);all_goals clear hX)
    all_goals first|(exfalso;contradiction)|exact ⟨k2+1,by omega,by omega,by omega,by rw[←e3]⟩
  ·rw[zgf _ (by assumption),k1At_all]
   (repeat' first|refine zaa [0,1,2,3,4,5,6,7,8,9,11,12,21,27,28,29,30,43,44,45,54] fun K hK=>?_|(refine hK.go ?_;clear hK K)|with_reducible exact wT|refine wA ?_|(refine wB (fun h=>?_) (fun h=>?_)<;>first|exact wN h|subst (h:(_:Bool)=_)|skip)|(refine wQ ?_;clear hQ hR)|fail)
   all_goals (left;unfold zky zkz zgi;dsimp only;rw[zdb,zcn];constructor)
   all_goals (refine no_implicit_lambda% (st ?_);try with_reducible exact wT)
end Go.Lev
namespace Go.Lev
open Go.Eng
theorem zjV:∀ (l:List AskR) (m:List Bool),m.length=100→(∀ a∈l,0≤a.pnt∧a.pnt≤99)→(zjW m l=true↔(∀ a∈l,nth m a.pnt.toNat=false)∧(l.map AskR.pnt).Nodup)
 |[],m,_,_=>by simp[zjW]
 |a::r,m,hm,hr=>by
  have h0:=hr a (by simp)
  have ih:=zjV r (m.set a.pnt.toNat true) (by simpa using hm) fun b hb=>hr b (by simp[hb])
  rw[zjW,Bool.and_eq_true,ih]
  simp only[List.map_cons,List.nodup_cons,List.mem_cons,forall_eq_or_imp,Bool.not_eq_true',List.mem_map,not_exists,not_and]
  have key:∀ b∈r,nth (m.set a.pnt.toNat true) b.pnt.toNat=false↔(nth m b.pnt.toNat=false∧b.pnt≠a.pnt):=fun b hb=>by
   have hb':=hr b (by simp[hb])
   rw[zbr _ _ _ _ (by omega)]
   by_cases e:b.pnt=a.pnt
   ·rw[e,if_pos rfl];simp
   ·rw[if_neg (by omega)];simp[e]
  constructor
  ·rintro ⟨h1,h2,h3⟩
   exact ⟨⟨h1,fun b hb=>((key b hb).1 (h2 b hb)).1⟩,fun b hb=>((key b hb).1 (h2 b hb)).2,h3⟩
  ·rintro ⟨⟨h1,h2⟩,h3,h4⟩
   exact ⟨h1,fun b hb=>(key b hb).2 ⟨h2 b hb,h3 b hb⟩,h4⟩
theorem once_iff {l:List AskR} (h:∀ a∈l,0≤a.pnt∧a.pnt≤99):once l=true↔(l.map AskR.pnt).Nodup:=by
 unfold once
 rw[zjV l _ (by simp) h]
 constructor
 ·exact fun h=>h.2
 ·intro h2
  exact ⟨fun a ha=>by have:=h a ha;exact zhd _ _ _ (by omega),h2⟩
theorem zfN {p:Pln} (ho:zbq p=true) {r:Rte} (hr:r∈p.routes):((zaj p r).1.asks.map AskR.pnt).Nodup:=by
 obtain ⟨hok,_,h3⟩:=za0 ho
 have:=h3 r hr
 simp only[zcO,Bool.and_eq_true]at this
 exact (once_iff fun a ha=>by have:=zbv hok hr ha;omega).1 this.1
def zen (l:List Switch) (n:Int):Int:=zfi (zgn [] l) n
theorem zm5 (l:List Switch) {n m:Int} (v:Int) (h:m≠n):zen (zdD Switch.id n (fun t=>⟨t.id,t.lie,v⟩) l) m=zen l m:=ziV n v m h l [] [] rfl
theorem zpa {l:List Switch} (hn:(l.map Switch.id).Nodup) {n:Int} (v:Int) (h:n∈l.map Switch.id):zen (zdD Switch.id n (fun t=>⟨t.id,t.lie,v⟩) l) n=v:=by
 obtain ⟨x,hx,e⟩:=List.mem_map.1 h
 have h1:(⟨x.id,x.lie,v⟩:Switch)∈zdD Switch.id n (fun t=>⟨t.id,t.lie,v⟩) l:=by
  unfold zdD
  exact List.mem_map.2 ⟨x,hx,by rw[if_pos e]⟩
 have:=zk6 (zdD Switch.id n (fun t=>⟨t.id,t.lie,v⟩) l) [] (by rw[zis Switch.id n (fun t=>⟨t.id,t.lie,v⟩) (fun _=>rfl)];exact hn) _ h1
 dsimp only at this
 rw[e]at this
 exact this
theorem zfI:∀ (q:List AskR) (l:List Switch) {n:Int},(∀ a∈q,a.pnt≠n)→zen (zaZ q l) n=zen l n
 |[],_,_,_=>rfl
 |a::q,l,n,h=>by
  show zen (zaZ q (zdD Switch.id a.pnt (fun t=>⟨t.id,t.lie,a.lie⟩) l)) n=_
  rw[zfI q _ fun b hb=>h b (by simp[hb]),zm5 l a.lie (fun e=>h a (by simp) e.symm)]
theorem zfb:∀ (q:List AskR) (l:List Switch),(l.map Switch.id).Nodup→(q.map AskR.pnt).Nodup→∀ a∈q,a.pnt∈l.map Switch.id→zen (zaZ q l) a.pnt=a.lie
 |[],_,_,_,a,ha,_=>by cases ha
 |b::q,l,hl,hq,a,ha,hi=>by
  simp only[List.map_cons,List.nodup_cons]at hq
  show zen (zaZ q (zdD Switch.id b.pnt (fun t=>⟨t.id,t.lie,b.lie⟩) l)) a.pnt=_
  rcases List.mem_cons.1 ha with rfl|ha
  ·rw[zfI q _ fun c hc e=>hq.1 (by rw[←e];exact List.mem_map_of_mem hc),zpa hl _ hi]
  ·refine zfb q _ (by rw[zis Switch.id b.pnt (fun t=>⟨t.id,t.lie,b.lie⟩) (fun _=>rfl)];exact hl) hq.2 a ha ?_
   rw[zis Switch.id b.pnt (fun t=>⟨t.id,t.lie,b.lie⟩) (fun _=>rfl)];exact hi
end Go.Lev
namespace Go.Lev
open Go.Eng
theorem znq {p:Pln} {s:State} (h:zal p s=true):(zof p s).length=s.locks.length:=by
 have:=zap h
 simp only[zof,List.length_zip,zaM,List.length_map]
 omega
theorem zfk {p:Pln} {s:State} (h:zal p s=true) {i:Nat} (hi:i<(zof p s).length):(zof p s)[i]=((zaj p (nth p.routes i)).1,nth s.locks i):=by
 have h1:=znq h
 have h2:=zap h
 simp[zof,zaM,zaN (show i<p.routes.length by omega),zaN (show i<s.locks.length by omega)]
theorem zkp {p:Pln} {s:State} (h:zal p s=true):zlE (zof p s)↔∀ i j,i<s.locks.length→j<s.locks.length→i≠j→∀ m∈zjm p s i,m∉zjm p s j:=by
 have hl:=znq h
 unfold zlE
 rw[List.pairwise_iff_getElem]
 constructor
 ·intro hp i j hi hj hne m hm hm'
  rcases Nat.lt_trichotomy i j with hlt|e|hlt
  ·have:=hp i j (by omega) (by omega) hlt
   rw[zfk h,zfk h]at this
   exact this m hm hm'
  ·exact hne e
  ·have:=hp j i (by omega) (by omega) hlt
   rw[zfk h,zfk h]at this
   exact this m hm' hm
 ·intro hp i j hi hj hlt
  rw[zfk h,zfk h]
  exact hp i j (by omega) (by omega) (by omega)
theorem zf2 {p:Pln} {s:State} (h:zal p s=true):zmn s (zof p s)↔∀ i,i<s.locks.length→∀ a∈znb p s i,zch s a.pnt=a.lie:=by
 have h2:=zap h
 constructor
 ·intro hp i hi a ha
  exact hp _ (zof_at h (by omega)) a ha
 ·intro hp z hz a ha
  obtain ⟨i,r,_,hi,e1,e2,_,e3,_⟩:=zfj h hz
  refine hp i (by omega) a ?_
  unfold znb
  rw[e1,e2,←e3]
  exact ha
theorem zcy {p:Pln} {s:State}:zae p s=0↔zbq p=true∧zal p s=true∧(∀ i j,i<s.locks.length→j<s.locks.length→i≠j→∀ m∈zjm p s i,m∉zjm p s j)∧∀ i,i<s.locks.length→∀ a∈znb p s i,zch s a.pnt=a.lie:=by
 rw[zfo]
 constructor
 ·rintro ⟨h1,h2,h3,h4⟩;exact ⟨h1,h2,(zkp h2).1 h3,(zf2 h2).1 h4⟩
 ·rintro ⟨h1,h2,h3,h4⟩;exact ⟨h1,h2,(zkp h2).2 h3,(zf2 h2).2 h4⟩
theorem zfc (s:State) (n:Int):zch s n=zen s.switches n:=rfl
theorem zm4 (q:List AskR):∀ (l:List Switch) (k:Nat),k<l.length→(nth (zaZ q l) k).id=(nth l k).id∧(nth (zaZ q l) k).lie=(nth l k).lie∧((nth (zaZ q l) k).call=(nth l k).call∨∃ a∈q,a.pnt=(nth l k).id∧(nth (zaZ q l) k).call=a.lie):=by
 induction q with
 |nil=>intro l k _;exact ⟨rfl,rfl,.inl rfl⟩
 |cons b q ih =>
  intro l k hk
  have h1:=ih (zdD Switch.id b.pnt (fun t=>⟨t.id,t.lie,b.lie⟩) l) k (by rw[zcn];exact hk)
  have h2:nth (zdD Switch.id b.pnt (fun t=>(⟨t.id,t.lie,b.lie⟩:Switch)) l) k=if (nth l k).id=b.pnt then ⟨(nth l k).id,(nth l k).lie,b.lie⟩ else nth l k:=by
   unfold zdD
   exact nthm (fun x=>if Switch.id x=b.pnt then (⟨x.id,x.lie,b.lie⟩:Switch) else x) hk
  rw[show zaZ (b::q) l=zaZ q (zdD Switch.id b.pnt (fun t=>⟨t.id,t.lie,b.lie⟩) l) from rfl]
  rw[h2]at h1
  by_cases e:(nth l k).id=b.pnt
  ·rw[if_pos e]at h1
   dsimp only at h1
   refine ⟨h1.1,h1.2.1,.inr ?_⟩
   rcases h1.2.2 with h3|⟨a,ha,h3,h4⟩
   ·exact ⟨b,by simp,e.symm,h3⟩
   ·exact ⟨a,by simp[ha],h3,h4⟩
  ·rw[if_neg e]at h1
   refine ⟨h1.1,h1.2.1, ?_⟩
   rcases h1.2.2 with h3|⟨a,ha,h3,h4⟩
   ·exact .inl h3
   ·exact .inr ⟨a,by simp[ha],h3,h4⟩
section
variable {p:Pln} {s:State} {i:Nat} (h:zae p s=0) (hi:i<s.locks.length) (hph:(nth s.locks i).phase=0)
include h hi
theorem zeN {n:Int} (hid:(nth s.locks i).id=n) (q:List AskR) {j:Nat} (hj:j<s.locks.length):nth (zgi s n q).locks j=if j=i then ⟨n,1,(nth s.locks i).gone,(nth s.locks i).left⟩ else nth s.locks j:=by
 show nth (zdD Lock.id n (fun l=>⟨l.id,1,l.gone,l.left⟩) s.locks) j=_
 have h2:nth (zdD Lock.id n (fun l=>(⟨l.id,1,l.gone,l.left⟩:Lock)) s.locks) j=if (nth s.locks j).id=n then ⟨(nth s.locks j).id,1,(nth s.locks j).gone,(nth s.locks j).left⟩ else nth s.locks j:=by
  unfold zdD
  exact nthm (fun x=>if Lock.id x=n then (⟨x.id,1,x.gone,x.left⟩:Lock) else x) hj
 rw[h2]
 by_cases e:j=i
 ·subst e;rw[if_pos hid,if_pos rfl,hid]
 ·rw[if_neg e,if_neg (fun e2=>e (zi1 h hj hi (e2.trans hid.symm)))]
include hph
theorem zeS:(nth s.locks i).gone=0∧(nth s.locks i).left=0:=by
 have:=zej (zad h).2.1 hi
 simp only[zcp,zaA,hph,Bool.and_eq_true]at this
 simpa using this.2
theorem zmA {n:Int} (hid:(nth s.locks i).id=n):zal p (zgi s n (zaj p (nth p.routes i)).1.asks)=true:=by
 have hpa:=(zad h).2.1
 have hok:=zao h
 have hl:=zap hpa
 have hp2:=hpa
 unfold zal at hpa ⊢
 simp only[Bool.and_eq_true,zcZ]at hpa ⊢
 refine ⟨hpa.1,⟨by show (zaZ _ _).length=_;rw[zdb];exact hpa.2.1.1,fun k hk=>?_⟩,by show (zdD _ _ _ _).length=_;rw[zcn];exact hpa.2.2.1,fun k hk=>?_⟩
 ·have hk':k<s.switches.length:=by have:k<(zaZ (zaj p (nth p.routes i)).1.asks s.switches).length:=hk;rw[zdb]at this;exact this
  have h1:=hpa.2.1.2 k hk'
  have h2:=zm4 (zaj p (nth p.routes i)).1.asks s.switches k hk'
  show ziw (nth (zaZ _ s.switches) k) _=true
  simp only[ziw,zfD,Bool.and_eq_true,decide_eq_true_eq]at h1 ⊢
  refine ⟨h2.1.trans h1.1,by rw[h2.2.1];exact h1.2.1, ?_⟩
  rcases h2.2.2 with e|⟨a,ha,_,e⟩
  ·rw[e];exact h1.2.2
  ·have:=(zbv hok (zaf (show i<p.routes.length by omega)) ha).2.2
   rw[e];omega
 ·have hk':k<s.locks.length:=by have:k<(zdD Lock.id n (fun l=>(⟨l.id,1,l.gone,l.left⟩:Lock)) s.locks).length:=hk;rw[zcn]at this;exact this
  rw[zeN h hi hid _ hk']
  have h1:=hpa.2.2.2 k hk'
  split
  ·rename_i e
   subst e
   have hr:=zeS h hi hph
   simp only[zcp,zaA,Bool.and_eq_true,decide_eq_true_eq]at h1 ⊢
   refine ⟨hid▸h1.1, ?_⟩
   simp[hr.1,hr.2]
  ·exact h1
theorem znK {n:Int} (hid:(nth s.locks i).id=n) (hf:∀ m∈(zaj p (nth p.routes i)).1.path++(zaj p (nth p.routes i)).1.over,nth (zaF p s).1 m.toNat=0)
  (hk:∀ a∈(zaj p (nth p.routes i)).1.asks,zch s a.pnt=a.lie∨nth (zaF p s).2.1 a.pnt.toNat=0):zae p (zgi s n (zaj p (nth p.routes i)).1.asks)=0:=by
 have h':=zcy.1 h
 obtain ⟨h1,h2,h3,h4⟩:=h'
 have hok:=zao h
 have hl:=zap h2
 have hr:=zeS h hi hph
 have hsl:(zgi s n (zaj p (nth p.routes i)).1.asks).locks.length=s.locks.length:=zcn _ _ _ _
 have hwr:nth p.routes i∈p.routes:=zaf (by omega)
 have hd:∀ j,j<s.locks.length→zjm p (zgi s n (zaj p (nth p.routes i)).1.asks) j=if j=i then (zaj p (nth p.routes i)).1.path++(zaj p (nth p.routes i)).1.over else zjm p s j:=fun j hj=>by
  unfold zjm
  rw[zeN h hi hid _ hj]
  by_cases e:j=i
  ·subst e
   rw[if_pos rfl,if_pos rfl]
   unfold zbm
   rw[if_neg (by dsimp only;omega)]
   dsimp only
   rw[hr.1];rfl
  ·rw[if_neg e,if_neg e]
 have ha:∀ j,j<s.locks.length→znb p (zgi s n (zaj p (nth p.routes i)).1.asks) j=if j=i then (zaj p (nth p.routes i)).1.asks else znb p s j:=fun j hj=>by
  unfold znb
  rw[zeN h hi hid _ hj]
  by_cases e:j=i
  ·subst e
   rw[if_pos rfl,if_pos rfl]
   unfold zbz
   rw[if_neg (by dsimp only;omega)]
   refine List.filter_eq_self.2 fun a _=>?_
   simp only[zcX,hr.1,Bool.or_eq_true,decide_eq_true_eq]
   omega
  ·rw[if_neg e,if_neg e]
 have hnd:(s.switches.map Switch.id).Nodup:=by rw[zcT h2];exact zcD hok
 refine zcy.2 ⟨h1,zmA h hi hph hid,fun a b ha' hb' hne m hm hm'=>?_,fun j hj a haj=>?_⟩
 ·rw[hsl]at ha' hb'
  rw[hd a ha']at hm
  rw[hd b hb']at hm'
  have free:∀ j,j<s.locks.length→∀ m∈(zaj p (nth p.routes i)).1.path++(zaj p (nth p.routes i)).1.over,m∉zjm p s j:=fun j hj m hm hm'=>by
   have e1:=hf m hm
   have e2:=zlf h (zeW h hj) hm'
   have:=zi0 h hj
   rw[e1]at e2
   dsimp only at e2
   omega
  by_cases e:a=i
  ·rw[if_pos e]at hm
   rw[if_neg (fun e2=>hne (e.trans e2.symm))]at hm'
   exact free b hb' m hm hm'
  ·rw[if_neg e]at hm
   by_cases e2:b=i
   ·rw[if_pos e2]at hm'
    exact free a ha' m hm' hm
   ·rw[if_neg e2]at hm'
    exact h3 a b ha' hb' hne m hm hm'
 ·rw[hsl]at hj
  rw[ha j hj]at haj
  rw[zfc]
  show zen (zaZ _ s.switches) a.pnt=_
  by_cases e:j=i
  ·rw[if_pos e]at haj
   refine zfb _ _ hnd (zfN h1 hwr) a haj ?_
   obtain ⟨x,hx,ex⟩:=(zbv hok hwr haj).1
   rw[zcT h2,←ex]
   exact List.mem_map_of_mem hx
  ·rw[if_neg e]at haj
   have h5:=h4 j hj a haj
   rcases Classical.em (∃ b∈(zaj p (nth p.routes i)).1.asks,b.pnt=a.pnt) with ⟨b,hb,eb⟩|hno
   ·have h6:=zfb _ s.switches hnd (zfN h1 hwr) b hb (by
     obtain ⟨x,hx,ex⟩:=(zbv hok hwr hb).1
     rw[zcT h2,←ex]
     exact List.mem_map_of_mem hx)
    rw[←eb,h6]
    rcases hk b hb with h7|h7
    ·rw[←h7,eb];exact h5
    ·rw[eb,ask_is h hj haj]at h7
     have:=zoi h hj haj
     omega
   ·rw[zfI _ _ fun b hb e=>hno ⟨b,hb,e⟩]
    exact h5
end
end Go.Lev
namespace Go.Lev
open Go.Eng
theorem zj0 {p:Pln} {s:State} (ho:OkP p) (h:zal p s=true) (n:Int):frT s n=decide (ze1 s n=0):=by
 rw[Bool.eq_iff_iff,decide_eq_true_eq]
 constructor
 ·intro h1
  obtain ⟨x,hx,e⟩:=List.any_eq_true.1 h1
  simp only[Bool.and_eq_true,decide_eq_true_eq]at e
  obtain ⟨k,hk,rfl⟩:=zfC hx
  rw[e.1,zop ho h hk];exact e.2.symm
 ·intro h1
  unfold ze1 at h1
  cases e:s.tracks.find? fun t=>decide (t.id=n) with
  |none=>rw[e]at h1;exact absurd h1 (by decide)
  |some t =>
   rw[e]at h1
   have h2:=List.find?_some e
   exact List.any_eq_true.2 ⟨t,List.mem_of_find?_eq_some e,by
    simp only[Bool.and_eq_true,decide_eq_true_eq]
    exact ⟨(show t.id=n by simpa using h2).symm,h1.symm⟩⟩
theorem zog {p:Pln} {s:State} (h:zae p s=0) {i:Nat} (hi:i<s.locks.length) {n:Int} (hid:(nth s.locks i).id=n):zf6 s n=(i:Int):=by
 unfold zf6
 rcases za3 Lock.id n s.locks with ⟨_,h4⟩|⟨k,hk,h4,h5⟩
 ·exact absurd hid (h4 _ (zaf hi))
 ·rw[h4,zi1 h hk hi (h5.trans hid.symm)]
theorem zoh {p:Pln} {s:State} (h:zae p s=0) {i:Nat} (hi:i<s.locks.length) {n:Int} (hid:(nth s.locks i).id=n):lkC p s n=if (nth s.locks i).phase=0 then setE p s i else 180:=by
 unfold lkC
 rw[if_pos h,zog h hi hid,if_neg (by omega),Int.toNat_natCast]
theorem lkC_no {p:Pln} {s:State} (h:zae p s=0) {n:Int} (hid:∀ x∈s.locks,x.id≠n):lkC p s n=6:=by
 unfold lkC
 rw[if_pos h,if_pos]
 unfold zf6
 rcases za3 Lock.id n s.locks with ⟨h3,_⟩|⟨k,hk,h4,h5⟩
 ·rw[h3];decide
 ·exact absurd h5 (hid _ (zaf hk))
def leF (p:Pln) (s:State) (n e:Int) (w:WayR) (H A:Int→Int):Bool :=
 zdM (fun i _ zcK=>cond (!decide ((nth s.locks i).id=n)) (zcK ())
   (cond (!decide ((nth s.locks i).phase=0)) (decide (e=180))
    (zdM (fun k _ next2=>cond (!decide (H (nth (w.path++w.over) k)=0)) (decide (e=181)) (cond (!decide (ze1 s (nth (w.path++w.over) k)=0)) (decide (e=182)) (next2 ())))
     (fun _=>zdM (fun k _ next3 =>
       zdM (fun m _ next4=>cond (decide ((nth s.switches m).id=(nth w.asks k).pnt)&&!decide ((nth s.switches m).call=(nth w.asks k).lie)&&(!decide (A (nth s.switches m).id=0)||!decide (ze1 s (nth p.points m).sec=0))) (decide (e=183)) (next4 ()))
        (fun _=>next3 ()) s.switches.length 0 ())
      (fun _=>decide (e=0)) w.asks.length 0 ()) (w.path++w.over).length 0 ())))
  (fun _=>decide (e=6)) s.locks.length 0 ()
end Go.Lev
namespace Go.Lev
open Go.Eng
set_option maxRecDepth 10000
set_option maxHeartbeats 4000000
variable {P:Program} {inv:Nat→Option Nat} {w0:World} {M:Nat→Prop}
section
variable {L:List Lock} {k:Nat} (h:k<L.length)
include h
end
section
variable {L:List Lock} {k:Nat} (h:k<L.length) (x:Lock)
include h
end
def tickL (l:Lock):Lock:=if l.left=0 then l else if l.left-1=0 then ⟨l.id,0,0,0⟩ else ⟨l.id,l.phase,l.gone,l.left-1⟩
def tickS (s:State):State:=⟨s.tracks,s.switches,s.locks.map tickL⟩
def tickR (p:Pln) (s:State):State:=if zae p s=0 then tickS s else State.z
end Go.Lev
namespace Go.Lev
open Go.Eng
set_option maxRecDepth 10000
set_option maxHeartbeats 4000000
variable {P:Program} {inv:Nat→Option Nat} {w0:World} {M:Nat→Prop}
def emptyB (s:State) (w:WayR) (l:Lock):Bool:=!((w.path.drop l.gone.toNat).any fun m=>!frT s m)
def cnC0 (s:State) (w:WayR) (l:Lock):Int:=if l.phase=0 then 220 else if l.phase=1 then 0 else if l.phase=2∧emptyB s w l=true then 0 else 221
def cnL (s:State) (w:WayR) (r:Rte) (l:Lock) (n:Int):Lock:=if l.phase=1∧frT s w.near=false then ⟨n,4,0,r.timer⟩ else ⟨n,0,0,0⟩
def cnC (p:Pln) (s:State) (n:Int):Int:=if zae p s=0 then (if zf6 s n<0 then 6 else cnC0 s (zaj p (nth p.routes (zf6 s n).toNat)).1 (nth s.locks (zf6 s n).toNat)) else zae p s
def cnS (p:Pln) (s:State) (n:Int):State:=⟨s.tracks,s.switches,s.locks.set (zf6 s n).toNat (cnL s (zaj p (nth p.routes (zf6 s n).toNat)).1 (nth p.routes (zf6 s n).toNat) (nth s.locks (zf6 s n).toNat) n)⟩
def cnR (p:Pln) (s:State) (n:Int):State:=if cnC p s n=0 then cnS p s n else State.z
end Go.Lev
namespace Go.Lev
open Go.Eng
set_option maxRecDepth 10000
set_option maxHeartbeats 4000000
variable {P:Program} {inv:Nat→Option Nat} {w0:World} {M:Nat→Prop}
def zcx (r:Rte) (is:Int→Int) (l:Lock):Lock :=
 if l.phase=1∨l.phase=4 then (if (r.path.any fun n=>decide (is n=1))=true then ⟨l.id,2,0,0⟩ else l)
 else if l.phase=2 then
  (if l.gone<(r.path.length:Int)-1∧is (nth r.path l.gone.toNat)=0∧is (nth r.path (l.gone.toNat+1))=1 then ⟨l.id,l.phase,l.gone+1,l.left⟩
   else if l.gone=(r.path.length:Int)-1∧is (nth r.path (r.path.length-1))=1 then ⟨l.id,3,(r.path.length:Int)-1,r.timer⟩
   else if l.gone=(r.path.length:Int)-1∧is (nth r.path (r.path.length-1))=0 then ⟨l.id,0,0,0⟩
   else l)
 else if l.phase=3 then (if is (nth r.path (r.path.length-1))=0 then ⟨l.id,0,0,0⟩ else l)
 else l
end Go.Lev
namespace Go.Eng
section
variable {P:Program} {inv:Nat→Option Nat} {w0:World} {M:Nat→Prop} {n N:Nat} {φ φ0:AF} {σ σ0:AS}
end
end Go.Eng
namespace Go.Lev
open Go.Eng
set_option maxRecDepth 10000
set_option maxHeartbeats 4000000
variable {P:Program} {inv:Nat→Option Nat} {w0:World} {M:Nat→Prop}
def zdx (r:Rte) (l:Lock):Nat:=if l.phase=1∨l.phase=4 then r.path.length+3 else if l.phase=2 then 2+((r.path.length:Int)-1-l.gone).toNat else if l.phase=3 then 1 else 0
def zbg (r:Rte) (is:Int→Int):Nat→Lock→Lock
 |0,l=>l
 |m+1,l=>if zcx r is l=l then l else zbg r is m (zcx r is l)
def zbN (r:Rte) (is:Int→Int) (l:Lock):Lock:=zbg r is (zdx r l) l
end Go.Lev
namespace Go.Lev
open Go.Eng
set_option maxRecDepth 10000
set_option maxHeartbeats 4000000
variable {P:Program} {inv:Nat→Option Nat} {w0:World} {M:Nat→Prop}
def zf5 (p:Pln) (s:State) (i:Nat) (l:Lock):Lock:=zbN (nth p.routes i) (ze1 s) l
def za1 (p:Pln) (s:State):State:=⟨s.tracks,s.switches,s.locks.mapIdx (zf5 p s)⟩
theorem zl4 {p:Pln} {s:State} (ho:OkP p) (h:zal p s=true) {k:Nat} (hk:k<s.tracks.length):ze1 s (nth s.tracks k).id=(nth s.tracks k).is:=by
 unfold ze1
 rw[zi7 Track.id (by rw[zgv h];exact zeO ho) hk rfl]
def zhN (p:Pln) (s:State):State:=if zae p s=0 then za1 p s else State.z
end Go.Lev
namespace Go.Lev
open Go.Eng
set_option maxRecDepth 10000
set_option maxHeartbeats 4000000
variable {P:Program} {inv:Nat→Option Nat} {w0:World} {M:Nat→Prop}
def lkS (p:Pln) (s:State) (n:Int):State:=if lkC p s n=0 then zgi s n (lkW p s n).asks else State.z
theorem zia (hH:HasAll P inv) (hI:HasIds P inv) (p:Pln) (hp:Sm p) (s:State) (hs:SmS s) (n:Int):PC P inv 156 [.agg p.c,.agg s.c,.n n] (·=.tup [.agg (lkS p s n).c,.n (lkC p s n)]):=by
 unfold lkS
 by_cases he:lkC p s n=0
 ·have:=(zmS hH hI p hp s hs n he).pc
  rw[zdW]at this
  rw[if_pos he,he]
  exact this
 ·have c0:=zib hH hI p hp s hs n
  rw[if_neg he]
  generalize lkC p s n=e at c0 he ⊢
  generalize lkW p s n=w at c0
  refine PC.fn hH cd156 fun w0 M Q hM hE hQ hR=>?_;dsimp only[cd156,qm,ql,qf,qi,qb,qc,qp,qv,qN,qT,qF,qt]at hQ ⊢
  (repeat' first|refine zaa [0,1,2,3,4,6,7,8,9,11,12,21,27,28,29,30,43,44,45,54] fun K hK=>?_|(refine hK.go ?_;clear hK K)|with_reducible exact wT|refine wA ?_|(refine wB (fun h=>?_) (fun h=>?_)<;>first|exact wN h|subst (h:(_:Bool)=_)|skip)|(refine wQ ?_;clear hQ hR hE hM)|refine wC c0 ?_|fail)
  all_goals first|rfl|(exfalso;contradiction)|skip
end Go.Lev
namespace Go.Lev
open Go.Eng
theorem ziX {H:List Int} {fr:Int→Bool}:∀ {l:List Int},zcW H fr l=0↔∀ x∈l,nth H x.toNat=0∧fr x=true
 |[]=>by simp[zcW]
 |x::r=>by
  rw[zcW]
  constructor
  ·intro h
   split at h
   ·rename_i h1
    split at h
    ·rename_i h2
     intro y hy
     rcases List.mem_cons.1 hy with rfl|hy
     ·exact ⟨h1,h2⟩
     ·exact ziX.1 h y hy
    ·cases h
   ·cases h
  ·intro h
   obtain ⟨h1,h2⟩:=h x (by simp)
   rw[if_pos h1,if_pos h2]
   exact ziX.2 fun y hy=>h y (by simp[hy])
def zbx (p:Pln) (i:Nat):List Int:=(zaj p (nth p.routes i)).1.path++(zaj p (nth p.routes i)).1.over
def zbk (p:Pln) (i:Nat):List AskR:=(zaj p (nth p.routes i)).1.asks
structure MaySet (p:Pln) (s:State) (n:Int) (i:Nat):Prop where
 st:zae p s=0
 lt:i<s.locks.length
 id:(nth s.locks i).id=n
 ph:(nth s.locks i).phase=0
 sec:∀ x∈zbx p i,nth (zaF p s).1 x.toNat=0∧ze1 s x=0
 ask:∀ a∈zbk p i,zch s a.pnt=a.lie∨(nth (zaF p s).2.1 a.pnt.toNat=0∧ze1 s (zdI p a.pnt)=0)
theorem zko {p:Pln} {s:State} (ho:OkP p) (h:zal p s=true) {A:List Int} {a:AskR}:zlu p s A a=true↔zch s a.pnt=a.lie∨(nth A a.pnt.toNat=0∧ze1 s (zdI p a.pnt)=0):=by
 unfold zlu
 rw[zj0 ho h]
 simp
theorem lkC_iff {p:Pln} {s:State} {n:Int}:lkC p s n=0↔∃ i,MaySet p s n i:=by
 constructor
 ·intro h
  have hst:zae p s=0:=by
   unfold lkC at h
   split at h
   ·assumption
   ·exact h
  rcases za3 Lock.id n s.locks with ⟨_,hno⟩|⟨i,hi,_,hid⟩
  ·rw[lkC_no hst hno]at h;cases h
  ·rw[zoh hst hi hid]at h
   split at h
   ·rename_i hph
    unfold setE at h
    have ho:=zao hst
    have hpa:=(zad hst).2.1
    split at h
    ·rename_i h1
     split at h
     ·rename_i h2
      refine ⟨i,hst,hi,hid,hph,fun x hx=>?_,fun a ha=>(zko ho hpa).1 (List.all_eq_true.1 h2 a ha)⟩
      have:=ziX.1 h1 x hx
      rw[zj0 ho hpa,decide_eq_true_eq]at this
      exact this
     ·cases h
    ·rename_i h1;exact absurd h h1
   ·cases h
 ·rintro ⟨i,hst,hi,hid,hph,h1,h2⟩
  have ho:=zao hst
  have hpa:=(zad hst).2.1
  rw[zoh hst hi hid,if_pos hph]
  unfold setE
  have h3:zcW (zaF p s).1 (frT s) ((zaj p (nth p.routes i)).1.path++(zaj p (nth p.routes i)).1.over)=0:=ziX.2 fun x hx=>by
   rw[zj0 ho hpa,decide_eq_true_eq];exact h1 x hx
  have h4:(zaj p (nth p.routes i)).1.asks.all (zlu p s (zaF p s).2.1)=true:=List.all_eq_true.2 fun a ha=>(zko ho hpa).2 (h2 a ha)
  rw[if_pos h3,if_pos h4]
section
variable {p:Pln} {s:State} {n:Int} {i:Nat} (h:MaySet p s n i)
include h
theorem MaySet.lkW:lkW p s n=(zaj p (nth p.routes i)).1:=by
 unfold Go.Lev.lkW
 rw[if_pos h.st,zog h.st h.lt h.id,if_neg (by omega),Int.toNat_natCast,if_pos h.ph]
theorem MaySet.lkS:lkS p s n=zgi s n (zbk p i):=by
 unfold Go.Lev.lkS
 rw[if_pos (lkC_iff.2 ⟨i,h⟩),h.lkW]
 rfl
theorem MaySet.code:zae p (zgi s n (zbk p i))=0:=znK h.st h.lt h.ph h.id (fun m hm=>(h.sec m hm).1) fun a ha=>by
 rcases h.ask a ha with h1|h1
 ·exact .inl h1
 ·exact .inr h1.1
theorem MaySet.lock {j:Nat} (hj:j<s.locks.length):nth (zgi s n (zbk p i)).locks j=if j=i then ⟨n,1,0,0⟩ else nth s.locks j:=by
 rw[zeN h.st h.lt h.id _ hj,(zeS h.st h.lt h.ph).1,(zeS h.st h.lt h.ph).2]
theorem ziF (q:List AskR):(zgi s n q).locks.length=s.locks.length:=zcn _ _ _ _
theorem MaySet.hd {j:Nat} (hj:j<s.locks.length):zjm p (zgi s n (zbk p i)) j=if j=i then zbx p i else zjm p s j:=by
 unfold zjm
 rw[h.lock hj]
 by_cases e:j=i
 ·subst e
  rw[if_pos rfl,if_pos rfl]
  unfold zbm
  rw[if_neg (by dsimp only;omega)]
  rfl
 ·rw[if_neg e,if_neg e]
theorem MaySet.as {j:Nat} (hj:j<s.locks.length):znb p (zgi s n (zbk p i)) j=if j=i then zbk p i else znb p s j:=by
 unfold znb
 rw[h.lock hj]
 by_cases e:j=i
 ·subst e
  rw[if_pos rfl,if_pos rfl]
  unfold zbz
  rw[if_neg (by dsimp only;omega)]
  refine List.filter_eq_self.2 fun a _=>?_
  simp only[zcX,Bool.or_eq_true,decide_eq_true_eq]
  omega
 ·rw[if_neg e,if_neg e]
theorem MaySet.rt:nth p.routes i∈p.routes:=by
 have:=zap (zad h.st).2.1
 have:=h.lt
 exact zaf (by omega)
theorem MaySet.secR {x:Int} (hx:x∈zbx p i):zhg p x=true∧0≤x:=by
 have ho:=zao h.st
 have hwp:=zbG ((za0 (zad h.st).1).2.1 _ h.rt)
 unfold zbx at hx
 rw[hwp.1,hwp.2.1]at hx
 obtain ⟨q,hq,e⟩:=(zdi ho h.rt).1 x hx
 have:=zcA ho hq
 exact ⟨List.any_eq_true.2 ⟨q,hq,by simpa using e⟩,by omega⟩
theorem MaySet.holds {x:Int} (hx:x∈zbx p i):nth (zaF p (zgi s n (zbk p i))).1 x.toNat=n:=by
 have hi':i<(zgi s n (zbk p i)).locks.length:=by rw[ziF h];exact h.lt
 have:=(ze4 h.code hi' (h.secR hx).2).2 (by rw[h.hd h.lt,if_pos rfl];exact hx)
 rw[this,h.lock h.lt,if_pos rfl]
theorem MaySet.asks {a:AskR} (ha:a∈zbk p i):nth (zaF p (zgi s n (zbk p i))).2.1 a.pnt.toNat=a.lie:=by
 have hi':i<(zgi s n (zbk p i)).locks.length:=by rw[ziF h];exact h.lt
 exact ask_is h.code hi' (by rw[h.as h.lt,if_pos rfl];exact ha)
theorem MaySet.callsIn {a:AskR} (ha:a∈zbk p i):zch (zgi s n (zbk p i)) a.pnt=a.lie:=by
 have ho:=zao h.st
 have hpa:=(zad h.st).2.1
 rw[zfc]
 refine zfb _ _ (by rw[zcT hpa];exact zcD ho) (zfN (zad h.st).1 h.rt) a ha ?_
 obtain ⟨x,hx,ex⟩:=(zbv ho h.rt ha).1
 rw[zcT hpa,←ex]
 exact List.mem_map_of_mem hx
end
end Go.Lev
namespace Go.Lev
open Go.Eng
set_option maxRecDepth 10000
set_option maxHeartbeats 4000000
variable {P:Program} {inv:Nat→Option Nat} {w0:World} {M:Nat→Prop}
def zmz (s:State) (n:Int):Bool:=s.locks.any fun x=>decide (n=x.id)&&(decide (1=x.phase)&&(decide (0=x.gone)&&decide (0=x.left)))
def lieT (s:State) (a:AskR):Bool:=s.switches.any fun x=>decide (x.id=a.pnt)&&decide (x.lie=a.lie)
def ziP (s:State) (n:Int) (w:WayR):Bool:=zmz s n&&(!(w.path.any fun m=>!frT s m)&&(!(w.over.any fun m=>!frT s m)&&!(w.asks.any fun a=>!lieT s a)))
section
variable (hH:HasAll P inv) (s:State) (hs:SmS s)
include hH hs
end
end Go.Lev
namespace Go.Lev
open Go.Eng
set_option maxRecDepth 10000
set_option maxHeartbeats 4000000
variable {P:Program} {inv:Nat→Option Nat} {w0:World} {M:Nat→Prop}
def bool1 (b:Bool):List AV:=[.b b]
instance:Cells bool1 1:=⟨fun _=>rfl,fun _=>rfl⟩
theorem chunks_b (l:List Bool):zby 1 l.length (l.map AV.b)=l.map bool1:=by
 induction l with
 |nil=>rfl
 |cons x l ih =>
  simp only[List.length_cons,List.map_cons,zby,List.take_succ_cons,List.take_zero,List.drop_succ_cons,List.drop_zero,ih]
  rfl
attribute [go_sem] bool1 chunks_b
def zc7 (p:Pln) (s:State) (r:Rte):Bool:=ziP s r.id (zaj p r).1
def zes (p:Pln) (s:State):List Bool:=p.routes.map (zc7 p s)
def zfz (p:Pln) (s:State):List Bool:=if zae p s=0 then zes p s else []
def rtIx (p:Pln) (n:Int):Int:=zbn (fun x=>decide (Rte.id x=n)) 0 p.routes
def isSgn (p:Pln) (n:Int):Bool:=p.signals.any fun x=>decide (x.id=n)
def prR (p:Pln) (s:State) (n:Int):Bool:=if rtIx p n<0 then false else zc7 p s (nth p.routes (rtIx p n).toNat)
def prC (p:Pln) (s:State) (n:Int):Int:=if zae p s=0 then (if rtIx p n<0 then 6 else 0) else zae p s
def goB (p:Pln) (s:State) (n:Int):Bool:=p.routes.any fun r=>decide (r.entry=n)&&zc7 p s r
def sgC (p:Pln) (s:State) (n:Int):Int:=if zae p s=0 then (if isSgn p n=true then 0 else 6) else zae p s
end Go.Lev
namespace Go.Lev
open Go.Eng
structure Prvd (p:Pln) (s:State) (i:Nat):Prop where
 ph:(nth s.locks i).phase=1
 sec:∀ x∈zbx p i,ze1 s x=0
 ask:∀ a∈zbk p i,∀ k,k<s.switches.length→(nth s.switches k).id=a.pnt→(nth s.switches k).lie=a.lie
def pjF (s:State) (secs:List Int) (asks:List AskR) (b0:Bool):Bool :=
 zdM (fun i (t:Bool) zcK=>zdM (fun k (t:Bool) next2=>next2 (t&&(!decide ((nth s.tracks k).id=nth secs i)||decide ((nth s.tracks k).is=0)))) (fun t=>zcK t) s.tracks.length 0 t)
  (fun t=>zdM (fun i (t:Bool) zcK=>zdM (fun k (t:Bool) next2=>next2 (t&&(!decide ((nth s.switches k).id=(nth asks i).pnt)||decide ((nth s.switches k).lie=(nth asks i).lie)))) (fun t=>zcK t) s.switches.length 0 t)
   (fun t=>t) asks.length 0 t)
  secs.length 0 b0
end Go.Lev
namespace Go.Lev
open Go.Eng
section
variable {p:Pln} {s:State} {n m:Int} {i j:Nat} (h:MaySet p s n i)
include h
theorem MaySet.two (g:MaySet p (zgi s n (zbk p i)) m j):(∀ x∈zbx p i,x∉zbx p j)∧∀ a∈zbk p i,∀ b∈zbk p j,a.pnt=b.pnt→a.lie=b.lie:=by
 have hn:=zi0 h.st h.lt
 rw[h.id]at hn
 refine ⟨fun x hx hx2=>?_,fun a ha b hb e=>?_⟩
 ·have h1:=h.holds hx
  rw[(g.sec x hx2).1]at h1
  omega
 ·rcases g.ask b hb with h1|h1
  ·rw[←e,h.callsIn ha]at h1
   exact h1
  ·have h2:=h.asks ha
   rw[e,h1.1]at h2
   have:=(zbv (zao h.st) h.rt ha).2.2
   omega
end
def othF (q r:List AskR):Bool :=
 zdM (fun i (t:Bool) zcK=>zdM (fun k (t:Bool) next2=>next2 (t||decide ((nth q i).pnt=(nth r k).pnt)&&!decide ((nth q i).lie=(nth r k).lie))) (fun t=>zcK t) r.length 0 t) (fun t=>t) q.length 0 false
def shrs (a b:List Int):Bool:=a.any fun x=>b.any fun y=>decide (x=y)
end Go.Lev
namespace Go.Lev
open Go.Eng
set_option maxRecDepth 10000
set_option maxHeartbeats 4000000
variable {P:Program} {inv:Nat→Option Nat} {w0:World} {M:Nat→Prop}
structure Shw where
 sig:Int
 asp:Int
 deriving DecidableEq,Inhabited
def Shw.c (x:Shw):List AV:=[.n x.sig,.i .u8 x.asp]
instance:Cells Shw.c 2:=⟨fun _=>rfl,fun _=>rfl⟩
attribute [go_sem] Shw.c
def goX (p:Pln) (f:Rte→Bool) (n:Int):Int:=zbn (fun r=>decide (r.entry=n)&&f r) 0 p.routes
def aspS (p:Pln) (f:Rte→Bool) (n:Int):Int:=if goX p f n<0 then 0 else if (nth p.routes (goX p f n).toNat).exit≠0∧0≤goX p f (nth p.routes (goX p f n).toNat).exit then 2 else 1
def shwL (p:Pln) (s:State):List Shw:=p.signals.map fun x=>⟨x.id,aspS p (zc7 p s) x.id⟩
def shwR (p:Pln) (s:State):List Shw:=if zae p s=0 then shwL p s else []
def callL (s:State):List Flk:=(s.switches.filter fun x=>!decide (x.call=0)).map fun x=>⟨x.id,x.call⟩
def callLR (p:Pln) (s:State):List Flk:=if zae p s=0 then callL s else []
end Go.Lev
namespace Go.Lev
open Go.Eng
def inOf (p:Pln) (n:Int):Join:=zl7 (sig p n) ⟨0,0⟩ p.sections
theorem Prvd.hd {p:Pln} {s:State} {i:Nat} (h:zae p s=0) (hi:i<p.routes.length) (g:Prvd p s i):zjm p s i=zbx p i:=by
 have hpa:=(zad h).2.1
 have hl:=zej hpa (show i<s.locks.length by have:=zap hpa;omega)
 simp only[zcp,zaA,g.ph,Bool.and_eq_true]at hl
 have h3:=hl.2
 simp at h3
 unfold zjm zbm zbx
 rw[g.ph,h3.1,if_neg (by decide)]
 rfl
end Go.Lev
namespace Go.Lev
open Go.Eng
def On (l l':Lock):Prop:=l'=l∨(l'.id=l.id∧(l'.phase=0∨(¬l.phase=0∧¬l'.phase=0∧l.gone≤l'.gone)))
theorem On.held {l l':Lock} (h:On l l') (w:WayR):∀ m∈zbm w l',m∈zbm w l:=by
 intro m hm
 rcases h with rfl|⟨_,h|⟨h1,h2,h3⟩⟩
 ·exact hm
 ·unfold zbm at hm;rw[if_pos h]at hm;cases hm
 ·unfold zbm at hm ⊢
  rw[if_neg h2]at hm
  rw[if_neg h1]
  rcases List.mem_append.1 hm with h4|h4
  ·refine List.mem_append.2 (.inl ?_)
   obtain ⟨k,hk,e⟩:=List.mem_iff_getElem.1 h4
   rw[List.getElem_drop]at e
   rw[List.length_drop]at hk
   have:l.gone.toNat≤l'.gone.toNat:=by omega
   refine List.mem_iff_getElem.2 ⟨l'.gone.toNat-l.gone.toNat+k,by rw[List.length_drop];omega, ?_⟩
   rw[List.getElem_drop,←e]
   congr 1
   omega
  ·exact List.mem_append.2 (.inr h4)
theorem On.asks {l l':Lock} (h:On l l') (w:WayR):∀ a∈(zbz w l').filter (zcX l'),a∈(zbz w l).filter (zcX l):=by
 intro a ha
 rcases h with rfl|⟨_,h|⟨h1,h2,h3⟩⟩
 ·exact ha
 ·unfold zbz at ha;rw[if_pos h]at ha;cases ha
 ·unfold zbz at ha ⊢
  rw[if_neg h2]at ha
  rw[if_neg h1]
  obtain ⟨h4,h5⟩:=List.mem_filter.1 ha
  refine List.mem_filter.2 ⟨h4, ?_⟩
  simp only[zcX,Bool.or_eq_true,decide_eq_true_eq]at h5 ⊢
  omega
theorem On.id {l l':Lock} (h:On l l'):l'.id=l.id:=by
 rcases h with rfl|h
 ·rfl
 ·exact h.1
theorem On.trans {a b c:Lock} (h:On a b) (g:On b c):On a c:=by
 rcases h with rfl|⟨h1,h2⟩
 ·exact g
 ·rcases g with rfl|⟨g1,g2⟩
  ·exact .inr ⟨h1,h2⟩
  ·refine .inr ⟨g1.trans h1, ?_⟩
   rcases g2 with g2|⟨g2,g3,g4⟩
   ·exact .inl g2
   ·rcases h2 with h2|⟨h2,h3,h4⟩
    ·exact absurd h2 g2
    ·exact .inr ⟨h2,g3,by omega⟩
structure OnS (p:Pln) (s t:State):Prop where
 trk:t.tracks=s.tracks
 swt:t.switches=s.switches
 len:t.locks.length=s.locks.length
 on:∀ i,i<s.locks.length→On (nth s.locks i) (nth t.locks i)
 ok:∀ i,i<s.locks.length→zcp (nth t.locks i) (nth p.routes i)=true
section
variable {p:Pln} {s t:State} (h:zae p s=0) (g:OnS p s t)
include h g
theorem OnS.parts:zal p t=true:=by
 have h2:=(zad h).2.1
 have hl:=zap h2
 unfold zal at h2 ⊢
 simp only[Bool.and_eq_true,zcZ]at h2 ⊢
 rw[g.trk,g.swt,g.len]
 exact ⟨h2.1,h2.2.1,h2.2.2.1,g.ok⟩
theorem OnS.code:zae p t=0:=by
 obtain ⟨h1,_,h3,h4⟩:=zcy.1 h
 refine zcy.2 ⟨h1,g.parts h,fun i j hi hj hne m hm hm'=>?_,fun i hi a ha=>?_⟩
 ·rw[g.len]at hi hj
  exact h3 i j hi hj hne m ((g.on i hi).held _ m hm) ((g.on j hj).held _ m hm')
 ·rw[g.len]at hi
  have:zch t a.pnt=zch s a.pnt:=by rw[zfc,zfc,g.swt]
  rw[this]
  exact h4 i hi a ((g.on i hi).asks _ a ha)
theorem OnS.sm (hs:SmS s):SmS t:=⟨by rw[g.trk];exact hs.1,by rw[g.swt];exact hs.2.1,by rw[g.len];exact hs.2.2⟩
end
theorem OnS.trans {p:Pln} {a b c:State} (h:OnS p a b) (g:OnS p b c):OnS p a c :=
 ⟨g.trk.trans h.trk,g.swt.trans h.swt,g.len.trans h.len,fun i hi=>(h.on i hi).trans (g.on i (by rw[h.len];exact hi)),fun i hi=>g.ok i (by rw[h.len];exact hi)⟩
end Go.Lev
namespace Go.Lev
open Go.Eng
structure Giv (r:Rte) (is:Int→Int) (l l':Lock):Prop where
 same:l'.phase=1∨l'.phase=4→l'=l
 rest:l.phase=0→l'=l
 gone:¬l'.phase=0→l.gone≤l'.gone
 free:¬l'.phase=0→∀ m∈r.path.drop l.gone.toNat,m∉r.path.drop l'.gone.toNat→is m=0
theorem Giv.refl (r:Rte) (is:Int→Int) (l:Lock):Giv r is l l:=⟨fun _=>rfl,fun _=>rfl,fun _=>Int.le_refl _,fun _ _ h h'=>absurd h h'⟩
theorem Giv.trans {r:Rte} {is:Int→Int} {a b c:Lock} (h:Giv r is a b) (g:Giv r is b c):Giv r is a c:=by
 have hb:¬c.phase=0→¬b.phase=0:=fun h1 h2=>h1 (by rw[g.rest h2];exact h2)
 refine ⟨fun e=>?_,fun e=>?_,fun e=>Int.le_trans (h.gone (hb e)) (g.gone e),fun e m hm hm'=>?_⟩
 ·have h1:=g.same e
  rw[h1]at e ⊢
  exact h.same e
 ·have h1:=h.rest e
  rw[h1]at g
  exact g.rest e
 ·by_cases h1:m∈r.path.drop b.gone.toNat
  ·exact g.free e m h1 hm'
  ·exact h.free (hb e) m hm h1
section
variable {p:Pln} {s:State} (h:zae p s=0) {i:Nat} (hi:i<s.locks.length)
include h hi
end
def pgvB (a b:Lock) (was now is:Int):Bool :=
 (decide (b.phase=1)&&!decide (a.phase=1))||((decide (b.phase=4)&&!decide (a=b))||((decide (a.phase=0)&&!decide (a=b))||((decide (b.gone<a.gone)&&!decide (b.phase=0)) ||
  (decide (a.id=was)&&(decide (now=0)&&(!decide (was=0)&&(!decide (is=0)&&!decide (b.phase=0))))))))
section
variable {p:Pln} {s:State} (h:zae p s=0) {n:Int}
include h
end
end Go.Lev
namespace Go.Lev
open Go.Eng
def zhV (f:Nat→Bool):Nat→Int
 |0=>0
 |k+1=>if f k=true then zhV f k+1 else zhV f k
def cnt2 (g:Nat→Nat→Bool) (n:Nat):Nat→Int
 |0=>0
 |i+1=>cnt2 g n i+zhV (g i) n
def isN (l:List Track) (n:Int):Nat→Int
 |0=>0
 |k+1=>if (nth l k).id=n then (nth l k).is else isN l n k
def pkB (a b:Lock) (tk fr:Int):Bool:=((decide (a.phase=1)||decide (a.phase=4))&&decide (decide (0<tk)=decide (a=b)))||(decide (tk=0)&&(decide (fr=0)&&!decide (a=b)))
def pkG (s:State) (path:List Int) (v:Int) (i k:Nat):Bool:=decide ((nth s.tracks k).id=nth path i)&&decide ((nth s.tracks k).is=v)
end Go.Lev
namespace Go.Lev
open Go.Eng
set_option maxRecDepth 10000
set_option maxHeartbeats 4000000
variable {P:Program} {inv:Nat→Option Nat} {w0:World} {M:Nat→Prop}
def planA:Pln:=⟨1,0,[⟨1,0,[⟨0,0⟩,⟨2,0⟩]⟩,⟨2,0,[⟨1,1⟩,⟨0,0⟩]⟩],[],[⟨1,1,1⟩],[⟨1,1,0,[2],[],[],3⟩]⟩
def stA:State:=⟨[⟨1,2⟩,⟨2,2⟩],[],[⟨1,0,0,0⟩]⟩
end Go.Lev
namespace Go.Lev
open Go.Eng
theorem of_ar {n:Nat} {e:Sh} {d:D} (h:Sh.ok (.ar n e) d):∃ l,d=.l l∧l.length=n∧∀ x∈l,Sh.ok e x:=by
 cases d with
 |l l=>exact ⟨l,rfl,by simpa only[Sh.ok] using h⟩
 |t _=>exact h.elim
 |n _=>exact h.elim
theorem arg_arr2 {d:D} (h:Sh.ok (.ar 2 (.i .i64)) d):∃ a b:Int,Sh.arg (.ar 2 (.i .i64)) d=.agg [.n a,.n b]:=by
 obtain ⟨l,rfl,hl,h⟩:=of_ar h
 match l,hl,h with
 |[x,y],_,h =>
  obtain ⟨a,rfl,_⟩:=zbd (h x (by simp))
  obtain ⟨b,rfl,_⟩:=zbd (h y (by simp))
  exact ⟨a,b,rfl⟩
theorem arg_bool {d:D} (h:Sh.ok .b d):∃ t,Sh.arg .b d=.b t:=by
 cases d with
 |t t=>exact ⟨t,rfl⟩
 |l _=>exact h.elim
 |n _=>exact h.elim
end Go.Lev
namespace Go.Lev
open Go.Eng
set_option maxRecDepth 10000
set_option maxHeartbeats 4000000
variable {P:Program} {inv:Nat→Option Nat} {w0:World} {M:Nat→Prop}
def planB:Pln:=⟨1,0,[⟨1,0,[⟨0,0⟩,⟨2,0⟩]⟩,⟨2,5,[⟨1,1⟩,⟨3,0⟩,⟨4,0⟩]⟩,⟨3,0,[⟨2,1⟩,⟨0,0⟩]⟩,⟨4,0,[⟨2,2⟩,⟨0,0⟩]⟩],[⟨5,2⟩],[⟨1,1,1⟩],[⟨1,1,0,[2,3],[],[],3⟩]⟩
def stB:State:=⟨[⟨1,2⟩,⟨2,2⟩,⟨3,2⟩,⟨4,2⟩],[⟨5,0,0⟩],[⟨1,0,0,0⟩]⟩
def stB2:State:=⟨[⟨1,2⟩,⟨2,0⟩,⟨3,2⟩,⟨4,2⟩],[⟨5,0,0⟩],[⟨1,0,0,0⟩]⟩
def stB3:State:=⟨[⟨1,2⟩,⟨2,0⟩,⟨3,2⟩,⟨4,2⟩],[⟨5,0,2⟩],[⟨1,0,0,0⟩]⟩
end Go.Lev
namespace Go.Lev
open Go.Eng
set_option maxRecDepth 10000
set_option maxHeartbeats 4000000
variable {P:Program} {inv:Nat→Option Nat} {w0:World} {M:Nat→Prop}
def zcf:Pln:=⟨1,0,[⟨1,0,[⟨0,0⟩,⟨2,0⟩]⟩,⟨2,5,[⟨1,1⟩,⟨3,0⟩,⟨4,0⟩]⟩,⟨3,0,[⟨2,1⟩,⟨0,0⟩]⟩,⟨4,0,[⟨2,2⟩,⟨0,0⟩]⟩],[⟨5,2⟩],[⟨1,1,1⟩],[⟨1,1,0,[2,3],[],[],3⟩,⟨2,1,0,[2,4],[],[],4⟩]⟩
theorem smC:Sm zcf:=⟨by decide,by decide,by decide,by decide,by decide,by decide⟩
def stN:State:=⟨[⟨1,2⟩,⟨2,2⟩,⟨3,2⟩,⟨4,2⟩],[⟨5,0,0⟩],[⟨1,0,0,0⟩,⟨2,0,0,0⟩]⟩
def stQ:State:=⟨[⟨1,0⟩,⟨2,0⟩,⟨3,0⟩,⟨4,0⟩],[⟨5,0,0⟩],[⟨1,0,0,0⟩,⟨2,0,0,0⟩]⟩
def zkA:State:=⟨[⟨1,0⟩,⟨2,0⟩,⟨3,0⟩,⟨4,0⟩],[⟨5,0,1⟩],[⟨1,1,0,0⟩,⟨2,0,0,0⟩]⟩
theorem smQ:SmS stQ:=⟨by decide,by decide,by decide⟩
theorem okC:zbq zcf=true:=by decide +kernel
theorem atC:atS zcf=stN:=by decide +kernel
def zhS (_:Nat) (t:Track):Track:=⟨t.id,0⟩
theorem zh1 (b:Nat) (s:State) (t:Bool):zdG 4 (zkz b s) (.tup [zky b s,.b t])=.tup [.agg s.c,.b t]:=by
 rw[zeg,zbM,zbM,zdt,zjq,sn_b]
end Go.Lev
namespace Go.Lev
open Go.Eng
set_option maxRecDepth 10000
set_option maxHeartbeats 4000000
variable {P:Program} {inv:Nat→Option Nat} {w0:World} {M:Nat→Prop}
def hasT (s:State) (n:Int):Bool:=s.tracks.any fun t=>decide (t.id=n)
def hasW (s:State) (n:Int):Bool:=s.switches.any fun t=>decide (t.id=n)
def ibF (s A B:State) (n v e1 e2:Int):Bool :=
 zdM (fun k t zcK =>
   cond (decide (e1=0)&&(decide ((nth s.tracks k).id=n)&&!decide ((nth A.tracks k).is=v)||!decide ((nth s.tracks k).id=n)&&!(decide ((nth A.tracks k).id=(nth s.tracks k).id)&&decide ((nth A.tracks k).is=(nth s.tracks k).is))))
    false (zcK (t||decide ((nth s.tracks k).id=n))))
  (fun t=>zdM (fun k u zcK =>
    cond (decide (e2=0)&&(decide ((nth s.switches k).id=n)&&(!decide ((nth B.switches k).lie=v)||!decide ((nth B.switches k).call=(nth s.switches k).call))||!decide ((nth s.switches k).id=n)&&!(decide ((nth B.switches k).id=(nth s.switches k).id)&&(decide ((nth B.switches k).lie=(nth s.switches k).lie)&&decide ((nth B.switches k).call=(nth s.switches k).call)))))
     false (zcK (u||decide ((nth s.switches k).id=n))))
   (fun u=>decide (decide (e1=0)=(t&&(decide (v=0)||decide (v=1))))&&decide (decide (e2=0)=(u&&(decide (0≤v)&&decide (v≤2)))))
   s.switches.length 0 false)
  s.tracks.length 0 false
end Go.Lev
namespace Go.Lev
open Go.Eng
set_option maxRecDepth 10000
set_option maxHeartbeats 4000000
variable {P:Program} {inv:Nat→Option Nat} {w0:World} {M:Nat→Prop}
theorem setQ1:lkC zcf stQ 1=0:=by decide +kernel
theorem setQ2:lkS zcf stQ 1=zkA:=by decide +kernel
def stQ2:State:=⟨[⟨1,0⟩,⟨2,0⟩,⟨3,0⟩,⟨4,0⟩],[⟨5,1,1⟩],[⟨1,1,0,0⟩,⟨2,0,0,0⟩]⟩
theorem smQ1:SmS zkA:=⟨by decide,by decide,by decide⟩
end Go.Lev
namespace Go.Eng
structure ActD where
 kind:Int
 id:Int
 value:Int
 data:List Int
 deriving DecidableEq,Inhabited
def byte1 (x:Int):List AV:=[.i .u8 x]
instance:Cells byte1 1:=⟨fun _=>rfl,fun _=>rfl⟩
def ActD.c (x:ActD):List AV:=[.i .u8 x.kind,.n x.id,.n x.value,.sl 1 (x.data.map byte1)]
instance:Cells ActD.c 4:=⟨fun _=>rfl,fun _=>rfl⟩
theorem rep7 {α:Type} (a:α):List.replicate 7 a=[a,a,a,a,a,a,a]:=rfl
attribute [go_sem] byte1 ActD.c rep7
end Go.Eng
namespace Go.Lev
open Go.Eng
set_option maxRecDepth 10000
set_option maxHeartbeats 2000000
variable {P:Program} {inv:Nat→Option Nat} {w0:World} {M:Nat→Prop}
def actC (p:Pln) (s:State) (a:ActD):Int :=
 if a.kind=1 then zcB p s a.id a.value else if a.kind=2 then zcG p s a.id a.value else if a.kind=3 then zae p s
 else if a.kind=4 then callC p s a.id a.value else if a.kind=5 then lkC p s a.id else if a.kind=6 then cnC p s a.id else 2
def actS (p:Pln) (s:State) (a:ActD):State :=
 if a.kind=1 then secR p s a.id a.value else if a.kind=2 then detR p s a.id a.value else if a.kind=3 then tickR p s
 else if a.kind=4 then callR p s a.id a.value else if a.kind=5 then lkS p s a.id else if a.kind=6 then cnR p s a.id else State.z
def doC (p:Pln) (s:State) (a:ActD):Int:=if zae p s=0 then (if actC p s a=0 then zae p (actS p s a) else actC p s a) else zae p s
def doR (p:Pln) (s:State) (a:ActD):State:=if zae p s=0 then (if actC p s a=0 then zhN p (actS p s a) else State.z) else State.z
end Go.Lev
namespace Go.Lev
open Go.Eng
set_option maxRecDepth 10000
set_option maxHeartbeats 4000000
variable {P:Program} {inv:Nat→Option Nat} {w0:World} {M:Nat→Prop}
def sfF (p:Pln) (s:State) (n:Int) (i:Nat):Bool:=decide ((nth p.routes i).entry=n)&&zc7 p s (nth p.routes i)
end Go.Lev
namespace Go.Lev
open Go.Eng
set_option maxRecDepth 10000
set_option maxHeartbeats 4000000
variable {P:Program} {inv:Nat→Option Nat} {w0:World} {M:Nat→Prop}
def stQ3:State:=⟨[⟨1,0⟩,⟨2,1⟩,⟨3,0⟩,⟨4,0⟩],[⟨5,0,1⟩],[⟨1,1,0,0⟩,⟨2,0,0,0⟩]⟩
def stQ4:State:=⟨[⟨1,0⟩,⟨2,1⟩,⟨3,0⟩,⟨4,0⟩],[⟨5,0,1⟩],[⟨1,2,0,0⟩,⟨2,0,0,0⟩]⟩
end Go.Lev
