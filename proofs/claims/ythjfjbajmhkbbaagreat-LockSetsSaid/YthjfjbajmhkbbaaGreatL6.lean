/-
  A part of the engine that walks the functions' codes, and of the functions' contracts. Conditions: those that each theorem names.
-/
import Derived.Test.YthjfjbajmhkbbaaGreatL5
import Derived.IntWalk
set_option linter.unusedSimpArgs false
set_option linter.unusedVariables false
set_option linter.unusedSectionVars false
namespace Go.Eng
open Go.RowKit
theorem bo9:(∀ (α:Type) (a b:α),(cond true a b)=a)∧(∀ (α:Type) (a b:α),(cond false a b)=b)∧(∀ b:Bool,(true||b)=true)∧(∀ b:Bool,(b||true)=true)∧(∀ b:Bool,(false||b)=b)∧(∀ b:Bool,(b||false)=b)∧(∀ b:Bool,(true&&b)=b)∧(∀ b:Bool,(b&&true)=b)∧(∀ b:Bool,(false&&b)=false)∧(∀ b:Bool,(b&&false)=false)∧((!true)=false)∧((!false)=true)∧(∀ b:Bool,(!!b)=b)∧(∀ [Decidable True],decide True=true)∧(∀ [Decidable False],decide False=false)∧(∀ (α:Type) (a:α),(a=a)=True) :=
 ⟨fun _ _ _=>rfl,fun _ _ _=>rfl,fun _=>Bool.true_or _,fun _=>Bool.or_true _,fun _=>Bool.false_or _,fun _=>Bool.or_false _,fun _=>Bool.true_and _,fun _=>Bool.and_true _,fun _=>Bool.false_and _,fun _=>Bool.and_false _,rfl,rfl,fun _=>Bool.not_not _,@fun i=>decide_true i,@fun i=>decide_false i,fun _ _=>eq_self _⟩
theorem wX {A B:Prop} (a:A) (h:Rw A B:=by first|(simp only[h0,bo9,reduceCtorEq,Int.reduceEq,Nat.reduceEqDiff];exact zcl _)|(simp only[bo9,reduceCtorEq,Int.reduceEq,Nat.reduceEqDiff];exact zcl _)):B:=Eq.mp h a
def zaT {S R:Type} (body:Nat→S→(S→R)→R) (fin:S→R):Nat→Nat→S→R
 |0,_,s=>fin s
 |m+1,k,s=>body k s fun s'=>zaT body fin m (k+1) s'
section
variable {S R:Type} {body:Nat→S→(S→R)→R} {fin:S→R} {n k:Nat} {s:S}
theorem znP (h:k<n):zaT body fin (n-k) k s=body k s fun s'=>zaT body fin (n-(k+1)) (k+1) s':=by
 obtain ⟨m,hm⟩:∃ m,n-k=m+1:=⟨n-k-1,by omega⟩
 rw[hm,show n-(k+1)=m by omega]
 rfl
theorem zat {B:Nat→S→(S→R)→R} (hB:B=body) (h:k<n):zaT B fin (n-k) k s=body k s fun s'=>zaT B fin (n-(k+1)) (k+1) s':=by rw[znP h];subst hB;rfl
theorem zaO (h:n≤k):zaT body fin (n-k) k s=fin s:=by
 rw[show n-k=0 by omega]
 rfl
theorem zaP {X:R} (hF:zaT body fin n 0 s=X) {G:Prop} (h:∀ B F,B=body→F=fin→zaT B F (n-0) 0 s=X→G):G:=h _ _ rfl rfl hF
theorem zaK (good:R→Prop) (Inv:Nat→S→Prop) (h0:Inv 0 s) (hs:∀ k s zbi,k<n→Inv k s→(∀ s',Inv (k+1) s'→good (zbi s'))→good (body k s zbi)) (hf:∀ s,Inv n s→good (fin s)):good (zaT body fin n 0 s):=by
 have key:∀ m k s,k+m=n→Inv k s→good (zaT body fin m k s):=by
  intro m
  induction m with
  |zero=>intro k s hk hi;exact hf s (by rw[show n=k by omega];exact hi)
  |succ m ih=>intro k s hk hi;exact hs k s _ (by omega) hi fun s' h'=>ih (k+1) s' (by omega) h'
 exact key n 0 s (by omega) h0
end
mutual
def okS (g:Nat→Bool):AV→Bool
 |.agg cs=>zog g cs
 |.tup cs=>zog g cs
 |.fn _ cs=>zog g cs
 |.ptr l _ _=>g l
 |.sm l _ _ _ _=>g l
 |.i _ _=>true|.b _=>true|.v _=>true|.u=>true|.s0 _=>true|.sl _ _=>true|.ip _ _ _ _=>true|.mp _=>true|.top=>true
def zog (g:Nat→Bool):List AV→Bool
 |[]=>true
 |x::xs=>okS g x&&zog g xs
end
def okF:Nat→AS→Nat→Bool
 |0,_,_=>false
 |k+1,σ,l=>match zaF σ l with
  |some (.cells cs _)=>zog (okF k σ) cs
  |_=>false
section
variable {f f':Nat→Option (List AV)} {g:Nat→Bool} (h:∀ l,g l=true→f' l=f l)
include h
mutual
theorem zoy:∀ x:AV,okS g x=true→za1 f' x=za1 f x
 |.agg cs,e=>by simp only[okS]at e;simp only[za1,zdu cs e]
 |.tup cs,e=>by simp only[okS]at e;simp only[za1,zdu cs e]
 |.fn j cs,e=>by simp only[okS]at e;simp only[za1,zdu cs e]
 |.ptr l ver off,e=>by simp only[okS]at e;simp only[za1,h l e]
 |.sm l ver off n sz,e=>by simp only[okS]at e;simp only[za1,h l e]
 |.i _ _,_=>by simp only[za1]
 |.b _,_=>by simp only[za1]
 |.v _,_=>by simp only[za1]
 |.u,_=>by simp only[za1]
 |.s0 _,_=>by simp only[za1]
 |.sl _ _,_=>by simp only[za1]
 |.ip _ _ _ _,_=>by simp only[za1]
 |.mp _,_=>by simp only[za1]
 |.top,_=>by simp only[za1]
theorem zdu:∀ xs:List AV,zog g xs=true→zcb f' xs=zcb f xs
 |[],_=>by simp only[zcb]
 |x::xs,e=>by
  simp only[zog,Bool.and_eq_true]at e
  simp only[zcb,zoy x e.1,zdu xs e.2]
end
end
theorem zkk {σ σ':AS} (hle:SLe σ σ'):∀ (k l:Nat),okF k σ l=true→zgD k σ' l=zgD k σ l
 |0,_,e=>by simp[okF]at e
 |k+1,l,e=>by
  simp only[okF]at e
  split at e
  ·rename_i cs r hg
   simp only[zgD,hg,hle l _ hg (by intro h;cases h),zdu (fun l=>zkk hle k l) cs e]
  ·cases e
def oks (k:Nat) (σ:List (Nat×AO)) (xs:List AV):Bool:=zog (okF k σ) xs
def ok1 (k:Nat) (σ:List (Nat×AO)) (x:AV):Bool:=okS (okF k σ) x
def okR (o:Option AO) (l:Nat) (K:List AV→Bool) (_:l=l):Bool:=match o with|some (.cells cs _)=>K cs|_=>false
theorem okR_c (cs:List AV) (r:Bool) (l:Nat) (K:List AV→Bool) (h:l=l):okR (some (.cells cs r)) l K h=K cs:=rfl
section
variable (k:Nat) (σ:List (Nat×AO))
theorem ok_i (q:IntKind) (n:Int):ok1 k σ (.i q n)=true:=by simp only[ok1,okS]
theorem ok_b (t:Bool):ok1 k σ (.b t)=true:=by simp only[ok1,okS]
theorem ok_v (x:Value):ok1 k σ (.v x)=true:=by simp only[ok1,okS]
theorem ok_u:ok1 k σ .u=true:=by simp only[ok1,okS]
theorem ok_s0 (sz:Nat):ok1 k σ (.s0 sz)=true:=by simp only[ok1,okS]
theorem ok_sl (sz:Nat) (es:List (List AV)):ok1 k σ (.sl sz es)=true:=by simp only[ok1,okS]
theorem ok_ip (sz:Nat) (es:List (List AV)) (i j:Nat):ok1 k σ (.ip sz es i j)=true:=by simp only[ok1,okS]
theorem ok_agg (cs:List AV):ok1 k σ (.agg cs)=oks k σ cs:=by simp only[ok1,okS,oks]
theorem ok_tup (cs:List AV):ok1 k σ (.tup cs)=oks k σ cs:=by simp only[ok1,okS,oks]
theorem ok_fn (j:Nat) (cs:List AV):ok1 k σ (.fn j cs)=oks k σ cs:=by simp only[ok1,okS,oks]
theorem ok_nil:oks k σ []=true:=by simp only[oks,zog]
theorem ok_cons (x:AV) (xs:List AV):oks k σ (x::xs)=(ok1 k σ x&&oks k σ xs):=by simp only[ok1,zog,oks]
theorem ok_ptr (l ver off:Nat):ok1 (k+1) σ (.ptr l ver off)=okR (zaF σ l) l (fun cs=>oks k σ cs) rfl:=by
 simp only[ok1,okS,okF,okR,oks]
theorem ok_sm (l ver off n sz:Nat):ok1 (k+1) σ (.sm l ver off n sz)=okR (zaF σ l) l (fun cs=>oks k σ cs) rfl:=by
 simp only[ok1,okS,okF,okR,oks]
end
mutual
theorem plain_ok (g:Nat→Bool):∀ x:AV,x.plain=true→okS g x=true
 |.agg cs,h=>by simp only[AV.plain]at h;simp only[okS];exact zed g cs h
 |.i _ _,_=>rfl|.b _,_=>rfl|.v _,_=>rfl|.sl _ _,_=>rfl|.ip _ _ _ _,_=>rfl
 |.tup _,h=>by simp[AV.plain]at h
 |.u,h=>by simp[AV.plain]at h
 |.s0 _,h=>by simp[AV.plain]at h
 |.ptr _ _ _,h=>by simp[AV.plain]at h
 |.sm _ _ _ _ _,h=>by simp[AV.plain]at h
 |.fn _ _,h=>by simp[AV.plain]at h
 |.mp _,h=>by simp[AV.plain]at h
 |.top,h=>by simp[AV.plain]at h
theorem zed (g:Nat→Bool):∀ xs:List AV,zaD xs=true→zog g xs=true
 |[],_=>rfl
 |x::xs,h=>by
  simp only[zaD,Bool.and_eq_true]at h
  simp only[zog,plain_ok g x h.1,zed g xs h.2,Bool.and_self]
end
theorem ok_flat {α:Type} {c:α→List AV} {sz:Nat} [h:Cells c sz] (k:Nat) (σ:AS) (l:List α):oks k σ (l.map c).flatten=true:=zed _ _ (zcB l)
theorem ok_bmap (k:Nat) (σ:AS) (l:List Bool):oks k σ (l.map AV.b)=true:=zed _ _ (zeF l)
theorem ok_imap (k:Nat) (σ:AS) (q:IntKind) (l:List Int):oks k σ (l.map (AV.i q))=true:=zed _ _ (zc2 q l)
attribute [go_sem] okR_c ok_i ok_b ok_v ok_u ok_s0 ok_sl ok_ip ok_agg ok_tup ok_fn ok_nil ok_cons ok_ptr ok_sm ok_flat ok_bmap ok_imap
section
variable {P:Program} {inv:Nat→Option Nat} {w0:World} {M:Nat→Prop} {σ:AS}
theorem zqO (hM:∀ b,M b→b<w0.heap.size) (k:Nat) {j:Nat} {args args':List AV} {r:AV} (h:PC P inv j args' (·=r)) (he:zb1 k σ args=args') (hok:oks k σ args=true) (hs:r.scalar=true) {K:AV→Prop} (hk:K r):PureK P inv w0 M σ j args K :=
 ⟨r,fun _ _ σ' hle=>zeH hM k h (by rw[←he];exact zdu (fun l=>zkk hle k l) args hok) hs ⟨rfl,rfl⟩,hk⟩
end
section
variable {P:Program} {inv:Nat→Option Nat} {w0:World} {M:Nat→Prop} {n N:Nat} {φ:AF} {σ:AS}
variable {l:Nat} {J:AF→AS→Prop} {Q:Exit→AF→AS→Prop}
theorem jt_ret:ziy l J Q .ret φ σ=Q .ret φ σ:=rfl
theorem zpB:ziy l J Q .normal φ σ=Q .normal φ σ:=rfl
theorem jt_exit (i:Nat):ziy l J Q (.exit i) φ σ=Q (.exit i) φ σ:=rfl
theorem jt_goto (l':Nat):ziy l J Q (.goto l') φ σ=(l'=l∧J φ σ):=rfl
attribute [go_sem] jt_ret zpB jt_exit jt_goto
end
section
variable {P:Program} {inv:Nat→Option Nat} {w0:World} {M:Nat→Prop} {n N:Nat} {φ:AF} {σ:AS}
end
end Go.Eng
namespace Go.Lev
open Go.Eng
set_option maxRecDepth 10000
set_option maxHeartbeats 4000000
variable {P:Program} {inv:Nat→Option Nat} {w0:World} {M:Nat→Prop}
def zgH (s:State) (n:Int):Int:=match s.tracks.find? fun t=>decide (t.id=n) with|some t=>t.is|none=>2
def zcn (p:Pln) (n:Int):Int:=match p.points.find? fun t=>decide (t.id=n) with|some t=>t.sec|none=>0
def zeJ (p:Pln) (s:State) (n:Int):Int:=if zag p s=0 then (if zcA p n=true then (if nth (zau p s).2.1 n.toNat=0 then (if zgH s (zcn p n)=0 then 0 else 171) else 170) else 6) else zag p s
def ziO (s:State) (n v:Int):State:=⟨s.tracks,zdZ Switch.id n (fun t=>⟨t.id,t.lie,v⟩) s.switches,s.locks⟩
def zcU (p:Pln) (s:State) (n v:Int):Int:=if zag p s=0 then (if zcA p n=true then (if v=1∨v=2 then zeJ p s n else 2) else 6) else zag p s
def zlc (p:Pln) (s:State) (n v:Int):State:=if zcU p s n v=0 then ziO s n v else State.z
theorem zfH {α:Type} [Inhabited α] (f:α→Int) {l:List α} (hn:(l.map f).Nodup) {k:Nat} (hk:k<l.length) {n:Int} (e:f (nth l k)=n):(l.find? fun t=>decide (f t=n))=some (nth l k):=by
 subst e
 exact zjY f hn (zab hk)
theorem zo6 {p:Pln} (h:OkP p) {x:Pnt} (hx:x∈p.points):∃ y∈p.sections,y.id=x.sec:=by
 obtain ⟨s,hs,_,_,e⟩:=zo3 h hx
 exact ⟨s,hs,e⟩
theorem zoq {p:Pln} {s:State} (h:zak p s=true) {n:Int} (hn:zcA p n=true):zlW s n:=by
 obtain ⟨x,hx,e⟩:=List.any_eq_true.1 hn
 have e:x.id=n:=by simpa using e
 have:x.id∈s.switches.map Switch.id:=by rw[zcR h];exact List.mem_map_of_mem hx
 obtain ⟨t,ht,e2⟩:=List.mem_map.1 this
 exact ⟨t,ht,e2.trans e⟩
end Go.Lev
namespace Go.Lev
open Go.Eng
theorem zjO (n v m:Int) (hm:m≠n):∀ (l:List Switch) (C D:List (Int×Int)),zfT C m=zfT D m→zfT (zgT C (zdZ Switch.id n (fun t=>⟨t.id,t.lie,v⟩) l)) m=zfT (zgT D l) m
 |[],_,_,h=>h
 |x::r,C,D,h=>by
  show zfT (zgT (zlL C (if x.id=n then (⟨x.id,x.lie,v⟩:Switch) else x).id (if x.id=n then (⟨x.id,x.lie,v⟩:Switch) else x).call) (zdZ Switch.id n (fun t=>⟨t.id,t.lie,v⟩) r)) m=zfT (zgT (zlL D x.id x.call) r) m
  refine zjO n v m hm r _ _ ?_
  rw[zfy,zfy]
  by_cases hx:x.id=n
  ·rw[if_pos hx]
   dsimp only
   rw[if_neg (by omega),if_neg (by omega)]
   exact h
  ·rw[if_neg hx,h]
theorem zmb (s:State) {n m:Int} (v:Int) (hm:m≠n):zbh (ziO s n v) m=zbh s m:=zjO n v m hm s.switches [] [] rfl
theorem znw {p:Pln} {s:State} {n v:Int} (h:zak p s=true) (hv:0≤v∧v≤2):zak p (ziO s n v)=true:=by
 unfold zak at h ⊢
 simp only[Bool.and_eq_true,zcp]at h ⊢
 unfold ziO
 simp only[zbe]
 refine ⟨h.1,⟨h.2.1.1,fun i hi=>?_⟩,h.2.2⟩
 have:=h.2.1.2 i hi
 unfold zdZ
 rw[nthm (fun x=>if Switch.id x=n then (⟨x.id,x.lie,v⟩:Switch) else x) hi]
 simp only[zfY,zfz,Bool.and_eq_true,decide_eq_true_eq]at this ⊢
 split
 ·exact ⟨this.1,this.2.1,hv⟩
 ·exact this
theorem asl_lie {p:Pln} {s:State} (h:zag p s=0) {z:WL} (hz:z∈zof p s) {a:AskR} (ha:a∈asl z):a.lie=1∨a.lie=2:=by
 obtain ⟨i,hi,rfl⟩:=ze6 h hz
 exact zpx h hi ha
theorem zoJ {p:Pln} {s:State} {n v:Int} (h:zag p s=0) (hn:nth (zau p s).2.1 n.toNat=0) (hv:0≤v∧v≤2):zag p (ziO s n v)=0:=by
 obtain ⟨h1,h2,h3,h4⟩:=(zeo p s).1 h
 refine (zeo p _).2 ⟨h1,znw h2 hv,h3,fun z hz a ha=>?_⟩
 have hne:a.pnt≠n:=fun e=>by
  have h5:=zqC h hz ha
  have h6:=asl_lie h hz ha
  rw[e,hn]at h5
  omega
 rw[zmb s v hne]
 exact h4 z hz a ha
structure MayCall (p:Pln) (s:State) (n:Int):Prop where
 st:zag p s=0
 pt:zcA p n=true
 ask:nth (zau p s).2.1 n.toNat=0
 free:zgH s (zcn p n)=0
theorem MayCall.code {p:Pln} {s:State} {n v:Int} (h:MayCall p s n) (hv:v=1∨v=2):zag p (ziO s n v)=0:=zoJ h.st h.ask (by omega)
theorem zpm {α:Type} [Inhabited α] (f:α→Int) {l:List α} (hn:(l.map f).Nodup) {i j:Nat} (hi:i<l.length) (hj:j<l.length) (e:f (nth l i)=f (nth l j)):i=j:=by
 have:=List.nodup_iff_pairwise_ne.1 hn
 rcases Nat.lt_trichotomy i j with hlt|he|hlt
 ·have:=List.pairwise_iff_getElem.1 this i j (by simpa using hi) (by simpa using hj) hlt
  simp only[List.getElem_map]at this
  rw[←zaW hi,←zaW hj]at this
  exact absurd e this
 ·exact he
 ·have:=List.pairwise_iff_getElem.1 this j i (by simpa using hj) (by simpa using hi) hlt
  simp only[List.getElem_map]at this
  rw[←zaW hi,←zaW hj]at this
  exact absurd e.symm this
theorem zbG {α:Type} [Inhabited α] {l:List α} {x:α} (h:x∈l):∃ k,k<l.length∧nth l k=x:=by
 obtain ⟨k,hk,e⟩:=List.mem_iff_getElem.1 h
 exact ⟨k,hk,by rw[zaW hk];exact e⟩
end Go.Lev
namespace Go.Lev
open Go.Eng
theorem zpG {p:Pln} {s:State} (ho:OkP p) (h:zak p s=true) {k:Nat} (hk:k<s.tracks.length):zgH s (nth s.tracks k).id=(nth s.tracks k).is:=by
 unfold zgH
 rw[zfH Track.id (by rw[zfX h];exact zfk ho) hk rfl]
theorem znH {p:Pln} (h:OkP p) {k:Nat} (hk:k<p.points.length):zcn p (nth p.points k).id=(nth p.points k).sec:=by
 unfold zcn
 rw[zfH Pnt.id (zbJ h) hk rfl]
theorem zjT {p:Pln} {k:Nat} (hk:k<p.points.length):zcA p (nth p.points k).id=true:=List.any_eq_true.2 ⟨_,zab hk,by simp⟩
def peF (p:Pln) (s:State) (n e a g m:Int):Bool :=
 zaT (fun i _ zbi=>cond (!decide ((nth p.points i).id=n)) (zbi ())
   (cond (!decide (a=0)) (decide (e=170))
    (zaT (fun k _ next2=>cond (decide ((nth s.tracks k).id=(nth p.points i).sec)&&!decide ((nth s.tracks k).is=0)) (decide (e=171)) (next2 ()))
     (fun _=>decide (e=0)&&decide (g=0)&&decide (m=0)) s.tracks.length 0 ())))
  (fun _=>decide (e=6)) p.points.length 0 ()
def pfF (p:Pln) (s:State) (n v e a c:Int):Bool :=
 zaT (fun i (st:Bool×Int) zbi=>cond (!decide ((nth p.points i).id=n)) (zbi st)
   (zaT (fun k (fr:Bool) next2=>next2 (fr||decide ((nth s.tracks k).id=(nth p.points i).sec)&&decide ((nth s.tracks k).is=0)))
    (fun fr=>zbi (fr,(i:Int))) s.tracks.length 0 st.1))
  (fun st=>cond (!decide (decide (e=0)=(decide (0≤st.2)&&(decide (v=1)||decide (v=2))&&decide (c=0)&&decide (a=0)&&st.1))) false true) p.points.length 0 (false,-1)
end Go.Lev
namespace Go.Lev
open Go.Eng
set_option maxRecDepth 10000
set_option maxHeartbeats 4000000
variable {P:Program} {inv:Nat→Option Nat} {w0:World} {M:Nat→Prop}
def frT (s:State) (n:Int):Bool:=s.tracks.any fun x=>decide (n=x.id)&&decide (0=x.is)
end Go.Lev
namespace Go.Lev
open Go.Eng
set_option maxRecDepth 10000
set_option maxHeartbeats 4000000
variable {P:Program} {inv:Nat→Option Nat} {w0:World} {M:Nat→Prop}
def zgG (s:State) (n:Int):Int:=zbd (fun x=>decide (Lock.id x=n)) 0 s.locks
def zcL (H:List Int) (fr:Int→Bool):List Int→Int
 |[]=>0
 |x::r=>if nth H x.toNat=0 then (if fr x=true then zcL H fr r else 182) else 181
def zim (p:Pln) (s:State) (A:List Int) (a:AskR):Bool:=decide (zbh s a.pnt=a.lie)||(decide (nth A a.pnt.toNat=0)&&frT s (zcn p a.pnt))
def setE (p:Pln) (s:State) (i:Nat):Int :=
 if zcL (zau p s).1 (frT s) ((zai p (nth p.routes i)).1.path++(zai p (nth p.routes i)).1.over)=0 then (if (zai p (nth p.routes i)).1.asks.all (zim p s (zau p s).2.1)=true then 0 else 183)
 else zcL (zau p s).1 (frT s) ((zai p (nth p.routes i)).1.path++(zai p (nth p.routes i)).1.over)
def lkC (p:Pln) (s:State) (n:Int):Int:=if zag p s=0 then (if zgG s n<0 then 6 else if (nth s.locks (zgG s n).toNat).phase=0 then setE p s (zgG s n).toNat else 180) else zag p s
def lkW (p:Pln) (s:State) (n:Int):WayR:=if zag p s=0 then (if zgG s n<0 then WayR.z else if (nth s.locks (zgG s n).toNat).phase=0 then (zai p (nth p.routes (zgG s n).toNat)).1 else WayR.z) else WayR.z
def zqF (ok:AskR→Bool):Int→List AskR→Int
 |e,[]=>e
 |e,a::r=>zqF ok (if e=0 then (if ok a=true then 0 else 183) else e) r
end Go.Lev
namespace Go.Lev
open Go.Eng
set_option maxRecDepth 10000
set_option maxHeartbeats 4000000
variable {P:Program} {inv:Nat→Option Nat} {w0:World} {M:Nat→Prop}
def zaZ (q:List AskR) (l:List Switch):List Switch:=q.foldl (fun l a=>zdZ Switch.id a.pnt (fun t=>⟨t.id,t.lie,a.lie⟩) l) l
theorem zeD (q:List AskR):∀ l:List Switch,(zaZ q l).map Switch.id=l.map Switch.id:=by
 induction q with
 |nil=>intro l;rfl
 |cons a q ih=>intro l;show (zaZ q _).map Switch.id=_;rw[ih,zjg Switch.id a.pnt (fun t=>⟨t.id,t.lie,a.lie⟩) (fun _=>rfl)]
theorem zbV (q:List AskR) (l:List Switch):(zaZ q l).length=l.length:=by
 have:=congrArg List.length (zeD q l)
 simpa using this
theorem zn4 (l:List Switch):zaZ [] l=l:=rfl
attribute [go_sem] zn4
def zfS (s:State) (n:Int) (q:List AskR):State:=⟨s.tracks,zaZ q s.switches,zdZ Lock.id n (fun l=>⟨l.id,1,l.gone,l.left⟩) s.locks⟩
def zoi (n:Int) (_:Nat) (l:Lock):Lock:=if l.id=n then ⟨l.id,1,l.gone,l.left⟩ else l
end Go.Lev
namespace Go.Lev
open Go.Eng
theorem zkJ:∀ (l:List AskR) (m:List Bool),m.length=100→(∀ a∈l,0≤a.pnt∧a.pnt≤99)→(zkK m l=true↔(∀ a∈l,nth m a.pnt.toNat=false)∧(l.map AskR.pnt).Nodup)
 |[],m,_,_=>by simp[zkK]
 |a::r,m,hm,hr=>by
  have h0:=hr a (by simp)
  have ih:=zkJ r (m.set a.pnt.toNat true) (by simpa using hm) fun b hb=>hr b (by simp[hb])
  rw[zkK,Bool.and_eq_true,ih]
  simp only[List.map_cons,List.nodup_cons,List.mem_cons,forall_eq_or_imp,Bool.not_eq_true',List.mem_map,not_exists,not_and]
  have key:∀ b∈r,nth (m.set a.pnt.toNat true) b.pnt.toNat=false↔(nth m b.pnt.toNat=false∧b.pnt≠a.pnt):=fun b hb=>by
   have hb':=hr b (by simp[hb])
   rw[zbk _ _ _ _ (by omega)]
   by_cases e:b.pnt=a.pnt
   ·rw[e,if_pos rfl];simp
   ·rw[if_neg (by omega)];simp[e]
  constructor
  ·rintro ⟨h1,h2,h3⟩
   exact ⟨⟨h1,fun b hb=>((key b hb).1 (h2 b hb)).1⟩,fun b hb=>((key b hb).1 (h2 b hb)).2,h3⟩
  ·rintro ⟨⟨h1,h2⟩,h3,h4⟩
   exact ⟨h1,fun b hb=>(key b hb).2 ⟨h2 b hb,h3 b hb⟩,h4⟩
theorem zmO {l:List AskR} (h:∀ a∈l,0≤a.pnt∧a.pnt≤99):once l=true↔(l.map AskR.pnt).Nodup:=by
 unfold once
 rw[zkJ l _ (by simp) h]
 constructor
 ·exact fun h=>h.2
 ·intro h2
  exact ⟨fun a ha=>by have:=h a ha;exact zdq _ _ _ (by omega),h2⟩
theorem zjc {p:Pln} (ho:za5 p=true) {r:Rte} (hr:r∈p.routes):((zai p r).1.asks.map AskR.pnt).Nodup:=by
 obtain ⟨hok,_,h3⟩:=zaS ho
 have:=h3 r hr
 simp only[zbA,Bool.and_eq_true]at this
 exact (zmO fun a ha=>by have:=zbI hok hr ha;omega).1 this.1
def zeQ (l:List Switch) (n:Int):Int:=zfT (zgT [] l) n
theorem zn5 (l:List Switch) {n m:Int} (v:Int) (h:m≠n):zeQ (zdZ Switch.id n (fun t=>⟨t.id,t.lie,v⟩) l) m=zeQ l m:=zjO n v m h l [] [] rfl
theorem zqr {l:List Switch} (hn:(l.map Switch.id).Nodup) {n:Int} (v:Int) (h:n∈l.map Switch.id):zeQ (zdZ Switch.id n (fun t=>⟨t.id,t.lie,v⟩) l) n=v:=by
 obtain ⟨x,hx,e⟩:=List.mem_map.1 h
 have h1:(⟨x.id,x.lie,v⟩:Switch)∈zdZ Switch.id n (fun t=>⟨t.id,t.lie,v⟩) l:=by
  unfold zdZ
  exact List.mem_map.2 ⟨x,hx,by rw[if_pos e]⟩
 have:=zlP (zdZ Switch.id n (fun t=>⟨t.id,t.lie,v⟩) l) [] (by rw[zjg Switch.id n (fun t=>⟨t.id,t.lie,v⟩) (fun _=>rfl)];exact hn) _ h1
 dsimp only at this
 rw[e]at this
 exact this
theorem zgi:∀ (q:List AskR) (l:List Switch) {n:Int},(∀ a∈q,a.pnt≠n)→zeQ (zaZ q l) n=zeQ l n
 |[],_,_,_=>rfl
 |a::q,l,n,h=>by
  show zeQ (zaZ q (zdZ Switch.id a.pnt (fun t=>⟨t.id,t.lie,a.lie⟩) l)) n=_
  rw[zgi q _ fun b hb=>h b (by simp[hb]),zn5 l a.lie (fun e=>h a (by simp) e.symm)]
theorem zih:∀ (q:List AskR) (l:List Switch),(l.map Switch.id).Nodup→(q.map AskR.pnt).Nodup→∀ a∈q,a.pnt∈l.map Switch.id→zeQ (zaZ q l) a.pnt=a.lie
 |[],_,_,_,a,ha,_=>by cases ha
 |b::q,l,hl,hq,a,ha,hi=>by
  simp only[List.map_cons,List.nodup_cons]at hq
  show zeQ (zaZ q (zdZ Switch.id b.pnt (fun t=>⟨t.id,t.lie,b.lie⟩) l)) a.pnt=_
  rcases List.mem_cons.1 ha with rfl|ha
  ·rw[zgi q _ fun c hc e=>hq.1 (by rw[←e];exact List.mem_map_of_mem hc),zqr hl _ hi]
  ·refine zih q _ (by rw[zjg Switch.id b.pnt (fun t=>⟨t.id,t.lie,b.lie⟩) (fun _=>rfl)];exact hl) hq.2 a ha ?_
   rw[zjg Switch.id b.pnt (fun t=>⟨t.id,t.lie,b.lie⟩) (fun _=>rfl)];exact hi
end Go.Lev
namespace Go.Lev
open Go.Eng
theorem zol {p:Pln} {s:State} (h:zak p s=true):(zof p s).length=s.locks.length:=by
 have:=zap h
 simp only[zof,List.length_zip,za2,List.length_map]
 omega
theorem zfV {p:Pln} {s:State} (h:zak p s=true) {i:Nat} (hi:i<(zof p s).length):(zof p s)[i]=((zai p (nth p.routes i)).1,nth s.locks i):=by
 have h1:=zol h
 have h2:=zap h
 simp[zof,za2,zaW (show i<p.routes.length by omega),zaW (show i<s.locks.length by omega)]
theorem zlh {p:Pln} {s:State} (h:zak p s=true):zmm (zof p s)↔∀ i j,i<s.locks.length→j<s.locks.length→i≠j→∀ m∈zc3 p s i,m∉zc3 p s j:=by
 have hl:=zol h
 unfold zmm
 rw[List.pairwise_iff_getElem]
 constructor
 ·intro hp i j hi hj hne m hm hm'
  rcases Nat.lt_trichotomy i j with hlt|e|hlt
  ·have:=hp i j (by omega) (by omega) hlt
   rw[zfV h,zfV h]at this
   exact this m hm hm'
  ·exact hne e
  ·have:=hp j i (by omega) (by omega) hlt
   rw[zfV h,zfV h]at this
   exact this m hm' hm
 ·intro hp i j hi hj hlt
  rw[zfV h,zfV h]
  exact hp i j (by omega) (by omega) (by omega)
theorem zgA {p:Pln} {s:State} (h:zak p s=true):znl s (zof p s)↔∀ i,i<s.locks.length→∀ a∈zc9 p s i,zbh s a.pnt=a.lie:=by
 have h2:=zap h
 constructor
 ·intro hp i hi a ha
  exact hp _ (zof_at h (by omega)) a ha
 ·intro hp z hz a ha
  obtain ⟨i,r,_,hi,e1,e2,_,e3,_⟩:=zfU h hz
  refine hp i (by omega) a ?_
  unfold zc9
  rw[e1,e2,←e3]
  exact ha
theorem zg5 {p:Pln} {s:State}:zag p s=0↔za5 p=true∧zak p s=true∧(∀ i j,i<s.locks.length→j<s.locks.length→i≠j→∀ m∈zc3 p s i,m∉zc3 p s j)∧∀ i,i<s.locks.length→∀ a∈zc9 p s i,zbh s a.pnt=a.lie:=by
 rw[zeo]
 constructor
 ·rintro ⟨h1,h2,h3,h4⟩;exact ⟨h1,h2,(zlh h2).1 h3,(zgA h2).1 h4⟩
 ·rintro ⟨h1,h2,h3,h4⟩;exact ⟨h1,h2,(zlh h2).2 h3,(zgA h2).2 h4⟩
theorem zqq (s:State) (n:Int):zbh s n=zeQ s.switches n:=rfl
theorem zi8 (q:List AskR):∀ (l:List Switch) (k:Nat),k<l.length→(nth (zaZ q l) k).id=(nth l k).id∧(nth (zaZ q l) k).lie=(nth l k).lie∧((nth (zaZ q l) k).call=(nth l k).call∨∃ a∈q,a.pnt=(nth l k).id∧(nth (zaZ q l) k).call=a.lie):=by
 induction q with
 |nil=>intro l k _;exact ⟨rfl,rfl,.inl rfl⟩
 |cons b q ih =>
  intro l k hk
  have h1:=ih (zdZ Switch.id b.pnt (fun t=>⟨t.id,t.lie,b.lie⟩) l) k (by rw[zbe];exact hk)
  have h2:nth (zdZ Switch.id b.pnt (fun t=>(⟨t.id,t.lie,b.lie⟩:Switch)) l) k=if (nth l k).id=b.pnt then ⟨(nth l k).id,(nth l k).lie,b.lie⟩ else nth l k:=by
   unfold zdZ
   exact nthm (fun x=>if Switch.id x=b.pnt then (⟨x.id,x.lie,b.lie⟩:Switch) else x) hk
  rw[show zaZ (b::q) l=zaZ q (zdZ Switch.id b.pnt (fun t=>⟨t.id,t.lie,b.lie⟩) l) from rfl]
  rw[h2]at h1
  by_cases e:(nth l k).id=b.pnt
  ·rw[if_pos e]at h1
   dsimp only at h1
   refine ⟨h1.1,h1.2.1,.inr ?_⟩
   rcases h1.2.2 with h3|⟨a,ha,h3,h4⟩
   ·exact ⟨b,by simp,e.symm,h3⟩
   ·exact ⟨a,by simp[ha],h3,h4⟩
  ·rw[if_neg e]at h1
   refine ⟨h1.1,h1.2.1, ?_⟩
   rcases h1.2.2 with h3|⟨a,ha,h3,h4⟩
   ·exact .inl h3
   ·exact .inr ⟨a,by simp[ha],h3,h4⟩
section
variable {p:Pln} {s:State} {i:Nat} (h:zag p s=0) (hi:i<s.locks.length) (hph:(nth s.locks i).phase=0)
include h hi
theorem zfj {n:Int} (hid:(nth s.locks i).id=n) (q:List AskR) {j:Nat} (hj:j<s.locks.length):nth (zfS s n q).locks j=if j=i then ⟨n,1,(nth s.locks i).gone,(nth s.locks i).left⟩ else nth s.locks j:=by
 show nth (zdZ Lock.id n (fun l=>⟨l.id,1,l.gone,l.left⟩) s.locks) j=_
 have h2:nth (zdZ Lock.id n (fun l=>(⟨l.id,1,l.gone,l.left⟩:Lock)) s.locks) j=if (nth s.locks j).id=n then ⟨(nth s.locks j).id,1,(nth s.locks j).gone,(nth s.locks j).left⟩ else nth s.locks j:=by
  unfold zdZ
  exact nthm (fun x=>if Lock.id x=n then (⟨x.id,1,x.gone,x.left⟩:Lock) else x) hj
 rw[h2]
 by_cases e:j=i
 ·subst e;rw[if_pos hid,if_pos rfl,hid]
 ·rw[if_neg e,if_neg (fun e2=>e (zlS h hj hi (e2.trans hid.symm)))]
include hph
theorem zfn:(nth s.locks i).gone=0∧(nth s.locks i).left=0:=by
 have:=zmS (zad h).2.1 hi
 simp only[zdP,zcz,hph,Bool.and_eq_true]at this
 simpa using this.2
theorem znv {n:Int} (hid:(nth s.locks i).id=n):zak p (zfS s n (zai p (nth p.routes i)).1.asks)=true:=by
 have hpa:=(zad h).2.1
 have hok:=zar h
 have hl:=zap hpa
 have hp2:=hpa
 unfold zak at hpa ⊢
 simp only[Bool.and_eq_true,zcp]at hpa ⊢
 refine ⟨hpa.1,⟨by show (zaZ _ _).length=_;rw[zbV];exact hpa.2.1.1,fun k hk=>?_⟩,by show (zdZ _ _ _ _).length=_;rw[zbe];exact hpa.2.2.1,fun k hk=>?_⟩
 ·have hk':k<s.switches.length:=by have:k<(zaZ (zai p (nth p.routes i)).1.asks s.switches).length:=hk;rw[zbV]at this;exact this
  have h1:=hpa.2.1.2 k hk'
  have h2:=zi8 (zai p (nth p.routes i)).1.asks s.switches k hk'
  show zfY (nth (zaZ _ s.switches) k) _=true
  simp only[zfY,zfz,Bool.and_eq_true,decide_eq_true_eq]at h1 ⊢
  refine ⟨h2.1.trans h1.1,by rw[h2.2.1];exact h1.2.1, ?_⟩
  rcases h2.2.2 with e|⟨a,ha,_,e⟩
  ·rw[e];exact h1.2.2
  ·have:=(zbI hok (zab (show i<p.routes.length by omega)) ha).2.2
   rw[e];omega
 ·have hk':k<s.locks.length:=by have:k<(zdZ Lock.id n (fun l=>(⟨l.id,1,l.gone,l.left⟩:Lock)) s.locks).length:=hk;rw[zbe]at this;exact this
  rw[zfj h hi hid _ hk']
  have h1:=hpa.2.2.2 k hk'
  split
  ·rename_i e
   subst e
   have hr:=zfn h hi hph
   simp only[zdP,zcz,Bool.and_eq_true,decide_eq_true_eq]at h1 ⊢
   refine ⟨hid▸h1.1, ?_⟩
   simp[hr.1,hr.2]
  ·exact h1
theorem zoI {n:Int} (hid:(nth s.locks i).id=n) (hf:∀ m∈(zai p (nth p.routes i)).1.path++(zai p (nth p.routes i)).1.over,nth (zau p s).1 m.toNat=0)
  (hk:∀ a∈(zai p (nth p.routes i)).1.asks,zbh s a.pnt=a.lie∨nth (zau p s).2.1 a.pnt.toNat=0):zag p (zfS s n (zai p (nth p.routes i)).1.asks)=0:=by
 have h':=zg5.1 h
 obtain ⟨h1,h2,h3,h4⟩:=h'
 have hok:=zar h
 have hl:=zap h2
 have hr:=zfn h hi hph
 have hsl:(zfS s n (zai p (nth p.routes i)).1.asks).locks.length=s.locks.length:=zbe _ _ _ _
 have hwr:nth p.routes i∈p.routes:=zab (by omega)
 have hd:∀ j,j<s.locks.length→zc3 p (zfS s n (zai p (nth p.routes i)).1.asks) j=if j=i then (zai p (nth p.routes i)).1.path++(zai p (nth p.routes i)).1.over else zc3 p s j:=fun j hj=>by
  unfold zc3
  rw[zfj h hi hid _ hj]
  by_cases e:j=i
  ·subst e
   rw[if_pos rfl,if_pos rfl]
   unfold zbK
   rw[if_neg (by dsimp only;omega)]
   dsimp only
   rw[hr.1];rfl
  ·rw[if_neg e,if_neg e]
 have ha:∀ j,j<s.locks.length→zc9 p (zfS s n (zai p (nth p.routes i)).1.asks) j=if j=i then (zai p (nth p.routes i)).1.asks else zc9 p s j:=fun j hj=>by
  unfold zc9
  rw[zfj h hi hid _ hj]
  by_cases e:j=i
  ·subst e
   rw[if_pos rfl,if_pos rfl]
   unfold zbZ
   rw[if_neg (by dsimp only;omega)]
   refine List.filter_eq_self.2 fun a _=>?_
   simp only[zcV,hr.1,Bool.or_eq_true,decide_eq_true_eq]
   omega
  ·rw[if_neg e,if_neg e]
 have hnd:(s.switches.map Switch.id).Nodup:=by rw[zcR h2];exact zbJ hok
 refine zg5.2 ⟨h1,znv h hi hph hid,fun a b ha' hb' hne m hm hm'=>?_,fun j hj a haj=>?_⟩
 ·rw[hsl]at ha' hb'
  rw[hd a ha']at hm
  rw[hd b hb']at hm'
  have free:∀ j,j<s.locks.length→∀ m∈(zai p (nth p.routes i)).1.path++(zai p (nth p.routes i)).1.over,m∉zc3 p s j:=fun j hj m hm hm'=>by
   have e1:=hf m hm
   have e2:=zl3 h (zfr h hj) hm'
   have:=zpA h hj
   rw[e1]at e2
   dsimp only at e2
   omega
  by_cases e:a=i
  ·rw[if_pos e]at hm
   rw[if_neg (fun e2=>hne (e.trans e2.symm))]at hm'
   exact free b hb' m hm hm'
  ·rw[if_neg e]at hm
   by_cases e2:b=i
   ·rw[if_pos e2]at hm'
    exact free a ha' m hm' hm
   ·rw[if_neg e2]at hm'
    exact h3 a b ha' hb' hne m hm hm'
 ·rw[hsl]at hj
  rw[ha j hj]at haj
  rw[zqq]
  show zeQ (zaZ _ s.switches) a.pnt=_
  by_cases e:j=i
  ·rw[if_pos e]at haj
   refine zih _ _ hnd (zjc h1 hwr) a haj ?_
   obtain ⟨x,hx,ex⟩:=(zbI hok hwr haj).1
   rw[zcR h2,←ex]
   exact List.mem_map_of_mem hx
  ·rw[if_neg e]at haj
   have h5:=h4 j hj a haj
   rcases Classical.em (∃ b∈(zai p (nth p.routes i)).1.asks,b.pnt=a.pnt) with ⟨b,hb,eb⟩|hno
   ·have h6:=zih _ s.switches hnd (zjc h1 hwr) b hb (by
     obtain ⟨x,hx,ex⟩:=(zbI hok hwr hb).1
     rw[zcR h2,←ex]
     exact List.mem_map_of_mem hx)
    rw[←eb,h6]
    rcases hk b hb with h7|h7
    ·rw[←h7,eb];exact h5
    ·rw[eb,zqA h hj haj]at h7
     have:=zpx h hj haj
     omega
   ·rw[zgi _ _ fun b hb e=>hno ⟨b,hb,e⟩]
    exact h5
end
end Go.Lev
namespace Go.Lev
open Go.Eng
set_option maxRecDepth 10000
set_option maxHeartbeats 4000000
variable {P:Program} {inv:Nat→Option Nat} {w0:World} {M:Nat→Prop}
def planA:Pln:=⟨1,0,[⟨1,0,[⟨0,0⟩,⟨2,0⟩]⟩,⟨2,0,[⟨1,1⟩,⟨0,0⟩]⟩],[],[⟨1,1,1⟩],[⟨1,1,0,[2],[],[],3⟩]⟩
def stA:State:=⟨[⟨1,2⟩,⟨2,2⟩],[],[⟨1,0,0,0⟩]⟩
end Go.Lev
namespace Go.Lev
open Go.Eng
set_option maxRecDepth 10000
set_option maxHeartbeats 4000000
variable {P:Program} {inv:Nat→Option Nat} {w0:World} {M:Nat→Prop}
theorem zjr (hH:HasAll P inv) (p:Pln) (hl:p.sections.length≤1000000000) (n:Int):PC P inv 293 [.agg p.c,.n n] (·=.n (zbd (fun x=>decide (Section.id x=n)) 0 p.sections)):=by
 refine PC.fn hH cd293 fun w0 M Q hM hE hQ hR=>?_;dsimp only[cd293,qm,ql,qf,qi,qb,qc,qp,qv,qN,qT,qF,qt]at hQ ⊢
 (repeat' first|refine zaa [0,1,2,4,5,10,20] fun K hK=>?_|(refine hK.go ?_;clear hK K)|with_reducible exact wT|refine wA ?_|(refine wB (fun h=>?_) (fun h=>?_)<;>first|exact wN h|subst (h:(_:Bool)=_)|skip)|(refine wQ ?_;clear hQ hR hE hM)|fail)
 refine zae (ι:=Nat) [1,2,4,5] (fun z=>[(5,.n z)]) (fun _=>[]) (fun z=>z) (p.sections.length) (fun z=>(zbd (fun x=>decide (Section.id x=n)) (z:Int) (p.sections.drop z)=zbd (fun x=>decide (Section.id x=n)) 0 p.sections)) (0) ?_;rintro k ⟨hk,hg⟩;(try dsimp only at hk hg ⊢);rcases Nat.lt_or_ge k p.sections.length with hlt|hge
 ·rw[zaf hlt,zbd]at hg
  by_cases e:(nth p.sections k).id=n
  ·have e2:decide ((nth p.sections k).id=n)=true:=decide_eq_true e
   rw[if_pos e2]at hg
   skip
   (have hX:=@e2;(repeat' first|refine zaa [0,1,2,4,5,10,20] fun K hK=>?_|(refine hK.go ?_;clear hK K)|with_reducible exact wT|refine wA ?_|(refine wB (fun h=>?_) (fun h=>?_)<;>first|exact wN h|subst (h:(_:Bool)=_)|skip)|(refine wQ ?_;clear hQ hR hE hM)|fail);all_goals clear hX)
   all_goals first|rfl|exact hg|exact congrArg AV.n hg|(exfalso;contradiction)|(rw[←hg];done)|(rw[←hg];rfl)|(simp[*];done)|trace_state
  ·have e2:decide ((nth p.sections k).id=n)=false:=decide_eq_false e
   rw[if_neg (by simp[e])]at hg
   (have hX:=@e2;(repeat' first|refine zaa [0,1,2,4,5,10,20] fun K hK=>?_|(refine hK.go ?_;clear hK K)|with_reducible exact wT|refine wA ?_|(refine wB (fun h=>?_) (fun h=>?_)<;>first|exact wN h|subst (h:(_:Bool)=_)|skip)|(refine wQ ?_;clear hQ hR hE hM)|fail);all_goals clear hX)
   all_goals first|(exfalso;contradiction)|exact ⟨k+1,by omega,⟨by omega,hg⟩,by omega⟩|trace_state
 ·rw[List.drop_eq_nil_of_le hge,zbd]at hg
  (repeat' first|refine zaa [0,1,2,4,5,10,20] fun K hK=>?_|(refine hK.go ?_;clear hK K)|with_reducible exact wT|refine wA ?_|(refine wB (fun h=>?_) (fun h=>?_)<;>first|exact wN h|subst (h:(_:Bool)=_)|skip)|(refine wQ ?_;clear hQ hR hE hM)|fail)
  all_goals first|exact hg|(rw[←hg];done)|trace_state
theorem zdO (hH:HasAll P inv) (p:Pln) (hl:p.points.length≤1000000000) (n:Int):PC P inv 294 [.agg p.c,.n n] (·=.n (zbd (fun x=>decide (Pnt.id x=n)) 0 p.points)):=by
 refine PC.fn hH cd294 fun w0 M Q hM hE hQ hR=>?_;dsimp only[cd294,qm,ql,qf,qi,qb,qc,qp,qv,qN,qT,qF,qt]at hQ ⊢
 (repeat' first|refine zaa [0,1,2,4,5,10,20] fun K hK=>?_|(refine hK.go ?_;clear hK K)|with_reducible exact wT|refine wA ?_|(refine wB (fun h=>?_) (fun h=>?_)<;>first|exact wN h|subst (h:(_:Bool)=_)|skip)|(refine wQ ?_;clear hQ hR hE hM)|fail)
 refine zae (ι:=Nat) [1,2,4,5] (fun z=>[(5,.n z)]) (fun _=>[]) (fun z=>z) (p.points.length) (fun z=>(zbd (fun x=>decide (Pnt.id x=n)) (z:Int) (p.points.drop z)=zbd (fun x=>decide (Pnt.id x=n)) 0 p.points)) (0) ?_;rintro k ⟨hk,hg⟩;(try dsimp only at hk hg ⊢);rcases Nat.lt_or_ge k p.points.length with hlt|hge
 ·rw[zaf hlt,zbd]at hg
  by_cases e:(nth p.points k).id=n
  ·have e2:decide ((nth p.points k).id=n)=true:=decide_eq_true e
   rw[if_pos e2]at hg
   skip
   (have hX:=@e2;(repeat' first|refine zaa [0,1,2,4,5,10,20] fun K hK=>?_|(refine hK.go ?_;clear hK K)|with_reducible exact wT|refine wA ?_|(refine wB (fun h=>?_) (fun h=>?_)<;>first|exact wN h|subst (h:(_:Bool)=_)|skip)|(refine wQ ?_;clear hQ hR hE hM)|fail);all_goals clear hX)
   all_goals first|rfl|exact hg|exact congrArg AV.n hg|(exfalso;contradiction)|(rw[←hg];done)|(rw[←hg];rfl)|(simp[*];done)|trace_state
  ·have e2:decide ((nth p.points k).id=n)=false:=decide_eq_false e
   rw[if_neg (by simp[e])]at hg
   (have hX:=@e2;(repeat' first|refine zaa [0,1,2,4,5,10,20] fun K hK=>?_|(refine hK.go ?_;clear hK K)|with_reducible exact wT|refine wA ?_|(refine wB (fun h=>?_) (fun h=>?_)<;>first|exact wN h|subst (h:(_:Bool)=_)|skip)|(refine wQ ?_;clear hQ hR hE hM)|fail);all_goals clear hX)
   all_goals first|(exfalso;contradiction)|exact ⟨k+1,by omega,⟨by omega,hg⟩,by omega⟩|trace_state
 ·rw[List.drop_eq_nil_of_le hge,zbd]at hg
  (repeat' first|refine zaa [0,1,2,4,5,10,20] fun K hK=>?_|(refine hK.go ?_;clear hK K)|with_reducible exact wT|refine wA ?_|(refine wB (fun h=>?_) (fun h=>?_)<;>first|exact wN h|subst (h:(_:Bool)=_)|skip)|(refine wQ ?_;clear hQ hR hE hM)|fail)
  all_goals first|exact hg|(rw[←hg];done)|trace_state
theorem zoO (hH:HasAll P inv) (l:List Rte) (hl:l.length≤1000000000) (n:Int):PC P inv 310 [.sl 7 (l.map Rte.c),.n n] (·=.n (zbd (fun x=>decide (Rte.id x=n)) 0 l)):=by
 refine PC.fn hH cd310 fun w0 M Q hM hE hQ hR=>?_;dsimp only[cd310,qm,ql,qf,qi,qb,qc,qp,qv,qN,qT,qF,qt]at hQ ⊢
 (repeat' first|refine zaa [0,1,4,5,9,18] fun K hK=>?_|(refine hK.go ?_;clear hK K)|with_reducible exact wT|refine wA ?_|(refine wB (fun h=>?_) (fun h=>?_)<;>first|exact wN h|subst (h:(_:Bool)=_)|skip)|(refine wQ ?_;clear hQ hR hE hM)|fail)
 refine zae (ι:=Nat) [0,1,4,5] (fun z=>[(5,.n z)]) (fun _=>[]) (fun z=>z) (l.length) (fun z=>(zbd (fun x=>decide (Rte.id x=n)) (z:Int) (l.drop z)=zbd (fun x=>decide (Rte.id x=n)) 0 l)) (0) ?_;rintro k ⟨hk,hg⟩;(try dsimp only at hk hg ⊢);rcases Nat.lt_or_ge k l.length with hlt|hge
 ·rw[zaf hlt,zbd]at hg
  by_cases e:(nth l k).id=n
  ·have e2:decide ((nth l k).id=n)=true:=decide_eq_true e
   rw[if_pos e2]at hg
   skip
   (have hX:=@e2;(repeat' first|refine zaa [0,1,4,5,9,18] fun K hK=>?_|(refine hK.go ?_;clear hK K)|with_reducible exact wT|refine wA ?_|(refine wB (fun h=>?_) (fun h=>?_)<;>first|exact wN h|subst (h:(_:Bool)=_)|skip)|(refine wQ ?_;clear hQ hR hE hM)|fail);all_goals clear hX)
   all_goals first|rfl|exact hg|exact congrArg AV.n hg|(exfalso;contradiction)|(rw[←hg];done)|(rw[←hg];rfl)|(simp[*];done)|trace_state
  ·have e2:decide ((nth l k).id=n)=false:=decide_eq_false e
   rw[if_neg (by simp[e])]at hg
   (have hX:=@e2;(repeat' first|refine zaa [0,1,4,5,9,18] fun K hK=>?_|(refine hK.go ?_;clear hK K)|with_reducible exact wT|refine wA ?_|(refine wB (fun h=>?_) (fun h=>?_)<;>first|exact wN h|subst (h:(_:Bool)=_)|skip)|(refine wQ ?_;clear hQ hR hE hM)|fail);all_goals clear hX)
   all_goals first|(exfalso;contradiction)|exact ⟨k+1,by omega,⟨by omega,hg⟩,by omega⟩|trace_state
 ·rw[List.drop_eq_nil_of_le hge,zbd]at hg
  (repeat' first|refine zaa [0,1,4,5,9,18] fun K hK=>?_|(refine hK.go ?_;clear hK K)|with_reducible exact wT|refine wA ?_|(refine wB (fun h=>?_) (fun h=>?_)<;>first|exact wN h|subst (h:(_:Bool)=_)|skip)|(refine wQ ?_;clear hQ hR hE hM)|fail)
  all_goals first|exact hg|(rw[←hg];done)|trace_state
theorem zfh (hH:HasAll P inv) (l:List Sgn) (hl:l.length≤1000000000) (n:Int):PC P inv 314 [.sl 3 (l.map Sgn.c),.n n] (·=.n (zbd (fun x=>decide (Sgn.id x=n)) 0 l)):=by
 refine PC.fn hH cd314 fun w0 M Q hM hE hQ hR=>?_;dsimp only[cd314,qm,ql,qf,qi,qb,qc,qp,qv,qN,qT,qF,qt]at hQ ⊢
 (repeat' first|refine zaa [0,1,4,5,9,18] fun K hK=>?_|(refine hK.go ?_;clear hK K)|with_reducible exact wT|refine wA ?_|(refine wB (fun h=>?_) (fun h=>?_)<;>first|exact wN h|subst (h:(_:Bool)=_)|skip)|(refine wQ ?_;clear hQ hR hE hM)|fail)
 refine zae (ι:=Nat) [0,1,4,5] (fun z=>[(5,.n z)]) (fun _=>[]) (fun z=>z) (l.length) (fun z=>(zbd (fun x=>decide (Sgn.id x=n)) (z:Int) (l.drop z)=zbd (fun x=>decide (Sgn.id x=n)) 0 l)) (0) ?_;rintro k ⟨hk,hg⟩;(try dsimp only at hk hg ⊢);rcases Nat.lt_or_ge k l.length with hlt|hge
 ·rw[zaf hlt,zbd]at hg
  by_cases e:(nth l k).id=n
  ·have e2:decide ((nth l k).id=n)=true:=decide_eq_true e
   rw[if_pos e2]at hg
   skip
   (have hX:=@e2;(repeat' first|refine zaa [0,1,4,5,9,18] fun K hK=>?_|(refine hK.go ?_;clear hK K)|with_reducible exact wT|refine wA ?_|(refine wB (fun h=>?_) (fun h=>?_)<;>first|exact wN h|subst (h:(_:Bool)=_)|skip)|(refine wQ ?_;clear hQ hR hE hM)|fail);all_goals clear hX)
   all_goals first|rfl|exact hg|exact congrArg AV.n hg|(exfalso;contradiction)|(rw[←hg];done)|(rw[←hg];rfl)|(simp[*];done)|trace_state
  ·have e2:decide ((nth l k).id=n)=false:=decide_eq_false e
   rw[if_neg (by simp[e])]at hg
   (have hX:=@e2;(repeat' first|refine zaa [0,1,4,5,9,18] fun K hK=>?_|(refine hK.go ?_;clear hK K)|with_reducible exact wT|refine wA ?_|(refine wB (fun h=>?_) (fun h=>?_)<;>first|exact wN h|subst (h:(_:Bool)=_)|skip)|(refine wQ ?_;clear hQ hR hE hM)|fail);all_goals clear hX)
   all_goals first|(exfalso;contradiction)|exact ⟨k+1,by omega,⟨by omega,hg⟩,by omega⟩|trace_state
 ·rw[List.drop_eq_nil_of_le hge,zbd]at hg
  (repeat' first|refine zaa [0,1,4,5,9,18] fun K hK=>?_|(refine hK.go ?_;clear hK K)|with_reducible exact wT|refine wA ?_|(refine wB (fun h=>?_) (fun h=>?_)<;>first|exact wN h|subst (h:(_:Bool)=_)|skip)|(refine wQ ?_;clear hQ hR hE hM)|fail)
  all_goals first|exact hg|(rw[←hg];done)|trace_state
theorem zo8 (hH:HasAll P inv) (l:List Pnt) (hl:l.length≤1000000000) (n:Int):PC P inv 316 [.sl 2 (l.map Pnt.c),.n n] (·=.n (zbd (fun x=>decide (Pnt.id x=n)) 0 l)):=by
 refine PC.fn hH cd316 fun w0 M Q hM hE hQ hR=>?_;dsimp only[cd316,qm,ql,qf,qi,qb,qc,qp,qv,qN,qT,qF,qt]at hQ ⊢
 (repeat' first|refine zaa [0,1,4,5,9,18] fun K hK=>?_|(refine hK.go ?_;clear hK K)|with_reducible exact wT|refine wA ?_|(refine wB (fun h=>?_) (fun h=>?_)<;>first|exact wN h|subst (h:(_:Bool)=_)|skip)|(refine wQ ?_;clear hQ hR hE hM)|fail)
 refine zae (ι:=Nat) [0,1,4,5] (fun z=>[(5,.n z)]) (fun _=>[]) (fun z=>z) (l.length) (fun z=>(zbd (fun x=>decide (Pnt.id x=n)) (z:Int) (l.drop z)=zbd (fun x=>decide (Pnt.id x=n)) 0 l)) (0) ?_;rintro k ⟨hk,hg⟩;(try dsimp only at hk hg ⊢);rcases Nat.lt_or_ge k l.length with hlt|hge
 ·rw[zaf hlt,zbd]at hg
  by_cases e:(nth l k).id=n
  ·have e2:decide ((nth l k).id=n)=true:=decide_eq_true e
   rw[if_pos e2]at hg
   skip
   (have hX:=@e2;(repeat' first|refine zaa [0,1,4,5,9,18] fun K hK=>?_|(refine hK.go ?_;clear hK K)|with_reducible exact wT|refine wA ?_|(refine wB (fun h=>?_) (fun h=>?_)<;>first|exact wN h|subst (h:(_:Bool)=_)|skip)|(refine wQ ?_;clear hQ hR hE hM)|fail);all_goals clear hX)
   all_goals first|rfl|exact hg|exact congrArg AV.n hg|(exfalso;contradiction)|(rw[←hg];done)|(rw[←hg];rfl)|(simp[*];done)|trace_state
  ·have e2:decide ((nth l k).id=n)=false:=decide_eq_false e
   rw[if_neg (by simp[e])]at hg
   (have hX:=@e2;(repeat' first|refine zaa [0,1,4,5,9,18] fun K hK=>?_|(refine hK.go ?_;clear hK K)|with_reducible exact wT|refine wA ?_|(refine wB (fun h=>?_) (fun h=>?_)<;>first|exact wN h|subst (h:(_:Bool)=_)|skip)|(refine wQ ?_;clear hQ hR hE hM)|fail);all_goals clear hX)
   all_goals first|(exfalso;contradiction)|exact ⟨k+1,by omega,⟨by omega,hg⟩,by omega⟩|trace_state
 ·rw[List.drop_eq_nil_of_le hge,zbd]at hg
  (repeat' first|refine zaa [0,1,4,5,9,18] fun K hK=>?_|(refine hK.go ?_;clear hK K)|with_reducible exact wT|refine wA ?_|(refine wB (fun h=>?_) (fun h=>?_)<;>first|exact wN h|subst (h:(_:Bool)=_)|skip)|(refine wQ ?_;clear hQ hR hE hM)|fail)
  all_goals first|exact hg|(rw[←hg];done)|trace_state
def znu (p:Pln) (a b:Int):Int:=match p.signals.find? (fun x=>decide (x.sec=a)&&decide (x.ed=b)) with|some x=>x.id|none=>0
theorem at_ref (hH:HasAll P inv) (p:Pln) (hl:p.signals.length≤1000000000) (a b:Int):PC P inv 311 [.agg p.c,.n a,.n b] (·=.n (znu p a b)):=by
 unfold znu
 refine PC.fn hH cd311 fun w0 M Q hM hE hQ hR=>?_;dsimp only[cd311,qm,ql,qf,qi,qb,qc,qp,qv,qN,qT,qF,qt]at hQ ⊢
 (repeat' first|refine zaa [0,1,2,3,6,7,12,32] fun K hK=>?_|(refine hK.go ?_;clear hK K)|with_reducible exact wT|refine wA ?_|(refine wB (fun h=>?_) (fun h=>?_)<;>first|exact wN h|subst (h:(_:Bool)=_)|skip)|(refine wQ ?_;clear hQ hR hE hM)|fail)
 refine zae (ι:=Nat) [1,2,3,6,7] (fun z=>[(7,.n z)]) (fun _=>[]) (fun z=>z) (p.signals.length) (fun z=>((p.signals.drop z).find? (fun x=>decide (x.sec=a)&&decide (x.ed=b))=p.signals.find? (fun x=>decide (x.sec=a)&&decide (x.ed=b)))) (0) ?_;rintro k ⟨hk,hg⟩;(try dsimp only at hk hg ⊢);rcases Nat.lt_or_ge k p.signals.length with hlt|hge
 ·rw[zaf hlt,List.find?_cons]at hg
  by_cases e:(nth p.signals k).sec=a
  ·by_cases e3:(nth p.signals k).ed=b
   ·have e2:decide ((nth p.signals k).sec=a)=true:=decide_eq_true e
    have e4:decide ((nth p.signals k).ed=b)=true:=decide_eq_true e3
    rw[e2,e4]at hg
    skip
    (have hX:=zA @e2 @e4;(repeat' first|refine zaa [0,1,2,3,6,7,12,32] fun K hK=>?_|(refine hK.go ?_;clear hK K)|with_reducible exact wT|refine wA ?_|(refine wB (fun h=>?_) (fun h=>?_)<;>first|exact wN h|subst (h:(_:Bool)=_)|skip)|(refine wQ ?_;clear hQ hR hE hM)|fail);all_goals clear hX)
    all_goals first|rfl|exact hg|exact congrArg AV.n hg|(exfalso;contradiction)|(rw[←hg];done)|(rw[←hg];rfl)|(simp[*];done)|trace_state
   ·have e2:decide ((nth p.signals k).sec=a)=true:=decide_eq_true e
    have e4:decide ((nth p.signals k).ed=b)=false:=decide_eq_false e3
    rw[e2,e4]at hg
    (have hX:=zA @e2 @e4;(repeat' first|refine zaa [0,1,2,3,6,7,12,32] fun K hK=>?_|(refine hK.go ?_;clear hK K)|with_reducible exact wT|refine wA ?_|(refine wB (fun h=>?_) (fun h=>?_)<;>first|exact wN h|subst (h:(_:Bool)=_)|skip)|(refine wQ ?_;clear hQ hR hE hM)|fail);all_goals clear hX)
    all_goals first|(exfalso;contradiction)|exact ⟨k+1,by omega,⟨by omega,hg⟩,by omega⟩|trace_state
  ·have e2:decide ((nth p.signals k).sec=a)=false:=decide_eq_false e
   rw[e2]at hg
   (have hX:=@e2;(repeat' first|refine zaa [0,1,2,3,6,7,12,32] fun K hK=>?_|(refine hK.go ?_;clear hK K)|with_reducible exact wT|refine wA ?_|(refine wB (fun h=>?_) (fun h=>?_)<;>first|exact wN h|subst (h:(_:Bool)=_)|skip)|(refine wQ ?_;clear hQ hR hE hM)|fail);all_goals clear hX)
   all_goals first|(exfalso;contradiction)|exact ⟨k+1,by omega,⟨by omega,hg⟩,by omega⟩|trace_state
 ·rw[List.drop_eq_nil_of_le hge,List.find?_nil]at hg
  (repeat' first|refine zaa [0,1,2,3,6,7,12,32] fun K hK=>?_|(refine hK.go ?_;clear hK K)|with_reducible exact wT|refine wA ?_|(refine wB (fun h=>?_) (fun h=>?_)<;>first|exact wN h|subst (h:(_:Bool)=_)|skip)|(refine wQ ?_;clear hQ hR hE hM)|fail)
  all_goals first|exact hg|(rw[←hg];done)|trace_state
theorem zjq (hH:HasAll P inv) (r:Rte) (h1:r.path.length≤1000000) (h2:r.over.length≤1000000):PC P inv 315 [.agg r.c] (·=.sl 1 ((r.path++r.over).map zcQ)):=by
 have f0:(r.path.map zcQ).flatten++(r.over.map zcQ).flatten=((r.path++r.over).map zcQ).flatten:=by simp
 have f1:r.path.length+r.over.length=(r.path++r.over).length:=by simp
 generalize r.path++r.over=all at *
 refine PC.fn hH cd315 fun w0 M Q hM hE hQ hR=>?_;dsimp only[cd315,qm,ql,qf,qi,qb,qc,qp,qv,qN,qT,qF,qt]at hQ ⊢
 (have hX:=zA @f0 @f1;(repeat' first|refine zaa [0,1,2,3] fun K hK=>?_|(refine hK.go ?_;clear hK K)|with_reducible exact wT|refine wA ?_|(refine wB (fun h=>?_) (fun h=>?_)<;>first|exact wN h|subst (h:(_:Bool)=_)|skip)|(refine wQ ?_;clear hQ hR hE hM)|fail);all_goals clear hX)
 all_goals first|rfl|trace_state
theorem zpa (hH:HasAll P inv) (l:Lock) (x:Rte) (h:x.path.length≤1000000):PC P inv 313 [.agg l.c,.n x.path.length,.n x.timer] (·=.b (zcz l x)):=by
 refine PC.fn hH cd313 fun w0 M Q hM hE hQ hR=>?_;dsimp only[cd313,qm,ql,qf,qi,qb,qc,qp,qv,qN,qT,qF,qt]at hQ ⊢
 (repeat' first|refine zaa [0,1,2,3,6,7,18,19,30,46,56] fun K hK=>?_|(refine hK.go ?_;clear hK K)|with_reducible exact wT|refine wA ?_|(refine wB (fun h=>?_) (fun h=>?_)<;>first|exact wN h|subst (h:(_:Bool)=_)|skip)|(refine wQ ?_;clear hQ hR hE hM)|fail)
 all_goals (unfold zcz;simp[*])
 all_goals first|omega|trace_state
end Go.Lev
namespace Go.Lev
open Go.Eng
theorem zjw {α:Type} [Inhabited α] (f:α→Int):∀ (l:List α),(l.map f).Pairwise (· < ·)↔∀ i,0<i→i<l.length→f (nth l (i-1))<f (nth l i)
 |[]=>by simp
 |[x]=>by
  simp
  intro i h1 h2
  omega
 |x::y::r=>by
  have ih:=zjw f (y::r)
  rw[List.map_cons,List.pairwise_cons,ih]
  constructor
  ·rintro ⟨h1,h2⟩ i hi hl
   match i,hi with
   |1,_=>exact h1 (f y) (by simp)
   |i+2,_=>exact h2 (i+1) (by omega) (by simpa using hl)
  ·intro h
   have h2:∀ i,0<i→i<(y::r).length→f (nth (y::r) (i-1))<f (nth (y::r) i):=fun i hi hl=>by
    have:=h (i+1) (by omega) (by simpa using hl)
    match i,hi with
    |i+1,_=>exact this
   refine ⟨fun z hz=>?_,h2⟩
   have h3:f x<f y:=h 1 (by omega) (by simp)
   have h4:=ih.2 h2
   rw[List.map_cons,List.pairwise_cons]at h4
   rcases List.mem_cons.1 hz with rfl|hz
   ·exact h3
   ·have:=h4.1 z hz
    omega
theorem zf8:∀ (l:List Section) (a:List Int) (m:Int) (i:Nat),a.length=100→(∀ s∈l,s.pt≤99)→(∀ s∈l,0<s.pt→s.pt.toNat≠i)→nth (zlo a m l).1 i=nth a i
 |[],_,_,_,_,_,_=>rfl
 |s::r,a,m,i,ha,h9,h=>by
  rw[zlo]
  split
  ·rename_i h0
   have:=h9 s (by simp)
   rw[zf8 r _ _ i (by simpa using ha) (fun t ht=>h9 t (by simp[ht])) (fun t ht=>h t (by simp[ht])),zbk _ _ _ _ (by omega),if_neg (fun e=>h s (by simp) h0 e.symm)]
  ·exact zf8 r _ _ i ha (fun t ht=>h9 t (by simp[ht])) fun t ht=>h t (by simp[ht])
theorem zjD:∀ (l:List Section) (a:List Int) (m:Int),a.length=100→(∀ s∈l,s.pt≤99)→l.Pairwise Pw→∀ s∈l,0<s.pt→nth (zlo a m l).1 s.pt.toNat=s.id
 |[],_,_,_,_,_,s,hs,_=>by cases hs
 |t::r,a,m,ha,h9,hp,s,hs,h0=>by
  rw[List.pairwise_cons]at hp
  have h9t:=h9 t (by simp)
  rw[zlo]
  rcases List.mem_cons.1 hs with rfl|hs
  ·rw[if_pos h0,zf8 r _ _ _ (by simpa using ha) (fun u hu=>h9 u (by simp[hu])) (fun u hu h1 e=>(hp.1 u hu).2 (by omega) (by omega)),zbk _ _ _ _ (by omega),if_pos rfl]
  ·split
   ·exact zjD r _ _ (by simpa using ha) (fun u hu=>h9 u (by simp[hu])) hp.2 s hs h0
   ·exact zjD r _ _ ha (fun u hu=>h9 u (by simp[hu])) hp.2 s hs h0
structure PtsP (p:Pln):Prop where
 id:∀ x∈p.points,1≤x.id∧x.id≤99
 up:∀ i,0<i→i<p.points.length→(nth p.points (i-1)).id<(nth p.points i).id
 sec:∀ x∈p.points,∃ s∈p.sections,s.id=x.sec∧s.pt=x.id
 len:(p.points.length:Int)≤6
 many:((p.sections.filter fun s=>decide (0<s.pt)).length:Int)=p.points.length
theorem zmJ {p:Pln} (h:zb8 p.sections=true):points p=true↔PtsP p:=by
 have hs:=zbj h
 have hm:=(zgt _).1 h
 have h9:∀ s∈p.sections,s.pt≤99:=fun s hs'=>(hs s hs').2.2.2.1
 have hlen:(List.replicate 100 (0:Int)).length=100:=by simp
 unfold points
 simp only[Bool.and_eq_true,zdg,decide_eq_true_eq,Bool.not_eq_true',List.any_eq_false]
 unfold pts
 rw[zet,zjw]
 constructor
 ·rintro ⟨⟨h1,h2,h3⟩,h4,h5⟩
  refine ⟨fun x hx=>h1 x.id (List.mem_map_of_mem hx),h2,fun x hx=>?_,by simpa using h3,by omega⟩
  have h6:=h5 x hx
  unfold zjF at h6
  simp only[Bool.or_eq_true,Bool.not_eq_true',decide_eq_true_eq,decide_eq_false_iff_not,not_or,Classical.not_not]at h6
  have hx1:=h1 x.id (List.mem_map_of_mem hx)
  rcases zjE p.sections (List.replicate 100 0) 0 x.id.toNat h9 hlen with h7|⟨s,hs1,hs2,hs3,hs4⟩
  ·rw[h6.2,zdq _ _ _ (by omega)]at h7
   exact absurd h7 h6.1
  ·exact ⟨s,hs1,by rw[hs4,h6.2],by omega⟩
 ·rintro ⟨h1,h2,h3,h4,h5⟩
  refine ⟨⟨fun n hn=>?_,h2,by simpa using h4⟩,by omega,fun x hx=>?_⟩
  ·obtain ⟨x,hx,rfl⟩:=List.mem_map.1 hn
   exact h1 x hx
  ·obtain ⟨s,hs1,hs2,hs3⟩:=h3 x hx
   have h6:=zjD p.sections (List.replicate 100 0) 0 hlen h9 hm.pw s hs1 (by have:=h1 x hx;omega)
   have h7:=(hs s hs1).1
   unfold zjF
   rw[←hs3,h6,←hs2]
   simp
   omega
def rpF (p:Pln):Bool :=
 zaT (fun i (m:Int) zbi=>cond (!decide ((nth p.sections i).pt=0)) (zbi (m+1)) (zbi m))
  (fun m=>zaT (fun i _ zbi=>cond (decide ((nth p.points i).id<1)||(decide (99<(nth p.points i).id)||(decide ((0:Int)<i)&&decide ((nth p.points i).id≤(nth p.points (i-1)).id)||(decide (zdE (nth p.points i).sec 0 p.sections<0)||!decide ((nth p.sections (zdE (nth p.points i).sec 0 p.sections).toNat).pt=(nth p.points i).id))))) false (zbi ()))
   (fun _=>decide ((p.points.length:Int)≤6)&&decide (m=(p.points.length:Int))) p.points.length 0 ()) p.sections.length 0 0
theorem rpF_eq {p:Pln} (h:zb8 p.sections=true):rpF p=points p:=by
 have hs:=zbj h
 have hm:=(zgt _).1 h
 have hso:zdY p.sections:=zdt h
 generalize hX:points p=X
 have hiff:X=true↔PtsP p:=by rw[←hX];exact zmJ h
 have good1:∀ {b:Bool},(b=true↔PtsP p)→b=X:=fun hb=>by rw[Bool.eq_iff_iff,hb,hiff]
 unfold rpF
 refine zaK (·=X) (fun k m=>m=((((p.sections.take k).filter fun s=>decide (0<s.pt)).length:Nat):Int)) rfl ?_ ?_
 ·rintro k m zbi hk rfl hn
  have h1:=hs _ (zab hk)
  have h2:(p.sections.take (k+1)).filter (fun s=>decide (0<s.pt))=(p.sections.take k).filter (fun s=>decide (0<s.pt))++(if 0<(nth p.sections k).pt then [nth p.sections k] else []):=by
   rw[←zg3 hk,List.filter_append]
   congr 1
   by_cases e:0<(nth p.sections k).pt
   ·simp[e]
   ·simp[e]
  by_cases e:(nth p.sections k).pt=0
  ·rw[decide_eq_true e,Bool.not_true,cond_false]
   refine hn _ ?_
   rw[h2,if_neg (by omega),List.append_nil]
  ·rw[decide_eq_false e,Bool.not_false,cond_true]
   refine hn _ ?_
   rw[h2,if_pos (by omega),List.length_append]
   simp
 ·rintro m rfl
  rw[List.take_of_length_le (Nat.le_refl _)]
  refine zaK (·=X) (fun k _=>∀ i,i<k→(1≤(nth p.points i).id∧(nth p.points i).id≤99)∧(0<i→(nth p.points (i-1)).id<(nth p.points i).id)∧∃ s∈p.sections,s.id=(nth p.points i).sec∧s.pt=(nth p.points i).id) (fun i hi=>by omega) ?_ ?_
  ·intro k _ zbi hk hK hn
   by_cases hok:(1≤(nth p.points k).id∧(nth p.points k).id≤99)∧(0<k→(nth p.points (k-1)).id<(nth p.points k).id)∧∃ s∈p.sections,s.id=(nth p.points k).sec∧s.pt=(nth p.points k).id
   ·obtain ⟨h1,h2,s,hs1,hs2,hs3⟩:=hok
    have h4:=zds hso hs1
    rw[hs2]at h4
    have:(decide ((nth p.points k).id<1)||(decide (99<(nth p.points k).id)||(decide ((0:Int)<k)&&decide ((nth p.points k).id≤(nth p.points (k-1)).id)||(decide (zdE (nth p.points k).sec 0 p.sections<0)||!decide ((nth p.sections (zdE (nth p.points k).sec 0 p.sections).toNat).pt=(nth p.points k).id)))))=false:=by
     rw[h4.1,hs3]
     simp only[Bool.or_eq_false_iff,Bool.and_eq_false_imp,decide_eq_false_iff_not,decide_eq_true_eq,Bool.not_eq_false']
     refine ⟨by omega,by omega,fun h=>?_,by omega,trivial⟩
     have:=h2 (by omega)
     omega
    rw[this,cond_false]
    refine hn () fun i hi=>?_
    rcases Nat.lt_or_ge i k with h|h
    ·exact hK i h
    ·obtain rfl:i=k:=by omega
     exact ⟨h1,h2,s,hs1,hs2,hs3⟩
   ·have:(decide ((nth p.points k).id<1)||(decide (99<(nth p.points k).id)||(decide ((0:Int)<k)&&decide ((nth p.points k).id≤(nth p.points (k-1)).id)||(decide (zdE (nth p.points k).sec 0 p.sections<0)||!decide ((nth p.sections (zdE (nth p.points k).sec 0 p.sections).toNat).pt=(nth p.points k).id)))))=true:=by
     rw[←Bool.not_eq_false]
     intro hf
     simp only[Bool.or_eq_false_iff,Bool.and_eq_false_imp,decide_eq_false_iff_not,decide_eq_true_eq,Bool.not_eq_false']at hf
     obtain ⟨h1,h2,h3,h4,h5⟩:=hf
     refine hok ⟨⟨by omega,by omega⟩,fun h=>?_, ?_⟩
     ·have:=h3 (by omega)
      omega
     ·rcases zcM (nth p.points k).sec p.sections 0 with ⟨e,_⟩|⟨q,hq,e,e2⟩
      ·rw[e]at h4;exact absurd (by decide) h4
      ·have e3:(zdE (nth p.points k).sec 0 p.sections).toNat=q:=by omega
       rw[e3]at h5
       exact ⟨_,zab hq,e2,h5⟩
    rw[this,cond_true]
    refine good1 ⟨fun h=>(by cases h),fun hp=>absurd ?_ hok⟩
    exact ⟨hp.id _ (zab hk),fun h=>hp.up k h hk,hp.sec _ (zab hk)⟩
  ·intro _ hK
   refine good1 ?_
   simp only[Bool.and_eq_true,decide_eq_true_eq]
   constructor
   ·rintro ⟨h1,h2⟩
    refine ⟨fun x hx=>?_,fun i h0 hi=>(hK i hi).2.1 h0,fun x hx=>?_,h1,h2⟩
    ·obtain ⟨i,hi,rfl⟩:=zbG hx
     exact (hK i hi).1
    ·obtain ⟨i,hi,rfl⟩:=zbG hx
     exact (hK i hi).2.2
   ·intro hp
    exact ⟨hp.len,hp.many⟩
end Go.Lev
namespace Go.Lev
open Go.Eng
theorem ziM {sec:List Int} (h3:∀ i,nth sec i≤3) {x y:Sgn} (hx:zb0 sec x.sec=true∧0≤x.ed∧x.ed<nth sec x.sec.toNat) (hy:zb0 sec y.sec=true∧0≤y.ed∧y.ed<nth sec y.sec.toNat):zcI x=zcI y↔x.sec=y.sec∧x.ed=y.ed:=by
 have h4:=h3 x.sec.toNat
 have h5:=h3 y.sec.toNat
 have h6:0≤x.sec∧x.sec≤99:=by have:=hx.1;simp only[zb0,Bool.and_eq_true,decide_eq_true_eq]at this;omega
 have h7:0≤y.sec∧y.sec≤99:=by have:=hy.1;simp only[zb0,Bool.and_eq_true,decide_eq_true_eq]at this;omega
 unfold zcI
 constructor
 ·intro h;omega
 ·rintro ⟨h1,h2⟩;rw[h1,h2]
theorem zha {sec:List Int} (h3:∀ i,nth sec i≤3) {x:Sgn} (hx:zb0 sec x.sec=true∧0≤x.ed∧x.ed<nth sec x.sec.toNat):zcI x<300:=by
 have h4:=h3 x.sec.toNat
 have h6:0≤x.sec∧x.sec≤99:=by have:=hx.1;simp only[zb0,Bool.and_eq_true,decide_eq_true_eq]at this;omega
 unfold zcI
 omega
theorem zkp {sec:List Int} (h3:∀ i,nth sec i≤3):∀ (l:List Sgn) (m:List Bool),m.length=300→(zg9 sec m l=true↔(∀ x∈l,(zb0 sec x.sec=true∧0≤x.ed∧x.ed<nth sec x.sec.toNat)∧nth m (zcI x)=false)∧l.Pairwise fun x y=>zcI x≠zcI y)
 |[],m,_=>by simp[zg9]
 |x::r,m,hm=>by
  have ih:=zkp h3 r (m.set (zcI x) true) (by simpa using hm)
  rw[zg9,Bool.and_eq_true,ih,List.pairwise_cons]
  have hb:(!zdf sec m x)=true↔(zb0 sec x.sec=true∧0≤x.ed∧x.ed<nth sec x.sec.toNat)∧nth m (zcI x)=false:=by
   unfold zdf
   simp only[Bool.not_eq_true',Bool.or_eq_false_iff,Bool.not_eq_false',decide_eq_false_iff_not]
   constructor
   ·rintro ⟨h1,h2,h4,h5⟩;exact ⟨⟨h1,by omega,by omega⟩,h5⟩
   ·rintro ⟨⟨h1,h2,h4⟩,h5⟩;exact ⟨h1,by omega,by omega,h5⟩
  rw[hb]
  constructor
  ·rintro ⟨h1,h2,h4⟩
   have hl:=zha h3 h1.1
   refine ⟨fun y hy=>?_,fun y hy e=>?_,h4⟩
   ·rcases List.mem_cons.1 hy with rfl|hy
    ·exact h1
    ·have h5:=h2 y hy
     refine ⟨h5.1, ?_⟩
     have h6:=h5.2
     rw[zbk _ _ _ _ (by omega)]at h6
     split at h6
     ·cases h6
     ·exact h6
   ·have h6:=(h2 y hy).2
    rw[zbk _ _ _ _ (by omega),if_pos e.symm]at h6
    cases h6
  ·rintro ⟨h1,h2,h4⟩
   have h0:=h1 x (by simp)
   have hl:=zha h3 h0.1
   refine ⟨h0,fun y hy=>?_,h4⟩
   have h5:=h1 y (by simp[hy])
   refine ⟨h5.1, ?_⟩
   rw[zbk _ _ _ _ (by omega),if_neg (fun e=>h2 y hy e.symm)]
   exact h5.2
structure SgsP (p:Pln):Prop where
 id:∀ x∈p.signals,1≤x.id∧x.id≤99
 up:∀ i,i<p.signals.length→∀ m,m<i→(nth p.signals m).id<(nth p.signals i).id
 apart:∀ i,i<p.signals.length→∀ m,m<i→¬((nth p.signals m).sec=(nth p.signals i).sec∧(nth p.signals m).ed=(nth p.signals i).ed)
 sec:∀ x∈p.signals,∃ s∈p.sections,s.id=x.sec∧0≤x.ed∧x.ed<s.ends.length
 len:(p.signals.length:Int)≤10
theorem zfu {α:Type} [Inhabited α] {R:α→α→Prop} {l:List α}:l.Pairwise R↔∀ i,i<l.length→∀ m,m<i→R (nth l m) (nth l i):=by
 rw[List.pairwise_iff_getElem]
 constructor
 ·intro h i hi m hm
  have:=h m i (by omega) hi hm
  rw[←zaW (by omega),←zaW hi]at this
  exact this
 ·intro h i j hi hj hij
  have:=h j hj i hij
  rw[zaW hi,zaW hj]at this
  exact this
theorem zj4 {p:Pln} (h:zb8 p.sections=true) (x:Sgn):(zb0 (ends p.sections) x.sec=true∧0≤x.ed∧x.ed<nth (ends p.sections) x.sec.toNat)↔∃ s∈p.sections,s.id=x.sec∧0≤x.ed∧x.ed<s.ends.length:=by
 rw[zd7 h]
 constructor
 ·rintro ⟨⟨s,hs,e⟩,h1,h2⟩
  rw[←e,zh8 h hs]at h2
  exact ⟨s,hs,e,h1,h2⟩
 ·rintro ⟨s,hs,e,h1,h2⟩
  exact ⟨⟨s,hs,e⟩,h1,by rw[←e,zh8 h hs];exact h2⟩
theorem zg7 {p:Pln} (h:zb8 p.sections=true):signals p (ends p.sections)=true↔SgsP p:=by
 have h3:=zqb h
 unfold signals
 rw[Bool.and_eq_true,zdg,zkp h3 _ _ List.length_replicate]
 have hpw:(p.signals.map Sgn.id).Pairwise (· < ·)↔∀ i,i<p.signals.length→∀ m,m<i→(nth p.signals m).id<(nth p.signals i).id:=by
  rw[List.pairwise_map,zfu]
 rw[hpw,zfu]
 constructor
 ·rintro ⟨⟨h1,h2,h4⟩,h5,h6⟩
  refine ⟨fun x hx=>h1 x.id (List.mem_map_of_mem hx),h2,fun i hi m hm e=>?_,fun x hx=>(zj4 h x).1 (h5 x hx).1,by simpa using h4⟩
  exact h6 i hi m hm ((ziM h3 (h5 _ (zab (by omega))).1 (h5 _ (zab hi)).1).2 e)
 ·rintro ⟨h1,h2,h4,h5,h6⟩
  refine ⟨⟨fun n hn=>?_,h2,by simpa using h6⟩,fun x hx=>?_,fun i hi m hm e=>?_⟩
  ·obtain ⟨x,hx,rfl⟩:=List.mem_map.1 hn
   exact h1 x hx
  ·have h7:=(zj4 h x).2 (h5 x hx)
   exact ⟨h7,zdq _ _ _ (zha h3 h7)⟩
  ·exact h4 i hi m hm ((ziM h3 ((zj4 h _).2 (h5 _ (zab (by omega)))) ((zj4 h _).2 (h5 _ (zab hi)))).1 e)
def zny (p:Pln) (x:Sgn):Bool:=decide (x.id<1)||(decide (99<x.id)||(decide (zdE x.sec 0 p.sections<0)||(decide (x.ed<0)||decide (((nth p.sections (zdE x.sec 0 p.sections).toNat).ends.length:Int)≤x.ed))))
def rsF (p:Pln):Bool :=
 zaT (fun i _ zbi=>cond (zny p (nth p.signals i)) false
   (zaT (fun m _ next2=>cond (decide ((nth p.signals i).id≤(nth p.signals m).id)||(decide ((nth p.signals m).sec=(nth p.signals i).sec)&&decide ((nth p.signals m).ed=(nth p.signals i).ed))) false (next2 ())) (fun _=>zbi ()) i 0 ()))
  (fun _=>decide ((p.signals.length:Int)≤10)) p.signals.length 0 ()
theorem zhk {p:Pln} (h:zb8 p.sections=true) (x:Sgn):zny p x=false↔(1≤x.id∧x.id≤99)∧∃ s∈p.sections,s.id=x.sec∧0≤x.ed∧x.ed<s.ends.length:=by
 have hso:zdY p.sections:=zdt h
 unfold zny
 simp only[Bool.or_eq_false_iff,decide_eq_false_iff_not]
 constructor
 ·rintro ⟨h1,h2,h3,h4,h5⟩
  refine ⟨by omega, ?_⟩
  rcases zcM x.sec p.sections 0 with ⟨e,_⟩|⟨q,hq,e,e2⟩
  ·rw[e]at h3;exact absurd (by decide) h3
  ·have e3:(zdE x.sec 0 p.sections).toNat=q:=by omega
   rw[e3]at h5
   exact ⟨_,zab hq,e2,by omega,by omega⟩
 ·rintro ⟨h1,s,hs1,hs2,h3,h4⟩
  have h5:=zds hso hs1
  rw[hs2]at h5
  rw[h5.1]
  refine ⟨by omega,by omega,by omega,by omega,by omega⟩
theorem rsF_eq {p:Pln} (h:zb8 p.sections=true):rsF p=signals p (ends p.sections):=by
 generalize hX:signals p (ends p.sections)=X
 have hiff:X=true↔SgsP p:=by rw[←hX];exact zg7 h
 have good1:∀ {b:Bool},(b=true↔SgsP p)→b=X:=fun hb=>by rw[Bool.eq_iff_iff,hb,hiff]
 unfold rsF
 refine zaK (·=X) (fun k _=>∀ i,i<k→zny p (nth p.signals i)=false∧∀ m,m<i→(nth p.signals m).id<(nth p.signals i).id∧¬((nth p.signals m).sec=(nth p.signals i).sec∧(nth p.signals m).ed=(nth p.signals i).ed)) (fun i hi=>by omega) ?_ ?_
 ·intro k _ zbi hk hK hn
  cases hb:zny p (nth p.signals k) with
  |true =>
   rw[cond_true]
   refine good1 ⟨fun h=>(by cases h),fun hp=>?_⟩
   have:=(zhk h (nth p.signals k)).2 ⟨hp.id _ (zab hk),hp.sec _ (zab hk)⟩
   rw[hb]at this
   cases this
  |false =>
   rw[cond_false]
   refine zaK (·=X) (fun m _=>∀ j,j<m→(nth p.signals j).id<(nth p.signals k).id∧¬((nth p.signals j).sec=(nth p.signals k).sec∧(nth p.signals j).ed=(nth p.signals k).ed)) (fun j hj=>by omega) ?_ ?_
   ·intro m _ next2 hm hM hn2
    by_cases e:(nth p.signals m).id<(nth p.signals k).id∧¬((nth p.signals m).sec=(nth p.signals k).sec∧(nth p.signals m).ed=(nth p.signals k).ed)
    ·have:(decide ((nth p.signals k).id≤(nth p.signals m).id)||(decide ((nth p.signals m).sec=(nth p.signals k).sec)&&decide ((nth p.signals m).ed=(nth p.signals k).ed)))=false:=by
      simp only[Bool.or_eq_false_iff,Bool.and_eq_false_imp,decide_eq_false_iff_not,decide_eq_true_eq]
      exact ⟨by omega,fun h1 h2=>e.2 ⟨h1,h2⟩⟩
     rw[this,cond_false]
     refine hn2 () fun j hj=>?_
     rcases Nat.lt_or_ge j m with h1|h1
     ·exact hM j h1
     ·obtain rfl:j=m:=by omega
      exact e
    ·have:(decide ((nth p.signals k).id≤(nth p.signals m).id)||(decide ((nth p.signals m).sec=(nth p.signals k).sec)&&decide ((nth p.signals m).ed=(nth p.signals k).ed)))=true:=by
      rw[←Bool.not_eq_false]
      intro hf
      simp only[Bool.or_eq_false_iff,Bool.and_eq_false_imp,decide_eq_false_iff_not,decide_eq_true_eq]at hf
      exact e ⟨by omega,fun h1=>hf.2 h1.1 h1.2⟩
     rw[this,cond_true]
     refine good1 ⟨fun h=>(by cases h),fun hp=>absurd ?_ e⟩
     exact ⟨hp.up k hk m hm,hp.apart k hk m hm⟩
   ·intro _ hM
    refine hn () fun i hi=>?_
    rcases Nat.lt_or_ge i k with h1|h1
    ·exact hK i h1
    ·obtain rfl:i=k:=by omega
     exact ⟨hb,hM⟩
 ·intro _ hK
  refine good1 ?_
  rw[decide_eq_true_eq]
  constructor
  ·intro hl
   refine ⟨fun x hx=>?_,fun i hi m hm=>((hK i hi).2 m hm).1,fun i hi m hm=>((hK i hi).2 m hm).2,fun x hx=>?_,hl⟩
   ·obtain ⟨i,hi,rfl⟩:=zbG hx
    exact ((zhk h _).1 (hK i hi).1).1
   ·obtain ⟨i,hi,rfl⟩:=zbG hx
    exact ((zhk h _).1 (hK i hi).1).2
  ·exact fun hp=>hp.len
end Go.Lev
namespace Go.Lev
open Go.Eng
theorem zgV {α:Type} [Inhabited α] (f:α→Int) (n:Int) (d:α) (l:List α):(zbd (fun x=>decide (f x=n)) 0 l=-1∧l.find? (fun x=>decide (f x=n))=none)∨∃ i:Nat,i<l.length∧zbd (fun x=>decide (f x=n)) 0 l=(i:Int)∧f (nth l i)=n∧l.find? (fun x=>decide (f x=n))=some (nth l i):=by
 rcases zb2 (fun x:α=>decide (f x=n)) l 0 with ⟨h1,h2⟩|⟨i,h1,h2,h3⟩
 ·exact .inl ⟨h1,h2⟩
 ·exact .inr ⟨i,h1,by omega,(zfG (f:=f) h3).2,h3⟩
structure RteP (p:Pln) (r:Rte):Prop where
 ent:∃ x∈p.signals,x.id=r.entry
 ex:¬r.exit=0→(∃ x∈p.signals,x.id=r.exit)∧¬r.exit=r.entry
 ov:r.exit=0→r.over.length=0
 lens:1≤r.path.length∧r.path.length≤6∧r.over.length≤2∧r.flanks.length≤3∧1≤r.timer∧r.timer≤9
 secs:∀ x∈r.path++r.over,(∃ s∈p.sections,s.id=x)∧¬x=((p.signals.find? fun x=>decide (x.id=r.entry)).getD Sgn.z).sec
 nd:(r.path++r.over).Nodup
 flk:∀ i,i<r.flanks.length→(∃ x∈p.points,x.id=(nth r.flanks i).pnt)∧(0<i→(nth r.flanks (i-1)).pnt<(nth r.flanks i).pnt)∧((nth r.flanks i).lie=1∨(nth r.flanks i).lie=2)
theorem zc7 {α:Type} (f:α→Int) (n:Int) (l:List α):(l.find? fun x=>decide (f x=n)).isSome=true↔∃ x∈l,f x=n:=by
 rw[List.find?_isSome]
 constructor
 ·rintro ⟨x,hx,e⟩;exact ⟨x,hx,by simpa using e⟩
 ·rintro ⟨x,hx,e⟩;exact ⟨x,hx,by simpa using e⟩
def FlkOk (p:Pln) (pr:Option Int) (f:Flk):Prop:=(∃ x∈p.points,x.id=f.pnt)∧(∀ y,pr=some y→y<f.pnt)∧(f.lie=1∨f.lie=2)
theorem zn0 (p:Pln) (pr:Option Int) (f:Flk):zkU p.points pr f=false↔FlkOk p pr f:=by
 unfold zkU FlkOk
 rw[Bool.or_eq_false_iff,Bool.or_eq_false_iff,Bool.not_eq_false',zc7 Pnt.id]
 refine and_congr Iff.rfl (and_congr ?_ ?_)
 ·cases pr with
  |none=>simp
  |some y=>simp
 ·by_cases h:f.lie=1
  ·simp[h]
  ·simp[h]
theorem zm5 (p:Pln):∀ (l:List Flk) (pr:Option Int),znZ p.points pr l=true↔∀ i,i<l.length→FlkOk p (if i=0 then pr else some (nth l (i-1)).pnt) (nth l i)
 |[],pr=>by simp[znZ]
 |f::r,pr=>by
  rw[znZ,Bool.and_eq_true,Bool.not_eq_true',zn0,zm5 p r]
  constructor
  ·rintro ⟨h1,h2⟩ i hi
   match i with
   |0=>rw[if_pos rfl];exact h1
   |1=>exact h2 0 (by simpa using hi)
   |i+2 =>
    have:=h2 (i+1) (by simp at hi;omega)
    rw[if_neg (by omega)]at this ⊢
    exact this
  ·intro h
   refine ⟨by have:=h 0 (by simp);rw[if_pos rfl]at this;exact this,fun i hi=>?_⟩
   have:=h (i+1) (by simpa using hi)
   rw[if_neg (by omega)]at this
   match i with
   |0=>exact this
   |i+1=>rw[if_neg (by omega)];exact this
theorem zoS {p:Pln} (h:zb8 p.sections=true) (hg:SgsP p) (r:Rte):zcT p r (ends p.sections)=true↔RteP p r:=by
 unfold zcT
 rw[Bool.and_eq_true,Bool.and_eq_true,Bool.and_eq_true,Bool.and_eq_true]
 unfold zjt zf3 zfm zhj
 rw[zjM _ _ _ (by rw[List.length_set,List.length_replicate]),zm5]
 have hent:(p.signals.find? fun x=>decide (x.id=r.entry)).isSome=true→0≤((p.signals.find? fun x=>decide (x.id=r.entry)).getD Sgn.z).sec∧((p.signals.find? fun x=>decide (x.id=r.entry)).getD Sgn.z).sec≤99:=fun h1=>by
  obtain ⟨x,hx⟩:=Option.isSome_iff_exists.1 h1
  rw[hx]
  obtain ⟨s,hs,e,_⟩:=hg.sec x (List.mem_of_find?_eq_some hx)
  have:=zbj h s hs
  show 0≤x.sec∧x.sec≤99
  omega
 have hmark:(p.signals.find? fun x=>decide (x.id=r.entry)).isSome=true→∀ x:Int,0≤x∧x≤99→(nth ((List.replicate 100 false).set ((p.signals.find? fun x=>decide (x.id=r.entry)).getD Sgn.z).sec.toNat true) x.toNat=false↔¬x=((p.signals.find? fun x=>decide (x.id=r.entry)).getD Sgn.z).sec):=fun h1 x hx=>by
  have h2:=hent h1
  rw[zbk _ _ _ _ (by rw[List.length_replicate];omega)]
  by_cases e:x=((p.signals.find? fun x=>decide (x.id=r.entry)).getD Sgn.z).sec
  ·rw[if_pos (by rw[e])];simp[e]
  ·rw[if_neg (by omega),zdq _ _ _ (by omega)];simp[e]
 have hth:∀ x:Int,zb0 (ends p.sections) x=true→0≤x∧x≤99:=fun x hx=>by
  obtain ⟨s,hs,e⟩:=(zd7 h x).1 hx
  have:=zbj h s hs
  omega
 constructor
 ·rintro ⟨h1,h2,h3,⟨h4,h5⟩,h6⟩
  simp only[Bool.and_eq_true,Bool.not_eq_true',Bool.and_eq_false_imp,Bool.or_eq_false_iff,Bool.not_eq_false',decide_eq_true_eq,decide_eq_false_iff_not]at h1 h2 h3
  obtain ⟨h7,h8,h9⟩:=h1
  refine ⟨(zc7 Sgn.id _ _).1 h7,fun e=>?_,fun e=>?_,by omega,fun x hx=>?_,h5,fun i hi=>?_⟩
  ·have:=h8 e
   exact ⟨(zc7 Sgn.id _ _).1 this.1,this.2⟩
  ·have:=h9 e;omega
  ·obtain ⟨h10,h11⟩:=h4 x hx
   exact ⟨(zd7 h x).1 h10,(hmark h7 x (hth x h10)).1 h11⟩
  ·have:=h6 i hi
   refine ⟨this.1,fun h0=>?_,this.2.2⟩
   exact this.2.1 _ (by rw[if_neg (by omega)])
 ·intro hr
  have h7:=(zc7 Sgn.id _ _).2 hr.ent
  refine ⟨?_, ?_, ?_,⟨fun x hx=>?_,hr.nd⟩,fun i hi=>?_⟩
  ·simp only[Bool.and_eq_true,Bool.not_eq_true',Bool.and_eq_false_imp,Bool.or_eq_false_iff,Bool.not_eq_false',decide_eq_true_eq,decide_eq_false_iff_not]
   refine ⟨h7,fun e=>⟨(zc7 Sgn.id _ _).2 (hr.ex e).1,(hr.ex e).2⟩,fun e=>?_⟩
   have:=hr.ov e
   omega
  ·have:=hr.lens
   simp only[Bool.and_eq_true,Bool.not_eq_true',decide_eq_false_iff_not]
   omega
  ·have:=hr.lens
   simp only[Bool.and_eq_true,Bool.not_eq_true',decide_eq_false_iff_not]
   omega
  ·obtain ⟨h10,h11⟩:=hr.secs x hx
   have h12:=(zd7 h x).2 h10
   exact ⟨h12,(hmark h7 x (hth x h12)).2 h11⟩
  ·obtain ⟨h10,h11,h12⟩:=hr.flk i hi
   refine ⟨h10,fun y hy=>?_,h12⟩
   by_cases h0:i=0
   ·rw[if_pos h0]at hy;cases hy
   ·rw[if_neg h0]at hy
    cases hy
    exact h11 (by omega)
def rrT1 (p:Pln) (r:Rte) (k kx:Int):Bool:=decide (k<0)||(!decide (r.exit=0)&&(decide (kx<0)||decide (r.exit=r.entry))||decide (r.exit=0)&&!decide ((r.over.length:Int)=0))
def rrT2 (r:Rte):Bool:=decide ((r.path.length:Int)<1)||(decide (6<(r.path.length:Int))||(decide (2<(r.over.length:Int))||(decide (3<(r.flanks.length:Int))||(decide (r.timer<1)||decide (9<r.timer)))))
def rrS (p:Pln) (k n:Int):Bool:=decide (zdE n 0 p.sections<0)||decide (n=(nth p.signals k.toNat).sec)
def rrK (p:Pln) (r:Rte) (i:Nat):Bool:=decide (zbd (fun x=>decide (Pnt.id x=(nth r.flanks i).pnt)) 0 p.points<0)||(decide ((0:Int)<i)&&decide ((nth r.flanks i).pnt≤(nth r.flanks (i-1)).pnt)||(decide ((nth r.flanks i).lie<1)||decide (2<(nth r.flanks i).lie)))
def rrF (p:Pln) (r:Rte) (k kx:Int) (all:List Int):Bool :=
 cond (rrT1 p r k kx) false (cond (rrT2 r) false
  (zaT (fun i _ zbi=>cond (rrS p k (nth all i)) false (zaT (fun m _ next2=>cond (decide (nth all m=nth all i)) false (next2 ())) (fun _=>zbi ()) i 0 ()))
   (fun _=>zaT (fun i _ zbi=>cond (rrK p r i) false (zbi ())) (fun _=>true) r.flanks.length 0 ()) all.length 0 ()))
theorem zhL {l:List Int}:l.Nodup↔∀ i,i<l.length→∀ m,m<i→¬nth l m=nth l i:=by
 rw[List.nodup_iff_pairwise_ne,zfu]
theorem rrF_eq {p:Pln} (h:zb8 p.sections=true) (hg:SgsP p) (r:Rte):rrF p r (zbd (fun x=>decide (Sgn.id x=r.entry)) 0 p.signals) (zbd (fun x=>decide (Sgn.id x=r.exit)) 0 p.signals) (r.path++r.over)=zcT p r (ends p.sections):=by
 generalize hX:zcT p r (ends p.sections)=X
 have hiff:X=true↔RteP p r:=by rw[←hX];exact zoS h hg r
 have good1:∀ {b:Bool},(b=true↔RteP p r)→b=X:=fun hb=>by rw[Bool.eq_iff_iff,hb,hiff]
 have bad:¬RteP p r→false=X:=fun hb=>good1 ⟨fun h=>(by cases h),fun hr=>absurd hr hb⟩
 have hso:zdY p.sections:=zdt h
 unfold rrF
 cases h1:rrT1 p r (zbd (fun x=>decide (Sgn.id x=r.entry)) 0 p.signals) (zbd (fun x=>decide (Sgn.id x=r.exit)) 0 p.signals) with
 |true =>
  rw[cond_true]
  refine bad fun hr=>?_
  have hent:=hr.ent
  have:rrT1 p r (zbd (fun x=>decide (Sgn.id x=r.entry)) 0 p.signals) (zbd (fun x=>decide (Sgn.id x=r.exit)) 0 p.signals)=false:=by
   unfold rrT1
   simp only[Bool.or_eq_false_iff,Bool.and_eq_false_imp,decide_eq_false_iff_not,decide_eq_true_eq,Bool.not_eq_true',Bool.not_eq_false']
   refine ⟨?_,fun e=>?_,fun e=>?_⟩
   ·rcases zgV Sgn.id r.entry Sgn.z p.signals with ⟨_,e2⟩|⟨i,_,e2,_⟩
    ·obtain ⟨x,hx,ex⟩:=hent
     have:=List.find?_eq_none.1 e2 x hx
     simp[ex]at this
    ·omega
   ·refine ⟨?_,(hr.ex e).2⟩
    rcases zgV Sgn.id r.exit Sgn.z p.signals with ⟨_,e2⟩|⟨i,_,e2,_⟩
    ·obtain ⟨x,hx,ex⟩:=(hr.ex e).1
     have:=List.find?_eq_none.1 e2 x hx
     simp[ex]at this
    ·omega
   ·have:=hr.ov e
    omega
  rw[this]at h1
  cases h1
 |false =>
  rw[cond_false]
  unfold rrT1 at h1
  simp only[Bool.or_eq_false_iff,Bool.and_eq_false_imp,decide_eq_false_iff_not,decide_eq_true_eq,Bool.not_eq_true',Bool.not_eq_false']at h1
  obtain ⟨h1a,h1b,h1c⟩:=h1
  rcases zgV Sgn.id r.entry Sgn.z p.signals with ⟨e,_⟩|⟨k,hk,e,ek,ef⟩
  ·rw[e]at h1a;exact absurd (by decide) h1a
  ·rw[e]
   have hsec:((p.signals.find? fun x=>decide (x.id=r.entry)).getD Sgn.z).sec=(nth p.signals k).sec:=by rw[ef];rfl
   cases h2:rrT2 r with
   |true =>
    rw[cond_true]
    refine bad fun hr=>?_
    have:=hr.lens
    have:rrT2 r=false:=by
     unfold rrT2
     simp only[Bool.or_eq_false_iff,decide_eq_false_iff_not]
     omega
    rw[this]at h2
    cases h2
   |false =>
    rw[cond_false]
    unfold rrT2 at h2
    simp only[Bool.or_eq_false_iff,decide_eq_false_iff_not]at h2
    have hS:∀ n:Int,rrS p (k:Int) n=false↔(∃ s∈p.sections,s.id=n)∧¬n=(nth p.signals k).sec:=fun n=>by
     unfold rrS
     rw[Int.toNat_natCast,Bool.or_eq_false_iff,decide_eq_false_iff_not,decide_eq_false_iff_not]
     refine and_congr ?_ Iff.rfl
     constructor
     ·intro h3
      rcases zcM n p.sections 0 with ⟨e3,_⟩|⟨q,hq,e3,e4⟩
      ·rw[e3]at h3;exact absurd (by decide) h3
      ·exact ⟨_,zab hq,e4⟩
     ·rintro ⟨s,hs,e3⟩
      have:=(zds hso hs).2
      rw[e3]at this
      omega
    have hK:∀ i,rrK p r i=false↔(∃ x∈p.points,x.id=(nth r.flanks i).pnt)∧(0<i→(nth r.flanks (i-1)).pnt<(nth r.flanks i).pnt)∧((nth r.flanks i).lie=1∨(nth r.flanks i).lie=2):=fun i=>by
     unfold rrK
     simp only[Bool.or_eq_false_iff,Bool.and_eq_false_imp,decide_eq_false_iff_not,decide_eq_true_eq]
     refine and_congr ?_ (and_congr ?_ ?_)
     ·rcases zav Pnt.id (nth r.flanks i).pnt p.points with ⟨e3,e4⟩|⟨q,hq,e3,e4⟩
      ·rw[e3]
       constructor
       ·intro h3;exact absurd (by decide) h3
       ·rintro ⟨x,hx,ex⟩;exact absurd ex (e4 x hx)
      ·rw[e3]
       exact ⟨fun _=>⟨_,zab hq,e4⟩,fun _=>by omega⟩
     ·constructor
      ·intro h3 h4;have:=h3 (by omega);omega
      ·intro h3 h4;have:=h3 (by omega);omega
     ·omega
    refine zaK (·=X) (fun i _=>∀ j,j<i→((∃ s∈p.sections,s.id=nth (r.path++r.over) j)∧¬nth (r.path++r.over) j=(nth p.signals k).sec)∧∀ m,m<j→¬nth (r.path++r.over) m=nth (r.path++r.over) j) (fun j hj=>by omega) ?_ ?_
    ·intro i _ zbi hi hI hn
     cases h3:rrS p (k:Int) (nth (r.path++r.over) i) with
     |true =>
      rw[cond_true]
      refine bad fun hr=>?_
      have:=hr.secs _ (zab hi)
      rw[hsec]at this
      rw[(hS _).2 this]at h3
      cases h3
     |false =>
      rw[cond_false]
      refine zaK (·=X) (fun m _=>∀ j,j<m→¬nth (r.path++r.over) j=nth (r.path++r.over) i) (fun j hj=>by omega) ?_ ?_
      ·intro m _ next2 hm hM hn2
       by_cases e4:nth (r.path++r.over) m=nth (r.path++r.over) i
       ·rw[decide_eq_true e4,cond_true]
        exact bad fun hr=>zhL.1 hr.nd i hi m hm e4
       ·rw[decide_eq_false e4,cond_false]
        refine hn2 () fun j hj=>?_
        rcases Nat.lt_or_ge j m with h5|h5
        ·exact hM j h5
        ·obtain rfl:j=m:=by omega
         exact e4
      ·intro _ hM
       refine hn () fun j hj=>?_
       rcases Nat.lt_or_ge j i with h5|h5
       ·exact hI j h5
       ·obtain rfl:j=i:=by omega
        exact ⟨(hS _).1 h3,hM⟩
    ·intro _ hI
     refine zaK (·=X) (fun i _=>∀ j,j<i→rrK p r j=false) (fun j hj=>by omega) ?_ ?_
     ·intro i _ zbi hi hJ hn
      cases h3:rrK p r i with
      |true =>
       rw[cond_true]
       refine bad fun hr=>?_
       rw[(hK i).2 (hr.flk i hi)]at h3
       cases h3
      |false =>
       rw[cond_false]
       refine hn () fun j hj=>?_
       rcases Nat.lt_or_ge j i with h5|h5
       ·exact hJ j h5
       ·obtain rfl:j=i:=by omega
        exact h3
     ·intro _ hJ
      refine good1 ⟨fun _=>?_,fun _=>rfl⟩
      refine ⟨⟨_,zab hk,ek⟩,fun e4=>?_,fun e4=>?_,by omega,fun x hx=>?_,zhL.2 fun i hi m hm=>(hI i hi).2 m hm,fun i hi=>(hK i).1 (hJ i hi)⟩
      ·have:=h1b e4
       refine ⟨?_,this.2⟩
       rcases zgV Sgn.id r.exit Sgn.z p.signals with ⟨e5,_⟩|⟨q,hq,e5,e6,_⟩
       ·rw[e5]at this;exact absurd (by decide) this.1
       ·exact ⟨_,zab hq,e6⟩
      ·have:=h1c e4;omega
      ·obtain ⟨i,hi,rfl⟩:=zbG hx
       rw[hsec]
       exact (hI i hi).1
end Go.Lev
namespace Go.Lev
open Go.Eng
def rmT (p:Pln):Bool:=decide (p.version<1)||(decide (2147483647<p.version)||(decide (p.parent<0)||(decide (p.version≤p.parent)||decide (16<(p.routes.length:Int)))))
def rmR (p:Pln) (rt:Rte→Bool) (i:Nat):Bool:=decide ((nth p.routes i).id<1)||(decide (99<(nth p.routes i).id)||(decide ((0:Int)<i)&&decide ((nth p.routes i).id≤(nth p.routes (i-1)).id)||!rt (nth p.routes i)))
def rmF (p:Pln) (m pts sgs:Bool) (rt:Rte→Bool):Bool :=
 cond (rmT p) false (cond (!m||(!pts||!sgs)) false (zaT (fun i _ zbi=>cond (rmR p rt i) false (zbi ())) (fun _=>true) p.routes.length 0 ()))
theorem rmF_eq (p:Pln):rmF p (zb8 p.sections) (points p) (signals p (ends p.sections)) (fun r=>zcT p r (ends p.sections))=zbY p:=by
 have key:∀ X:Bool,zbY p=X→rmF p (zb8 p.sections) (points p) (signals p (ends p.sections)) (fun r=>zcT p r (ends p.sections))=X:=by
  intro X hX
  have hiff:X=true↔rmT p=false∧(zb8 p.sections=true∧points p=true∧signals p (ends p.sections)=true)∧∀ i,i<p.routes.length→rmR p (fun r=>zcT p r (ends p.sections)) i=false:=by
   rw[←hX]
   unfold zbY rmT rmR
   simp only[Bool.and_eq_true,Bool.not_eq_true',Bool.or_eq_false_iff,Bool.and_eq_false_imp,decide_eq_false_iff_not,decide_eq_true_eq,Bool.not_eq_false',zdg,zjw,List.all_eq_true]
   constructor
   ·rintro ⟨⟨h1,h2,h3,h4,h5⟩,h6,h7,⟨h8,h9,h10⟩,h11⟩
    refine ⟨⟨h1,h2,h3,h4,by simp only[List.length_map]at h10;omega⟩,⟨h5,h6,h7⟩,fun i hi=>?_⟩
    have:=h8 (nth p.routes i).id (List.mem_map_of_mem (zab hi))
    refine ⟨by omega,by omega,fun h=>?_,h11 _ (zab hi)⟩
    have:=h9 i (by omega) hi
    omega
   ·rintro ⟨⟨h1,h2,h3,h4,h10⟩,⟨h5,h6,h7⟩,h8⟩
    refine ⟨⟨h1,h2,h3,h4,h5⟩,h6,h7,⟨fun n hn=>?_,fun i h0 hi=>?_,by simp only[List.length_map];omega⟩,fun r hr=>?_⟩
    ·obtain ⟨r,hr,rfl⟩:=List.mem_map.1 hn
     obtain ⟨i,hi,rfl⟩:=zbG hr
     have:=h8 i hi
     omega
    ·have:=(h8 i hi).2.2.1 (by omega)
     omega
    ·obtain ⟨i,hi,rfl⟩:=zbG hr
     exact (h8 i hi).2.2.2
  have bad:¬(rmT p=false∧(zb8 p.sections=true∧points p=true∧signals p (ends p.sections)=true)∧∀ i,i<p.routes.length→rmR p (fun r=>zcT p r (ends p.sections)) i=false)→false=X:=fun h=>by
   cases X with
   |false=>rfl
   |true=>exact absurd (hiff.1 rfl) h
  unfold rmF
  cases h1:rmT p with
  |true=>rw[cond_true];exact bad fun h=>by rw[h1]at h;cases h.1
  |false =>
   rw[cond_false]
   by_cases h2:zb8 p.sections=true∧points p=true∧signals p (ends p.sections)=true
   ·rw[h2.1,h2.2.1,h2.2.2,Bool.not_true,Bool.or_false,Bool.or_false,cond_false]
    refine zaK (·=X) (fun i _=>∀ j,j<i→rmR p (fun r=>zcT p r (ends p.sections)) j=false) (fun j hj=>by omega) ?_ ?_
    ·intro i _ zbi hi hI hn
     cases h3:rmR p (fun r=>zcT p r (ends p.sections)) i with
     |true=>rw[cond_true];exact bad fun h=>by have:=h.2.2 i hi;rw[h3]at this;cases this
     |false =>
      rw[cond_false]
      refine hn () fun j hj=>?_
      rcases Nat.lt_or_ge j i with h5|h5
      ·exact hI j h5
      ·obtain rfl:j=i:=by omega
       exact h3
    ·intro _ hI
     exact (hiff.2 ⟨h1,h2,hI⟩).symm
   ·have:(!zb8 p.sections||(!points p||!signals p (ends p.sections)))=true:=by
     rw[←Bool.not_eq_false]
     intro h
     simp only[Bool.or_eq_false_iff,Bool.not_eq_false']at h
     exact h2 h
    rw[this,cond_true]
    exact bad fun h=>h2 h.2.1
 exact key _ rfl
end Go.Lev
namespace Go.Lev
open Go.Eng
theorem zm2 {p:Pln} {s:State} (ho:OkP p) (h:zak p s=true) (n:Int):frT s n=decide (zgH s n=0):=by
 rw[Bool.eq_iff_iff,decide_eq_true_eq]
 constructor
 ·intro h1
  obtain ⟨x,hx,e⟩:=List.any_eq_true.1 h1
  simp only[Bool.and_eq_true,decide_eq_true_eq]at e
  obtain ⟨k,hk,rfl⟩:=zbG hx
  rw[e.1,zpG ho h hk];exact e.2.symm
 ·intro h1
  unfold zgH at h1
  cases e:s.tracks.find? fun t=>decide (t.id=n) with
  |none=>rw[e]at h1;exact absurd h1 (by decide)
  |some t =>
   rw[e]at h1
   have h2:=List.find?_some e
   exact List.any_eq_true.2 ⟨t,List.mem_of_find?_eq_some e,by
    simp only[Bool.and_eq_true,decide_eq_true_eq]
    exact ⟨(show t.id=n by simpa using h2).symm,h1.symm⟩⟩
theorem zpv {p:Pln} {s:State} (h:zag p s=0) {i:Nat} (hi:i<s.locks.length) {n:Int} (hid:(nth s.locks i).id=n):zgG s n=(i:Int):=by
 unfold zgG
 rcases zav Lock.id n s.locks with ⟨_,h4⟩|⟨k,hk,h4,h5⟩
 ·exact absurd hid (h4 _ (zab hi))
 ·rw[h4,zlS h hk hi (h5.trans hid.symm)]
theorem zpw {p:Pln} {s:State} (h:zag p s=0) {i:Nat} (hi:i<s.locks.length) {n:Int} (hid:(nth s.locks i).id=n):lkC p s n=if (nth s.locks i).phase=0 then setE p s i else 180:=by
 unfold lkC
 rw[if_pos h,zpv h hi hid,if_neg (by omega),Int.toNat_natCast]
theorem lkC_no {p:Pln} {s:State} (h:zag p s=0) {n:Int} (hid:∀ x∈s.locks,x.id≠n):lkC p s n=6:=by
 unfold lkC
 rw[if_pos h,if_pos]
 unfold zgG
 rcases zav Lock.id n s.locks with ⟨h3,_⟩|⟨k,hk,h4,h5⟩
 ·rw[h3];decide
 ·exact absurd h5 (hid _ (zab hk))
def leF (p:Pln) (s:State) (n e:Int) (w:WayR) (H A:Int→Int):Bool :=
 zaT (fun i _ zbi=>cond (!decide ((nth s.locks i).id=n)) (zbi ())
   (cond (!decide ((nth s.locks i).phase=0)) (decide (e=180))
    (zaT (fun k _ next2=>cond (!decide (H (nth (w.path++w.over) k)=0)) (decide (e=181)) (cond (!decide (zgH s (nth (w.path++w.over) k)=0)) (decide (e=182)) (next2 ())))
     (fun _=>zaT (fun k _ next3 =>
       zaT (fun m _ next4=>cond (decide ((nth s.switches m).id=(nth w.asks k).pnt)&&!decide ((nth s.switches m).call=(nth w.asks k).lie)&&(!decide (A (nth s.switches m).id=0)||!decide (zgH s (nth p.points m).sec=0))) (decide (e=183)) (next4 ()))
        (fun _=>next3 ()) s.switches.length 0 ())
      (fun _=>decide (e=0)) w.asks.length 0 ()) (w.path++w.over).length 0 ())))
  (fun _=>decide (e=6)) s.locks.length 0 ()
theorem zjk {p:Pln} {s:State} (h:zak p s=true) {k:Nat} (hk:k<s.switches.length):(nth s.switches k).id=(nth p.points k).id:=by
 have:=(zcp _ _ _).1 (by simp only[zak,Bool.and_eq_true]at h;exact h.2.1)
 have:=this.2 k hk
 simp only[zfY,Bool.and_eq_true,decide_eq_true_eq]at this
 exact this.1
end Go.Lev
namespace Go.Lev
open Go.Eng
def zdo (p:Pln) (n:Int):Section:=nth p.sections (zdE n 0 p.sections).toNat
def zln (p:Pln) (r:Rte) (all:List Int) (i:Nat) (s:Section) (e:Int) (j:Join):Bool :=
 if (i:Int)=(r.path.length:Int)-1 then (decide (r.exit=0)&&decide (j.to=0)||!decide (r.exit=0)&&decide (znu p s.id e=r.exit)) else decide (j.to=nth all (i+1))
def outW (p:Pln) (r:Rte) (all:List Int) (i:Nat) (s:Section) (f:Int):Option (Nat×Join×Int):=zaU s f (zln p r all i s) 0 s.ends
def zgN (p:Pln) (r:Rte) (all:List Int):Nat→Join→List Int→List Int→List Int→Option (List Int×List Int)
 |_,_,ins,outs,[]=>some (ins,outs)
 |i,j,ins,outs,n::l =>
  if j.to=n then (if i+1=all.length∧0<r.over.length then some (ins++[j.ed],outs++[-1]) else
   match outW p r all i (zdo p n) j.ed with
   |none=>none
   |some v=>zgN p r all (i+1) v.2.1 (ins++[j.ed]) (outs++[(v.1:Int)]) l)
  else none
def zqD (p:Pln) (i:Nat) (n a b:Int):List AskR :=
 if (zdo p n).pt=0 then [] else if 0<(if 0≤b then zhx (zdo p n) a b else a) then [⟨(zdo p n).pt,(if 0≤b then zhx (zdo p n) a b else a),i⟩] else []
def zhP (p:Pln):Nat→List Int→List Int→List Int→List AskR
 |i,n::l,a::I,b::O=>zqD p i n a b++zhP p (i+1) l I O
 |_,_,_,_=>[]
def outG:List Int→List Int→List Join
 |n::l,b::O=>(if 0≤b then [⟨n,b⟩] else [])++outG l O
 |_,_=>[]
theorem zjh {p:Pln} {w:Wk} {s i:Int} {R:Int→Join→Bool} (h:w.lost=true):(zaC p w s i R).lost=true:=by
 unfold zaC
 rw[if_pos h]
 exact h
theorem znq {p:Pln} {w:Wk} {s i:Int} (h:w.lost=true):(zd0 p w s i).lost=true:=by
 unfold zd0
 split
 ·rfl
 ·rw[if_neg (by rw[h];simp)]
  exact h
theorem zeT {p:Pln} {r:Rte} {y:Sgn} {all:List Int}:∀ (l:List Int) (i:Nat) (w:Wk),w.lost=true→(zbD p r y all i w l).lost=true
 |[],_,_,h=>h
 |s::l,i,w,h=>by
  rw[zbD]
  refine zeT l _ _ ?_
  unfold zd8
  repeat' split
  all_goals first|exact zjh h|exact znq h
theorem zft {s:Section} {f:Int} {R R':Int→Join→Bool}:∀ (l:List Join) (e:Nat),(∀ k,k<l.length→R ((e+k:Nat):Int) (nth l k)=R' ((e+k:Nat):Int) (nth l k))→zaU s f R e l=zaU s f R' e l
 |[],_,_=>rfl
 |j::r,e,h=>by
  have h0:R (e:Int) j=R' (e:Int) j:=h 0 (by simp)
  have ih:=zft (s:=s) (f:=f) (R:=R) (R':=R') r (e+1) fun k hk=>by
   have:=h (k+1) (by simpa using hk)
   rw[show e+(k+1)=e+1+k by omega]at this
   exact this
  rw[zaU,zaU,ih,h0]
theorem zeu {s:Section} {f:Int} {R:Int→Join→Bool}:∀ (l:List Join) (e:Nat) {v:Nat×Join×Int},zaU s f R e l=some v→e≤v.1∧v.1<e+l.length∧v.2.1=nth l (v.1-e)∧(zbc s f v.1).2=0∧v.2.2=(zbc s f v.1).1
 |[],_,v,h=>by simp[zaU]at h
 |j::r,e,v,h=>by
  rw[zaU]at h
  split at h
  ·rename_i h1
   simp only[Option.some.injEq]at h
   subst h
   exact ⟨Nat.le_refl _,by simp,by rw[Nat.sub_self];rfl,h1.1,rfl⟩
  ·obtain ⟨h1,h2,h3,h4⟩:=zeu r (e+1) h
   refine ⟨by omega,by simp;omega, ?_,h4⟩
   rw[h3,show v.1-e=(v.1-(e+1))+1 by omega]
   rfl
section
variable {p:Pln} (hs:zb8 p.sections=true)
include hs
theorem zeU {n:Int} (h:∃ s∈p.sections,s.id=n):zdo p n∈p.sections∧(zdo p n).id=n∧p.sections.find? (fun s=>decide (s.id=n))=some (zdo p n):=by
 obtain ⟨s,hs1,e⟩:=h
 have h1:=zds (zdt hs) hs1
 rw[e]at h1
 have h2:zdo p n=s:=h1.1
 rw[h2]
 have:=zjY Section.id (zex (zks hs)) hs1
 rw[e]at this
 exact ⟨hs1,e,this⟩
theorem zko {s:Section} (h:s∈p.sections):zbv s=true:=((zgt _).1 hs).one s h |>.2.2
theorem join_0 {s:Section} (h:s∈p.sections) {e:Nat} (he:e<s.ends.length):(nth s.ends e).to=0↔nth s.ends e=⟨0,0⟩:=by
 constructor
 ·intro h0
  rcases ((zgt _).1 hs).join s h e he with h1|⟨_,_,s',hs',e1,_⟩
  ·cases hj:nth s.ends e with
   |mk a b =>
    rw[hj]at h1
    obtain ⟨h2,h3⟩:=h1
    dsimp only at h2 h3
    rw[h2,h3]
  ·have:=(zbj hs s' hs').1
   omega
 ·intro h0;rw[h0]
end
theorem zoD {p:Pln} (h:SgsP p):(p.signals.map Sgn.id).Nodup:=by
 rw[List.nodup_iff_pairwise_ne,List.pairwise_map,zfu]
 intro i hi m hm
 have:=h.up i hi m hm
 omega
theorem zmv (n:Int):∀ (l:List Sgn) (o:Sgn),(∀ x∈l,x.id≠n)→zns n o l=o
 |[],_,_=>rfl
 |x::r,o,h=>by rw[zns,if_neg (h x (by simp))];exact zmv n r o fun y hy=>h y (by simp[hy])
theorem zlz (n:Int):∀ (l:List Sgn) (o:Sgn),(l.map Sgn.id).Nodup→∀ x∈l,x.id=n→zns n o l=x
 |[],_,_,x,hx,_=>by cases hx
 |y::r,o,hn,x,hx,e=>by
  simp only[List.map_cons,List.nodup_cons]at hn
  rw[zns]
  rcases List.mem_cons.1 hx with rfl|hx
  ·rw[if_pos e]
   exact zmv n r x fun z hz e2=>hn.1 (by rw[e,←e2];exact List.mem_map_of_mem hz)
  ·split
   ·exact zlz n r _ hn.2 x hx e
   ·exact zlz n r _ hn.2 x hx e
theorem zmu {p:Pln} (h:SgsP p) {x:Sgn} (hx:x∈p.signals):sig p x.id=x:=zlz _ _ _ (zoD h) x hx rfl
theorem zmX (x:Sgn):∀ (l:List Section) (j:Join),(∀ s∈l,s.id≠x.sec)→zjU x j l=j
 |[],_,_=>rfl
 |s::r,j,h=>by rw[zjU,if_neg (h s (by simp))];exact zmX x r j fun y hy=>h y (by simp[hy])
theorem zpP (x:Sgn):∀ (l:List Section) (j:Join),(l.map Section.id).Nodup→∀ s∈l,s.id=x.sec→zjU x j l=nth s.ends x.ed.toNat
 |[],_,_,s,hs,_=>by cases hs
 |t::r,j,hn,s,hs,e=>by
  simp only[List.map_cons,List.nodup_cons]at hn
  rw[zjU]
  rcases List.mem_cons.1 hs with rfl|hs
  ·rw[if_pos e]
   exact zmX x r _ fun z hz e2=>hn.1 (by rw[e,←e2];exact List.mem_map_of_mem hz)
  ·exact zpP x r _ hn.2 s hs e
theorem zmy {p:Pln} (h:SgsP p) {a b n:Int} (hn:¬n=0):znu p a b=n↔∃ x∈p.signals,x.id=n∧x.sec=a∧x.ed=b:=by
 unfold znu
 constructor
 ·intro e
  cases hf:p.signals.find? (fun x=>decide (x.sec=a)&&decide (x.ed=b)) with
  |none=>rw[hf]at e;exact absurd e.symm hn
  |some x =>
   rw[hf]at e
   have h1:=List.find?_some hf
   simp only[Bool.and_eq_true,decide_eq_true_eq]at h1
   exact ⟨x,List.mem_of_find?_eq_some hf,e,h1⟩
 ·rintro ⟨x,hx,e1,e2,e3⟩
  cases hf:p.signals.find? (fun x=>decide (x.sec=a)&&decide (x.ed=b)) with
  |none =>
   have:=List.find?_eq_none.1 hf x hx
   simp[e2,e3]at this
  |some z =>
   have h1:=List.find?_some hf
   simp only[Bool.and_eq_true,decide_eq_true_eq]at h1
   obtain ⟨i,hi,rfl⟩:=zbG hx
   obtain ⟨k,hk,rfl⟩:=zbG (List.mem_of_find?_eq_some hf)
   show (nth p.signals k).id=n
   rcases Nat.lt_trichotomy i k with hlt|rfl|hlt
   ·exact absurd ⟨e2.trans h1.1.symm,e3.trans h1.2.symm⟩ (h.apart k hk i hlt)
   ·exact e1
   ·exact absurd ⟨h1.1.trans e2.symm,h1.2.trans e3.symm⟩ (h.apart i hi k hlt)
theorem zoE {p:Pln} (h:SgsP p) {a b:Int}:znu p a b=0↔∀ x∈p.signals,¬(x.sec=a∧x.ed=b):=by
 unfold znu
 cases hf:p.signals.find? (fun x=>decide (x.sec=a)&&decide (x.ed=b)) with
 |none =>
  refine ⟨fun _ x hx e=>?_,fun _=>rfl⟩
  have:=List.find?_eq_none.1 hf x hx
  simp[e.1,e.2]at this
 |some z =>
  have h1:=List.find?_some hf
  simp only[Bool.and_eq_true,decide_eq_true_eq]at h1
  have hz:=List.mem_of_find?_eq_some hf
  refine ⟨fun e=>?_,fun e=>absurd h1 (e z hz)⟩
  have:=h.id z hz
  have e:z.id=0:=e
  omega
end Go.Lev
namespace Go.Lev
open Go.Eng
section
variable {p:Pln} (hs:zb8 p.sections=true) (hg:SgsP p) {r:Rte} (hr:RteP p r)
include hs hg hr
theorem zkg {all:List Int} (hall:all=r.path++r.over) {i:Nat} (hi:i<all.length) (hst:¬(i+1=all.length∧0<r.over.length)) (w:Wk) (hw:w.lost=false) (hj:w.inn.to=nth all i) :
  zd8 p r (sig p r.exit) all i (nth all i) w=match outW p r all i (zdo p (nth all i)) w.inn.ed with
   |none=>{ w with lost:=true }
   |some v=>⟨v.2.1,ziG (zdo p (nth all i)).pt v.2.2 i w.asks,w.outs++[⟨nth all i,v.1⟩],false⟩:=by
 have hsec:=(hr.secs (nth all i) (by rw[←hall];exact zab hi)).1
 obtain ⟨hm,hid,hf⟩:=zeU hs hsec
 have hlen:=hr.lens
 have hal:all.length=r.path.length+r.over.length:=by rw[hall,List.length_append]
 have key:∀ R:Int→Join→Bool,(∀ k,k<(zdo p (nth all i)).ends.length→R ((0+k:Nat):Int) (nth (zdo p (nth all i)).ends k)=zln p r all i (zdo p (nth all i)) ((0+k:Nat):Int) (nth (zdo p (nth all i)).ends k)) →
   zaC p w (nth all i) i R=match outW p r all i (zdo p (nth all i)) w.inn.ed with
    |none=>{ w with lost:=true }
    |some v=>⟨v.2.1,ziG (zdo p (nth all i)).pt v.2.2 i w.asks,w.outs++[⟨nth all i,v.1⟩],false⟩:=by
  intro R hR
  unfold zaC outW zgE
  rw[if_neg (by rw[hw];simp),if_pos hj,hf,←zft _ _ hR]
  dsimp only
  cases zaU (zdo p (nth all i)) w.inn.ed R 0 (zdo p (nth all i)).ends with
  |none=>rfl
  |some v=>rfl
 unfold zd8
 by_cases h1:(i:Int)=(r.path.length:Int)-1
 ·by_cases h2:r.exit=0
  ·rw[if_pos ⟨h1,h2⟩]
   refine key _ fun k hk=>?_
   unfold zln
   rw[if_pos h1,decide_eq_true h2,Bool.not_true,Bool.false_and,Bool.or_false,Bool.true_and,Bool.eq_iff_iff,decide_eq_true_eq,decide_eq_true_eq]
   exact (join_0 hs hm hk).symm
  ·rw[if_neg (fun h=>h2 h.2),if_pos h1]
   refine key _ fun k hk=>?_
   unfold zln
   rw[if_pos h1,decide_eq_false h2,Bool.false_and,Bool.false_or,Bool.not_false,Bool.true_and,hid,Bool.eq_iff_iff,Bool.and_eq_true,decide_eq_true_eq,decide_eq_true_eq,decide_eq_true_eq,zmy hg h2]
   obtain ⟨x,hx,ex⟩:=(hr.ex h2).1
   have hsx:sig p r.exit=x:=by rw[←ex];exact zmu hg hx
   rw[hsx]
   constructor
   ·rintro ⟨e1,e2⟩;exact ⟨x,hx,ex,e1.symm,e2.symm⟩
   ·rintro ⟨y,hy,e1,e2,e3⟩
    have:x=y:=by rw[←zmu hg hx,←zmu hg hy,ex,e1]
    subst this
    exact ⟨e2.symm,e3.symm⟩
 ·have h3:¬(i:Int)=(all.length:Int)-1:=fun h=>by
   rcases Nat.eq_zero_or_pos r.over.length with h0|h0
   ·omega
   ·exact hst ⟨by omega,h0⟩
  rw[if_neg (fun h=>h1 h.1),if_neg h1,if_neg h3]
  refine key _ fun k hk=>?_
  unfold zln
  rw[if_neg h1]
theorem zi4 {all:List Int} (hall:all=r.path++r.over):∀ (l:List Int) (i:Nat) (j:Join) (asks:List AskR) (outs:List Join) (I O:List Int),all.drop i=l→i≤all.length →
  match zgN p r all i j I O l with
  |none=>(zbD p r (sig p r.exit) all i ⟨j,asks,outs,false⟩ l).lost=true
  |some v=>(zbD p r (sig p r.exit) all i ⟨j,asks,outs,false⟩ l).lost=false∧∃ I' O':List Int,v=(I++I',O++O')∧I'.length=l.length∧O'.length=l.length ∧
    (zbD p r (sig p r.exit) all i ⟨j,asks,outs,false⟩ l).asks=asks++zhP p i l I' O'∧(zbD p r (sig p r.exit) all i ⟨j,asks,outs,false⟩ l).outs=outs++outG l O'
 |[],i,j,asks,outs,I,O,_,_=>⟨rfl,[],[],by simp,rfl,rfl,by simp[zbD,zhP],by simp[zbD,outG]⟩
 |n::l,i,j,asks,outs,I,O,hd,hi=>by
  have hil:i<all.length:=by
   rcases Nat.lt_or_ge i all.length with h|h
   ·exact h
   ·rw[List.drop_eq_nil_of_le h]at hd;cases hd
  have hn:nth all i=n∧all.drop (i+1)=l:=by
   rw[zaf hil]at hd
   simp only[List.cons.injEq]at hd
   exact hd
  obtain ⟨hn1,hn2⟩:=hn
  have hsec:=(hr.secs n (by rw[←hall,←hn1];exact zab hil)).1
  obtain ⟨hm,hid,hf⟩:=zeU hs hsec
  have hpt:0≤(zdo p n).pt:=(zbj hs _ hm).2.2.1
  have hsh:=zko hs hm
  rw[zgN,zbD]
  by_cases hj:j.to=n
  ·rw[if_pos hj]
   by_cases hst:i+1=all.length∧0<r.over.length
   ·rw[if_pos hst]
    have hl:l=[]:=by rw[←hn2];exact List.drop_eq_nil_of_le (by omega)
    subst hl
    have hal:all.length=r.path.length+r.over.length:=by rw[hall,List.length_append]
    have hW:zd8 p r (sig p r.exit) all i n ⟨j,asks,outs,false⟩=⟨j,ziG (zdo p n).pt (if 0<j.ed then j.ed else 0) i asks,outs,false⟩:=by
     unfold zd8
     rw[if_neg (by omega),if_neg (by omega),if_pos (by omega)]
     unfold zd0 zgE
     rw[if_pos hj,hf]
     dsimp only
     by_cases h0:0<j.ed
     ·rw[if_pos ⟨rfl,h0⟩,if_pos h0]
     ·rw[if_neg (fun h=>h0 h.2),if_neg h0]
      unfold ziG
      rw[if_neg (by omega)]
    rw[hW,zbD]
    refine ⟨rfl,[j.ed],[-1],rfl,rfl,rfl, ?_, ?_⟩
    ·dsimp only
     rw[show zhP p i [n] [j.ed] [-1]=zqD p i n j.ed (-1) by simp[zhP]]
     unfold ziG zqD
     rw[if_neg (show ¬(0:Int)≤-1 by decide)]
     by_cases h0:0<j.ed
     ·rw[if_pos h0,if_pos h0]
      by_cases h1:(zdo p n).pt=0
      ·rw[if_neg (by omega),if_pos h1];simp
      ·rw[if_pos ⟨by omega,h0⟩,if_neg h1]
     ·rw[if_neg h0,if_neg h0,if_neg (by omega)]
      simp
    ·rw[show outG [n] [-1]=[] by simp[outG]];simp
   ·rw[if_neg hst]
    have hT:=zkg hs hg hr hall hil hst ⟨j,asks,outs,false⟩ rfl (by rw[hn1];exact hj)
    rw[hn1]at hT
    rw[hT]
    dsimp only
    cases ho:outW p r all i (zdo p n) j.ed with
    |none=>exact zeT l _ _ rfl
    |some v =>
     dsimp only
     have hpe:=zeu (zdo p n).ends 0 ho
     have ih:=zi4 hall l (i+1) v.2.1 (ziG (zdo p n).pt v.2.2 i asks) (outs++[⟨n,v.1⟩]) (I++[j.ed]) (O++[(v.1:Int)]) hn2 hil
     cases he:zgN p r all (i+1) v.2.1 (I++[j.ed]) (O++[(v.1:Int)]) l with
     |none=>rw[he]at ih;exact ih
     |some u =>
      rw[he]at ih
      obtain ⟨h1,I',O',h2,h3,h4,h5,h6⟩:=ih
      refine ⟨h1,j.ed::I',(v.1:Int)::O',by rw[h2];simp,by simp[h3],by simp[h4], ?_, ?_⟩
      ·rw[h5,zhP]
       have hlie:v.2.2=zhx (zdo p n) j.ed v.1∧0≤zhx (zdo p n) j.ed v.1:=by
        have h7:=hpe.2.2.2.1
        have h8:=hpe.2.2.2.2
        unfold zbc at h7 h8
        rw[if_pos hsh]at h7 h8
        split at h7
        ·cases h7
        ·rename_i h9
         rw[if_neg h9]at h8
         exact ⟨h8,by omega⟩
       rw[←List.append_assoc]
       congr 1
       unfold ziG zqD
       rw[if_pos (show (0:Int)≤(v.1:Int) by omega),hlie.1]
       by_cases h1:(zdo p n).pt=0
       ·rw[if_neg (by omega),if_pos h1];simp
       ·rw[if_neg h1]
        by_cases h0:0<zhx (zdo p n) j.ed v.1
        ·rw[if_pos ⟨by omega,h0⟩,if_pos h0]
        ·rw[if_neg (by omega),if_neg h0];simp
      ·rw[h6,outG,if_pos (show (0:Int)≤(v.1:Int) by omega)]
       simp
  ·rw[if_neg hj]
   refine zeT l _ _ ?_
   have h0:zgE p ⟨j,asks,outs,false⟩ n=none:=by
    unfold zgE
    rw[if_neg hj]
   unfold zd8
   repeat' split
   all_goals first
    |(unfold zaC;rw[if_neg (by simp),h0])
    |(unfold zd0;rw[h0])
end
end Go.Lev
