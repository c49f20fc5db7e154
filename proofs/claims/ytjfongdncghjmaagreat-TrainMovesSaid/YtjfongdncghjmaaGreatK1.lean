/-
  A part of the engine that walks the functions' codes, and of the functions' contracts. Conditions: those that each theorem names.
-/
import Derived.Below
import Derived.Calls
import Derived.ChangeKeysEq
import Derived.DataReads
import Derived.Deep.LoopGhost
import Derived.Laws.AppendOwn
import Derived.Laws.Cells
import Derived.Laws.CopyRow
import Derived.Laws.Entries
import Derived.Laws.MakeOwn
import Derived.Laws.Rows
import Derived.Laws.StructEq
import Derived.Laws.Tables
import Derived.Lib.AppendZerosOnto
import Derived.MapKept
import Derived.Orders
import Derived.ProofKit
import Derived.ScopeJumps
import Derived.Tactics2
import Derived.WalkSpells
set_option linter.unusedSimpArgs false
set_option linter.unusedVariables false
set_option linter.unusedSectionVars false
namespace Go.Eng
open Go.RowKit
inductive AV where
 |i (k:IntKind) (n:Int)
 |b (b:Bool)
 |v (x:Value)
 |u
 |agg (cs:List AV)
 |tup (cs:List AV)
 |s0 (sz:Nat)
 |sl (sz:Nat) (es:List (List AV))
 |ip (sz:Nat) (es:List (List AV)) (i k:Nat)
 |ptr (l ver off:Nat)
 |sm (l ver off n sz:Nat)
 |fn (j:Nat) (caps:List AV)
 |mp (l:Nat)
 |top
 deriving Inhabited
structure Place where
 block:Nat
 len:Nat
 size:Nat
 real:Bool
structure Ctx where
 inv:Nat->Option Nat
 w:World
 A:Nat->Prop
 S:Nat->Option Place
mutual
/-- A value that has no names in it. -/
def AV.bare:AV->Bool
 |.agg cs=>zaf cs
 |.tup cs=>zaf cs
 |.ptr _ _ _=>false
 |.sm _ _ _ _ _=>false
 |.mp _=>false
 |.fn _ cs=>zaf cs
 |.i _ _=>true|.b _=>true|.v _=>true|.u=>true|.s0 _=>true|.sl _ _=>true|.ip _ _ _ _=>true|.top=>true
def zaf:List AV->Bool
 |[]=>true
 |x::xs=>x.bare&&zaf xs
end
mutual
def rel (c:Ctx):AV->Value->Prop
 |.i k n,x=>x=.int k n
 |.b t,x=>x=.bool t
 |.v y,x=>x=y
 |.u,x=>x=undef
 |.agg cs,x=>∃ xs:Array Value,x=.agg xs/\relCs c cs xs.toList
 |.tup cs,x=>∃ xs:Array Value,x=.tuple xs/\zcp c cs xs.toList
 |.s0 _,x=>∃ ad,x=.slice ad 0 0
 |.sl sz es,x=>∃ ad cap,x=.slice ad es.length cap/\es.length<=cap/\(es≠[]->∃ a:Addr,ad=some a/\¬c.A a.block/\a.block<c.w.heap.size/\zaS c sz a 0 es)
 |.ip sz es i k,x=>∃ a:Addr,x=.pointer (some (a.add (i*sz+k)))/\¬c.A a.block/\a.block<c.w.heap.size/\zaS c sz a 0 es
 |.ptr l ver off,x=>x.oneCell'=true/\∀ p,c.S l=some p->ver<=p.len/\(ver=p.len->x=.pointer (some ⟨p.block,off,Option.none⟩))
 |.sm l ver off n sz,x=>x.oneCell'=true/\∀ p,c.S l=some p->ver<=p.len/\(ver=p.len->off+n*sz<=ver/\∃ ad cap,x=.slice ad n cap/\n<=cap /\
   if p.real then (cap=0\/ad=some ⟨p.block,off,Option.none⟩)/\off+cap*sz<=p.size else cap=0)
 |.fn j cs,x=>∃ (g:Nat) (xs:Array Value),x=.func (.func g) #[] xs/\c.inv g=some j/\zcp c cs xs.toList
 |.mp l,x=>x.oneCell'=true/\∀ p,c.S l=some p->p.len=0->x=.map (some p.block)
 |.top,_=>True
def zcp (c:Ctx):List AV->List Value->Prop
 |[],ys=>ys=[]
 |x::xs,ys=>∃ y ys',ys=y::ys'/\rel c x y/\zcp c xs ys'
def relCs (c:Ctx):List AV->List Value->Prop
 |[],ys=>ys=[]
 |x::xs,ys=>∃ y ys',ys=y::ys'/\y.oneCell'=true/\rel c x y/\relCs c xs ys'
def zb9 (c:Ctx) (a:Addr):Nat->List AV->Prop
 |_,[]=>True
 |k,x::xs=>(∃ y,c.w.cell? (a.add k)=some y/\y.oneCell'=true/\x.bare=true/\rel { c with S:=fun _=>Option.none } x y)/\zb9 c a (k+1) xs
def zaS (c:Ctx) (sz:Nat) (a:Addr):Nat->List (List AV)->Prop
 |_,[]=>True
 |k,r::rs=>r.length=sz/\zb9 c a k r/\zaS c sz a (k+sz) rs
end
theorem zeW (a:Addr) (n:Nat):(a.add n).block=a.block:=by unfold Addr.add;split<;>rfl
theorem zi6 (a:Addr) (i j:Nat):(a.add i).add j=a.add (i+j):=by
 unfold Addr.add;by_cases hi:i=0<;>by_cases hj:j=0<;>simp[hi,hj,Nat.add_assoc]
structure Ctx.Le (c c':Ctx):Prop where
 inv:c'.inv=c.inv
 size:c.w.heap.size<=c'.w.heap.size
 keep:∀ b,b<c.w.heap.size->¬c.A b->c'.w.heap[b]?=c.w.heap[b]?
 avoid:∀ b,b<c.w.heap.size->c'.A b->c.A b
def Stays (N:Nat) (S S':Nat->Option Place):Prop :=
 ∀ l,l<N->∀ p',S' l=some p'->∃ p,S l=some p/\p.len<=p'.len/\(p.len=p'.len->p'=p)
mutual
/-- All names in a value lie below N. -/
def AV.under (N:Nat):AV->Bool
 |.agg cs=>zbG N cs
 |.tup cs=>zbG N cs
 |.ptr l _ _=>Nat.blt l N
 |.sm l _ _ _ _=>Nat.blt l N
 |.mp l=>Nat.blt l N
 |.fn _ cs=>zbG N cs
 |.i _ _=>true|.b _=>true|.v _=>true|.u=>true|.s0 _=>true|.sl _ _=>true|.ip _ _ _ _=>true|.top=>true
def zbG (N:Nat):List AV->Bool
 |[]=>true
 |x::xs=>x.under N&&zbG N xs
end
theorem Ctx.Le.none {c c':Ctx} (h:c.Le c'):({ c with S:=fun _=>Option.none }:Ctx).Le { c' with S:=fun _=>Option.none }:=⟨h.inv,h.size,h.keep,h.avoid⟩
theorem zsh {c c':Ctx} (h:c.Le c') {p:Addr} (hb:p.block<c.w.heap.size) (hA:¬c.A p.block):c'.w.cell? p=c.w.cell? p :=
 World.cell?_of_block (w:=c.w) (h.keep p.block hb hA)
mutual
theorem zeh {N:Nat} {c c':Ctx} (h:c.Le c'):∀ (x:AV) (y:Value),(Stays N c.S c'.S/\x.under N=true\/c'.S=fun _=>Option.none)->rel c x y->rel c' x y
 |.i _ _,_,_,r=>by simpa only[rel] using r
 |.b _,_,_,r=>by simpa only[rel] using r
 |.v _,_,_,r=>by simpa only[rel] using r
 |.u,_,_,r=>by simpa only[rel] using r
 |.agg cs,y,s,r=>by
  simp only[rel]at r |-
  obtain ⟨xs,e,r⟩:=r;exact ⟨xs,e,ze6 h cs _ (by simpa only[AV.under] using s) r⟩
 |.tup cs,y,s,r=>by
  simp only[rel]at r |-
  obtain ⟨xs,e,r⟩:=r;exact ⟨xs,e,zco h cs _ (by simpa only[AV.under] using s) r⟩
 |.s0 _,_,_,r=>by simpa only[rel] using r
 |.sl sz es,y,s,r=>by
  simp only[rel]at r |-
  obtain ⟨ad,cap,e,hc,hr⟩:=r;refine ⟨ad,cap,e,hc,fun hne=>?_⟩
  obtain ⟨a,ea,hA,hlt,hrow⟩:=hr hne;exact ⟨a,ea,fun ha=>hA (h.avoid _ hlt ha),Nat.lt_of_lt_of_le hlt h.size,zeI (N:=N) h sz a hA hlt 0 es hrow⟩
 |.ip sz es i k,y,s,r=>by
  simp only[rel]at r |-
  obtain ⟨a,e,hA,hlt,hrow⟩:=r;exact ⟨a,e,fun ha=>hA (h.avoid _ hlt ha),Nat.lt_of_lt_of_le hlt h.size,zeI (N:=N) h sz a hA hlt 0 es hrow⟩
 |.ptr l ver off,y,s,r=>by
  simp only[rel]at r |-
  refine ⟨r.1, ?_⟩;replace r:=r.2;intro p' hp';rcases s with ⟨s,hb⟩|s
  ·simp only[AV.under,Nat.blt_eq]at hb
   obtain ⟨p,hp,hle,he⟩:=s l hb p' hp';obtain ⟨h1,h2⟩:=r p hp;refine ⟨Nat.le_trans h1 hle,fun e=>?_⟩
   have e1:p.len=p'.len:=Nat.le_antisymm hle (e▸h1);rw[he e1];exact h2 (e.trans e1.symm)
  ·rw[s]at hp';cases hp'
 |.sm l ver off n sz,y,s,r=>by
  simp only[rel]at r |-
  refine ⟨r.1, ?_⟩;replace r:=r.2;intro p' hp';rcases s with ⟨s,hb⟩|s
  ·simp only[AV.under,Nat.blt_eq]at hb
   obtain ⟨p,hp,hle,he⟩:=s l hb p' hp';obtain ⟨h1,h2⟩:=r p hp;refine ⟨Nat.le_trans h1 hle,fun e=>?_⟩
   have e1:p.len=p'.len:=Nat.le_antisymm hle (e▸h1);rw[he e1];exact h2 (e.trans e1.symm)
  ·rw[s]at hp';cases hp'
 |.fn j cs,y,s,r=>by
  simp only[rel]at r |-
  obtain ⟨g,xs,e,hi,r⟩:=r;exact ⟨g,xs,e,by rw[h.inv];exact hi,zco h cs _ (by simpa only[AV.under] using s) r⟩
 |.mp l,y,s,r=>by
  simp only[rel]at r |-
  refine ⟨r.1, ?_⟩;replace r:=r.2;intro p' hp' h0;rcases s with ⟨s,hb⟩|s
  ·simp only[AV.under,Nat.blt_eq]at hb
   obtain ⟨p,hp,hle,he⟩:=s l hb p' hp';rw[he (by omega)];exact r p hp (by omega)
  ·rw[s]at hp';cases hp'
 |.top,_,_,_=>by simp only[rel]
theorem zco {N:Nat} {c c':Ctx} (h:c.Le c'):∀ (xs:List AV) (ys:List Value),(Stays N c.S c'.S/\zbG N xs=true\/c'.S=fun _=>Option.none)->zcp c xs ys->zcp c' xs ys
 |[],_,_,r=>by simpa only[zcp] using r
 |x::xs,ys,s,r=>by
  simp only[zcp]at r |-
  obtain ⟨y,ys',e,r1,r2⟩:=r;refine ⟨y,ys',e,zeh (N:=N) h x y ?_ r1,zco (N:=N) h xs ys' ?_ r2⟩
  ·rcases s with ⟨s,hb⟩|s
   ·simp only[zbG,Bool.and_eq_true]at hb;exact .inl ⟨s,hb.1⟩
   ·exact .inr s
  ·rcases s with ⟨s,hb⟩|s
   ·simp only[zbG,Bool.and_eq_true]at hb;exact .inl ⟨s,hb.2⟩
   ·exact .inr s
theorem ze6 {N:Nat} {c c':Ctx} (h:c.Le c'):∀ (xs:List AV) (ys:List Value),(Stays N c.S c'.S/\zbG N xs=true\/c'.S=fun _=>Option.none)->relCs c xs ys->relCs c' xs ys
 |[],_,_,r=>by simpa only[relCs] using r
 |x::xs,ys,s,r=>by
  simp only[relCs]at r |-
  obtain ⟨y,ys',e,ho,r1,r2⟩:=r;refine ⟨y,ys',e,ho,zeh (N:=N) h x y ?_ r1,ze6 (N:=N) h xs ys' ?_ r2⟩
  ·rcases s with ⟨s,hb⟩|s
   ·simp only[zbG,Bool.and_eq_true]at hb;exact .inl ⟨s,hb.1⟩
   ·exact .inr s
  ·rcases s with ⟨s,hb⟩|s
   ·simp only[zbG,Bool.and_eq_true]at hb;exact .inl ⟨s,hb.2⟩
   ·exact .inr s
theorem zid {N:Nat} {c c':Ctx} (h:c.Le c') (a:Addr) (hA:¬c.A a.block) (hlt:a.block<c.w.heap.size):∀ (k:Nat) (xs:List AV),zb9 c a k xs->zb9 c' a k xs
 |_,[],_=>by simp only[zb9]
 |k,x::xs,r=>by
  simp only[zb9]at r |-
  obtain ⟨⟨y,hy,ho,hb,r1⟩,r2⟩:=r;refine ⟨⟨y, ?_,ho,hb,zeh (N:=N) h.none x y (.inr rfl) r1⟩,zid (N:=N) h a hA hlt (k+1) xs r2⟩;rw[zsh h (by rw[zeW];exact hlt) (by rw[zeW];exact hA)];exact hy
theorem zeI {N:Nat} {c c':Ctx} (h:c.Le c') (sz:Nat) (a:Addr) (hA:¬c.A a.block) (hlt:a.block<c.w.heap.size):∀ (k:Nat) (es:List (List AV)),zaS c sz a k es->zaS c' sz a k es
 |_,[],_=>by simp only[zaS]
 |k,r::rs,h'=>by
  simp only[zaS]at h' |-
  exact ⟨h'.1,zid (N:=N) h a hA hlt k r h'.2.1,zeI (N:=N) h sz a hA hlt (k+sz) rs h'.2.2⟩
end
mutual
/-- Of a value without names no named row matters. -/
theorem zhy {c:Ctx} {S:Nat->Option Place}:∀ (x:AV) (y:Value),x.bare=true->rel c x y->rel { c with S:=S } x y
 |.i _ _,_,_,r=>by simpa only[rel] using r
 |.b _,_,_,r=>by simpa only[rel] using r
 |.v _,_,_,r=>by simpa only[rel] using r
 |.u,_,_,r=>by simpa only[rel] using r
 |.agg cs,y,s,r=>by
  simp only[rel]at r |-
  obtain ⟨xs,e,r⟩:=r;exact ⟨xs,e,zdY cs _ (by simpa only[AV.bare] using s) r⟩
 |.tup cs,y,s,r=>by
  simp only[rel]at r |-
  obtain ⟨xs,e,r⟩:=r;exact ⟨xs,e,zie cs _ (by simpa only[AV.bare] using s) r⟩
 |.s0 _,_,_,r=>by simpa only[rel] using r
 |.sl sz es,y,s,r=>by
  simp only[rel]at r |-
  obtain ⟨ad,cap,e,hc,hr⟩:=r;refine ⟨ad,cap,e,hc,fun hne=>?_⟩
  obtain ⟨a,ea,hA,hlt,hrow⟩:=hr hne;exact ⟨a,ea,hA,hlt,zic sz a 0 es hrow⟩
 |.ip sz es i k,y,s,r=>by
  simp only[rel]at r |-
  obtain ⟨a,e,hA,hlt,hrow⟩:=r;exact ⟨a,e,hA,hlt,zic sz a 0 es hrow⟩
 |.ptr l ver off,y,s,r=>by simp[AV.bare]at s
 |.sm l ver off n sz,y,s,r=>by simp[AV.bare]at s
 |.mp l,y,s,r=>by simp[AV.bare]at s
 |.fn j cs,y,s,r=>by
  simp only[rel]at r |-
  obtain ⟨g,xs,e,hi,r⟩:=r;exact ⟨g,xs,e,hi,zie cs _ (by simpa only[AV.bare] using s) r⟩
 |.top,_,_,_=>by simp only[rel]
theorem zie {c:Ctx} {S:Nat->Option Place}:∀ (xs:List AV) (ys:List Value),zaf xs=true->zcp c xs ys->zcp { c with S:=S } xs ys
 |[],_,_,r=>by simpa only[zcp] using r
 |x::xs,ys,s,r=>by
  simp only[zaf,Bool.and_eq_true]at s;simp only[zcp]at r |-
  obtain ⟨y,ys',e,r1,r2⟩:=r;exact ⟨y,ys',e,zhy x y s.1 r1,zie xs ys' s.2 r2⟩
theorem zdY {c:Ctx} {S:Nat->Option Place}:∀ (xs:List AV) (ys:List Value),zaf xs=true->relCs c xs ys->relCs { c with S:=S } xs ys
 |[],_,_,r=>by simpa only[relCs] using r
 |x::xs,ys,s,r=>by
  simp only[zaf,Bool.and_eq_true]at s;simp only[relCs]at r |-
  obtain ⟨y,ys',e,ho,r1,r2⟩:=r;exact ⟨y,ys',e,ho,zhy x y s.1 r1,zdY xs ys' s.2 r2⟩
theorem znW {c:Ctx} {S:Nat->Option Place} (a:Addr):∀ (k:Nat) (xs:List AV),zb9 c a k xs->zb9 { c with S:=S } a k xs
 |_,[],_=>by simp only[zb9]
 |k,x::xs,r=>by
  simp only[zb9]at r |-
  exact ⟨r.1,znW a (k+1) xs r.2⟩
theorem zic {c:Ctx} {S:Nat->Option Place} (sz:Nat) (a:Addr):∀ (k:Nat) (es:List (List AV)),zaS c sz a k es->zaS { c with S:=S } sz a k es
 |_,[],_=>by simp only[zaS]
 |k,r::rs,h'=>by
  simp only[zaS]at h' |-
  exact ⟨h'.1,znW a k r h'.2.1,zic sz a (k+sz) rs h'.2.2⟩
end
theorem zaB {c:Ctx}:∀ {xs:List AV} {ys:List Value},relCs c xs ys->xs.length=ys.length
 |[],_,h=>by simp only[relCs]at h;subst h;rfl
 |x::xs,_,h=>by
  simp only[relCs]at h;obtain ⟨y,ys',rfl,_,_,h⟩:=h;simp[zaB h]
theorem zih {c:Ctx}:∀ {xs:List AV} {ys:List Value} {i:Nat} {x:AV},relCs c xs ys->xs[i]?=some x->∃ y,ys[i]?=some y/\y.oneCell'=true/\rel c x y
 |[],_,_,_,_,h=>by simp at h
 |x::xs,_,0,_,h,e=>by
  simp only[relCs]at h;obtain ⟨y,ys',rfl,h1,h2,_⟩:=h;simp at e;subst e;exact ⟨y,by simp,h1,h2⟩
 |x::xs,_,i+1,_,h,e=>by
  simp only[relCs]at h;obtain ⟨y,ys',rfl,_,_,h⟩:=h;simp at e
  simpa using zih h e
theorem zdX {c:Ctx}:∀ {xs:List AV} {ys:List Value},relCs c xs ys->∀ y∈ys,y.oneCell'=true
 |[],_,h,y,hy=>by simp only[relCs]at h;subst h;cases hy
 |x::xs,_,h,y,hy=>by
  simp only[relCs]at h;obtain ⟨y',ys',rfl,h1,_,h⟩:=h;rcases List.mem_cons.1 hy with rfl|hy
  ·exact h1
  ·exact zdX h y hy
theorem za6 {c:Ctx}:∀ {xs xs':List AV} {ys ys':List Value},relCs c xs ys->relCs c xs' ys'->relCs c (xs++xs') (ys++ys')
 |[],_,_,_,h,h'=>by simp only[relCs]at h;subst h;simpa using h'
 |x::xs,_,_,_,h,h'=>by
  simp only[relCs]at h;obtain ⟨y,ys0,rfl,h1,h2,h⟩:=h;simp only[List.cons_append,relCs];exact ⟨y,_,rfl,h1,h2,za6 h h'⟩
theorem zcg {c:Ctx}:∀ {xs:List AV} {ys:List Value} (n:Nat),relCs c xs ys->relCs c (xs.take n) (ys.take n)
 |_,_,0,_=>by simp[relCs]
 |[],_,n+1,h=>by simp only[relCs]at h;subst h;simp[relCs]
 |x::xs,_,n+1,h=>by
  simp only[relCs]at h;obtain ⟨y,ys',rfl,h1,h2,h⟩:=h;simp only[List.take_succ_cons,relCs];exact ⟨y,_,rfl,h1,h2,zcg n h⟩
theorem zch {c:Ctx}:∀ {xs:List AV} {ys:List Value} (n:Nat),relCs c xs ys->relCs c (xs.drop n) (ys.drop n)
 |_,_,0,h=>by simpa using h
 |[],_,n+1,h=>by simp only[relCs]at h;subst h;simp[relCs]
 |x::xs,_,n+1,h=>by
  simp only[relCs]at h;obtain ⟨y,ys',rfl,h1,h2,h⟩:=h
  simpa using zch n h
theorem zlt {c:Ctx}:∀ {xs:List AV} {ys:List Value} (n:Nat) {x:AV} {y:Value},relCs c xs ys->y.oneCell'=true->rel c x y->relCs c (xs.set n x) (ys.set n y)
 |[],_,_,_,_,h,_,_=>by simp only[relCs]at h;subst h;simp[relCs]
 |x::xs,_,0,_,_,h,h1,h2=>by
  simp only[relCs]at h;obtain ⟨y,ys',rfl,_,_,h⟩:=h;simp only[List.set_cons_zero,relCs];exact ⟨_,_,rfl,h1,h2,h⟩
 |x::xs,_,n+1,_,_,h,h1,h2=>by
  simp only[relCs]at h;obtain ⟨y,ys',rfl,h3,h4,h⟩:=h;simp only[List.set_cons_succ,relCs];exact ⟨_,_,rfl,h3,h4,zlt n h h1 h2⟩
theorem zbs {c:Ctx}:relCs c [] []:=by simp[relCs]
theorem zcQ {c:Ctx} {x:AV} {xs:List AV} {y:Value} {ys:List Value} (h1:y.oneCell'=true) (h2:rel c x y) (h:relCs c xs ys):relCs c (x::xs) (y::ys):=by
 simp only[relCs];exact ⟨y,ys,rfl,h1,h2,h⟩
theorem zfJ {c:Ctx}:∀ {xs:List AV} {ys:List Value},zcp c xs ys->xs.length=ys.length
 |[],_,h=>by simp only[zcp]at h;subst h;rfl
 |x::xs,_,h=>by
  simp only[zcp]at h;obtain ⟨y,ys',rfl,_,h⟩:=h;simp[zfJ h]
theorem znX {c:Ctx}:zcp c [] []:=by simp[zcp]
theorem zge {c:Ctx} {x:AV} {xs:List AV} {y:Value} {ys:List Value} (h2:rel c x y) (h:zcp c xs ys):zcp c (x::xs) (y::ys):=by
 simp only[zcp];exact ⟨y,ys,rfl,h2,h⟩
theorem zif {c:Ctx}:∀ {xs xs':List AV} {ys ys':List Value},zcp c xs ys->zcp c xs' ys'->zcp c (xs++xs') (ys++ys')
 |[],_,_,_,h,h'=>by simp only[zcp]at h;subst h;simpa using h'
 |x::xs,_,_,_,h,h'=>by
  simp only[zcp]at h;obtain ⟨y,ys0,rfl,h2,h⟩:=h;simp only[List.cons_append,zcp];exact ⟨y,_,rfl,h2,zif h h'⟩
theorem zki {c:Ctx}:∀ {xs:List AV} {ys:List Value} {i:Nat} {x:AV},zcp c xs ys->xs[i]?=some x->∃ y,ys[i]?=some y/\rel c x y
 |[],_,_,_,_,h=>by simp at h
 |x::xs,_,0,_,h,e=>by
  simp only[zcp]at h;obtain ⟨y,ys',rfl,h2,_⟩:=h;simp at e;subst e;exact ⟨y,by simp,h2⟩
 |x::xs,_,i+1,_,h,e=>by
  simp only[zcp]at h;obtain ⟨y,ys',rfl,_,h⟩:=h;simp at e
  simpa using zki h e
theorem zdE:∀ (xs ys:List AV),zaf (xs++ys)=(zaf xs&&zaf ys)
 |[],ys=>by simp[zaf]
 |x::xs,ys=>by simp[zaf,zdE xs ys,Bool.and_assoc]
theorem zg5:∀ (n:Nat) (xs:List AV),zaf xs=true->zaf (xs.take n)=true
 |0,_,_=>by simp[zaf]
 |_+1,[],_=>by simp[zaf]
 |n+1,x::xs,h=>by simp only[zaf,Bool.and_eq_true]at h;simp[zaf,h.1,zg5 n xs h.2]
theorem zfn:∀ (n:Nat) (xs:List AV),zaf xs=true->zaf (xs.drop n)=true
 |0,_,h=>by simpa using h
 |_+1,[],_=>by simp[zaf]
 |n+1,x::xs,h=>by simp only[zaf,Bool.and_eq_true]at h;simpa using zfn n xs h.2
theorem zmg:∀ {xs:List AV} {i:Nat} {x:AV},zaf xs=true->xs[i]?=some x->x.bare=true
 |[],_,_,_,h=>by simp at h
 |x::xs,0,_,h,e=>by simp only[zaf,Bool.and_eq_true]at h;simp at e;subst e;exact h.1
 |x::xs,i+1,_,h,e=>by simp only[zaf,Bool.and_eq_true]at h;simp at e;exact zmg h.2 e
theorem zib {c:Ctx} {sz:Nat} {a:Addr}:∀ {k:Nat} {es:List (List AV)} {i:Nat} {r:List AV},zaS c sz a k es->es[i]?=some r->r.length=sz/\zb9 c a (k+i*sz) r
 |_,[],_,_,_,h=>by simp at h
 |k,r::rs,0,_,h,e=>by
  simp only[zaS]at h;simp at e;subst e;exact ⟨h.1,by simpa using h.2.1⟩
 |k,r::rs,i+1,_,h,e=>by
  simp only[zaS]at h;simp at e;have:=zib h.2.2 e;rw[show k+(i+1)*sz=k+sz+i*sz by rw[Nat.add_mul];omega]
  exact this
theorem zo4 {c:Ctx} {a:Addr}:∀ {k:Nat} {r:List AV} {j:Nat} {x:AV},zb9 c a k r->r[j]?=some x->∃ y,c.w.cell? (a.add (k+j))=some y/\y.oneCell'=true/\x.bare=true/\rel { c with S:=fun _=>none } x y
 |_,[],_,_,_,h=>by simp at h
 |k,x::xs,0,_,h,e=>by
  simp only[zb9]at h;simp at e;subst e;exact h.1
 |k,x::xs,j+1,_,h,e=>by
  simp only[zb9]at h;simp at e;have:=zo4 h.2 e;rw[show k+(j+1)=k+1+j by omega]
  exact this
theorem zfI {c:Ctx} {a:Addr}:∀ {k:Nat} {r:List AV},zb9 c a k r->zaf r=true/\∃ ys:List Value,relCs { c with S:=fun _=>none } r ys/\∀ j u,ys[j]?=some u->c.w.cell? (a.add (k+j))=some u
 |_,[],_=>⟨rfl,[],zbs,by simp⟩
 |k,x::xs,h=>by
  simp only[zb9]at h;obtain ⟨⟨y,hy,ho,hb,hr⟩,h⟩:=h;obtain ⟨hbs,ys,h1,h2⟩:=zfI h;refine ⟨by simp[zaf,hb,hbs],y::ys,zcQ ho hr h1,fun j u hu=>?_⟩
  cases j with
  |zero=>simp at hu;subst hu;exact hy
  |succ j=>simp at hu;have:=h2 j u hu;rw[show k+(j+1)=k+1+j by omega];exact this
theorem zgd {c:Ctx} {a:Addr}:∀ {k:Nat} {r:List AV} {ys:List Value},zaf r=true->relCs { c with S:=fun _=>none } r ys->(∀ j u,ys[j]?=some u->c.w.cell? (a.add (k+j))=some u)->zb9 c a k r
 |_,[],_,_,_,_=>by simp only[zb9]
 |k,x::xs,_,hb,h,hc=>by
  simp only[zaf,Bool.and_eq_true]at hb;simp only[relCs]at h;obtain ⟨y,ys',rfl,ho,hr,h⟩:=h;simp only[zb9];refine ⟨⟨y,hc 0 y (by simp),ho,hb.1,hr⟩,zgd hb.2 h fun j u hu=>?_⟩
  have:=hc (j+1) u (by simpa using hu)
  rwa [show k+(j+1)=k+1+j by omega]at this
theorem zhe {c:Ctx} {sz:Nat} {a:Addr}:∀ {k:Nat} {es:List (List AV)},zaS c sz a k es->es.flatten.length=es.length*sz/\zaf es.flatten=true/\∃ ys:List Value,relCs { c with S:=fun _=>none } es.flatten ys/\∀ j u,ys[j]?=some u->c.w.cell? (a.add (k+j))=some u
 |_,[],_=>⟨by simp,rfl,[],zbs,by simp⟩
 |k,r::rs,h=>by
  simp only[zaS]at h;obtain ⟨hl,hr,h⟩:=h;obtain ⟨hb1,ys1,h1,h2⟩:=zfI hr;obtain ⟨hl',hb2,ys2,h3,h4⟩:=zhe h;refine ⟨by simp[hl,hl',Nat.add_mul];omega,by rw[List.flatten_cons,zdE,hb1,hb2];rfl,ys1++ys2,by rw[List.flatten_cons];exact za6 h1 h3,fun j u hu=>?_⟩
  have e:=zaB h1;rw[List.getElem?_append]at hu;split at hu
  ·exact h2 j u hu
  ·have:=h4 _ u hu
   rwa [show k+sz+(j-ys1.length)=k+j by omega]at this
def zbd (sz:Nat):Nat->List AV->List (List AV)
 |0,_=>[]
 |n+1,xs=>xs.take sz::zbd sz n (xs.drop sz)
theorem zbX (sz:Nat):∀ (n:Nat) (xs:List AV),(zbd sz n xs).length=n
 |0,_=>rfl
 |n+1,xs=>by simp[zbd,zbX sz n]
theorem zfz (sz:Nat):∀ (es:List (List AV)),(∀ r∈es,r.length=sz)->zbd sz es.length es.flatten=es
 |[],_=>rfl
 |r::rs,h=>by
  have hr:r.length=sz:=h r (by simp)
  simp only[List.length_cons,List.flatten_cons,zbd];rw[List.take_left' hr,List.drop_left' hr,zfz sz rs (fun r hr=>h r (by simp[hr]))]
theorem zcX {c:Ctx} {sz:Nat} {a:Addr}:∀ {k:Nat} (n:Nat) {xs:List AV} {ys:List Value},n*sz<=xs.length->zaf xs=true->relCs { c with S:=fun _=>none } xs ys->(∀ j u,ys[j]?=some u->c.w.cell? (a.add (k+j))=some u)->zaS c sz a k (zbd sz n xs)
 |_,0,_,_,_,_,_,_=>by simp only[zbd,zaS]
 |k,n+1,xs,ys,hl,hb,h,hc=>by
  rw[Nat.add_mul]at hl;simp only[zbd,zaS];refine ⟨by rw[List.length_take];omega,zgd (zg5 sz xs hb) (zcg sz h) fun j u hu=>?_,zcX n (by rw[List.length_drop];omega) (zfn sz xs hb) (zch sz h) fun j u hu=>?_⟩
  ·rw[List.getElem?_take]at hu
   split at hu
   ·exact hc j u hu
   ·cases hu
  ·rw[List.getElem?_drop]at hu
   have:=hc _ u hu
   rwa [show k+sz+j=k+(sz+j) by omega]
abbrev AF:=List (Nat×AV)
def zbl:List (Nat×AV)->Nat->AV
 |[],_=>.top
 |(j,x)::r,i=>if i=j then x else zbl r i
def zbq:List (Nat×AV)->Nat->AV->List (Nat×AV)
 |[],i,x=>[(i,x)]
 |(j,y)::r,i,x=>if i=j then (i,x)::r else if i<j then (i,x)::(j,y)::r else (j,y)::zbq r i x
theorem zba:∀ (φ:AF) (i:Nat) (x:AV) (k:Nat),zbl (zbq φ i x) k=if k=i then x else zbl φ k
 |[],i,x,k=>by simp[zbq,zbl]
 |(j,y)::r,i,x,k=>by
  simp only[zbq];split
  ·subst_vars;simp only[zbl];split<;>rfl
  ·split
   ·simp only[zbl]
   ·simp only[zbl,zba r i x k]
    split<;>split<;>first|rfl|(subst_vars;contradiction)
def zjC:List (Nat×AV)->Nat->AV->List (Nat×AV)
 |[],_,_=>[]
 |(j,y)::r,i,x=>if i=j then (i,x)::r else (j,y)::zjC r i x
theorem zeo {x:AV}:∀ {φ:AF} {i:Nat},zbl φ i=x->zjC φ i x=φ
 |[],_,_=>rfl
 |(j,y)::r,i,h=>by
  simp only[zbl]at h;simp only[zjC];split at h
  ·rename_i e;rw[if_pos e,e,h]
  ·rename_i e;rw[if_neg e,zeo h]
theorem zeQ {a b:Nat} (hne:a≠b) (x y:AV):∀ φ:AF,zbq (zbq φ a x) b y=zbq (zbq φ b y) a x
 |[]=>by
  simp only[zbq];rcases Nat.lt_or_gt_of_ne hne with h|h
  ·rw[if_neg (Ne.symm hne),if_neg (by omega),if_neg hne,if_pos h]
  ·rw[if_neg (Ne.symm hne),if_pos h,if_neg hne,if_neg (by omega)]
 |(j,z)::r=>by
  have ih:=zeQ hne x y r;simp only[zbq];rcases Nat.lt_trichotomy a j with ha|ha|ha<;>rcases Nat.lt_trichotomy b j with hb|hb|hb
  all_goals (try subst ha)<;>(try subst hb)
  all_goals first|(exact absurd rfl hne)|skip
  all_goals (repeat' split)<;>simp only[zbq]<;>(repeat' split)<;>first|rfl|omega|(exfalso;contradiction)|(exact absurd trivial (by assumption))|(simp only[ih];done)|skip
inductive AO where
 |cells (cs:List AV) (real:Bool)
 |imap (kvs:List (Int×Int))
 |rsv
 deriving Inhabited
abbrev AS:=List (Nat×AO)
def AO.real:AO->Bool|.cells _ r=>r|.imap _=>true|.rsv=>false
def zah:List (Nat×AO)->Nat->Option AO
 |[],_=>none
 |(j,x)::r,i=>if i=j then some x else zah r i
def sput:List (Nat×AO)->Nat->AO->List (Nat×AO)
 |[],i,x=>[(i,x)]
 |(j,y)::r,i,x=>if i=j then (i,x)::r else if i<j then (i,x)::(j,y)::r else (j,y)::sput r i x
def zfp:List (Nat×AO)->Nat->List (Nat×AO)
 |[],_=>[]
 |(j,y)::r,i=>if i=j then zfp r i else (j,y)::zfp r i
theorem zag:∀ (σ:AS) (i:Nat) (x:AO) (k:Nat),zah (sput σ i x) k=if k=i then some x else zah σ k
 |[],i,x,k=>by simp[sput,zah]
 |(j,y)::r,i,x,k=>by
  simp only[sput];split
  ·subst_vars;simp only[zah];split<;>rfl
  ·split
   ·simp only[zah]
   ·simp only[zah,zag r i x k]
    split<;>split<;>first|rfl|(subst_vars;contradiction)
theorem zeD:∀ (σ:AS) (i k:Nat),zah (zfp σ i) k=if k=i then none else zah σ k
 |[],i,k=>by simp[zfp,zah]
 |(j,y)::r,i,k=>by
  simp only[zfp];split
  ·rename_i h;subst h;rw[zeD r i k];simp only[zah];split<;>rfl
  ·simp only[zah,zeD r i k]
   split<;>split<;>first|rfl|(subst_vars;contradiction)
def zaN (w:World) (b:Nat):Nat:=match w.heap[b]? with|some (.cells xs _ _)=>xs.size|_=>0
theorem zdD {w w':World} {b b':Nat} (h:w'.heap[b']?=w.heap[b]?):zaN w' b'=zaN w b:=by simp[zaN,h]
def zai (β:Nat->Nat) (w:World) (σ:AS) (l:Nat):Option Place :=
 match zah σ l with
 |some (.cells cs true)=>some ⟨β l,cs.length,zaN w (β l),true⟩
 |some (.cells cs false)=>some ⟨0,cs.length,0,false⟩
 |some (.imap _)=>some ⟨β l,0,0,true⟩
 |some .rsv=>some ⟨0,0,0,false⟩
 |none=>none
def avoid (M:Nat->Prop) (σ:AS) (β:Nat->Nat) (b:Nat):Prop:=M b\/∃ l o,zah σ l=some o/\o.real=true/\β l=b
def ctx (inv:Nat->Option Nat) (M:Nat->Prop) (σ:AS) (β:Nat->Nat) (w:World):Ctx:=⟨inv,w,avoid M σ β,zai β w σ⟩
structure Mem (inv:Nat->Option Nat) (w0:World) (M:Nat->Prop) (σ:AS) (β:Nat->Nat) (w:World):Prop where
 below:Below w0.heap.size w0 w
 inj:∀ l l' o o',zah σ l=some o->zah σ l'=some o'->o.real=true->o'.real=true->β l=β l'->l=l'
 own:∀ l o,zah σ l=some o->o.real=true->w0.heap.size<=β l/\β l<w.heap.size
 cells:∀ l cs,zah σ l=some (.cells cs true)->∃ xs ty,w.heap[β l]?=some (.cells xs ty (0,0))/\cs.length<=xs.size/\relCs (ctx inv M σ β w) cs (xs.toList.take cs.length)
 ghost:∀ l cs,zah σ l=some (.cells cs false)->cs=[]
 maps:∀ l kvs,zah σ l=some (.imap kvs)->∃ es clk,w.heap[β l]?=some (.map es clk)/\es.toList.map (fun e=>(e.key,e.val))=kvs.map fun p=>(Value.int .i64 p.1,Value.int .i64 p.2)
def Ext (N:Nat) (c c':Ctx):Prop:=c.Le c'/\Stays N c.S c'.S
theorem Ctx.Le.refl (c:Ctx):c.Le c:=⟨rfl,Nat.le_refl _,fun _ _ _=>rfl,fun _ _ h=>h⟩
theorem Ctx.Le.trans {a b c:Ctx} (h:a.Le b) (k:b.Le c):a.Le c :=
 ⟨k.inv.trans h.inv,Nat.le_trans h.size k.size,fun i hi hA=>(k.keep i (Nat.lt_of_lt_of_le hi h.size) (fun x=>hA (h.avoid i hi x))).trans (h.keep i hi hA),
  fun i hi x=>h.avoid i hi (k.avoid i (Nat.lt_of_lt_of_le hi h.size) x)⟩
theorem Stays.refl (N:Nat) (S:Nat->Option Place):Stays N S S:=fun _ _ p' h=>⟨p',h,Nat.le_refl _,fun _=>rfl⟩
theorem Stays.trans {N:Nat} {S T U:Nat->Option Place} (h:Stays N S T) (k:Stays N T U):Stays N S U:=by
 intro l hl p' hp';obtain ⟨q,hq,h1,h2⟩:=k l hl p' hp';obtain ⟨p,hp,h3,h4⟩:=h l hl q hq;refine ⟨p,hp,Nat.le_trans h3 h1,fun e=>?_⟩
 have e1:p.len=q.len:=by omega
 rw[h2 (by omega),h4 e1]
theorem Stays.mono {N N':Nat} {S T:Nat->Option Place} (h:Stays N S T) (hN:N'<=N):Stays N' S T:=fun l hl=>h l (Nat.lt_of_lt_of_le hl hN)
theorem Ext.refl (N:Nat) (c:Ctx):Ext N c c:=⟨.refl c,.refl N _⟩
theorem Ext.trans {N:Nat} {a b c:Ctx} (h:Ext N a b) (k:Ext N b c):Ext N a c:=⟨h.1.trans k.1,h.2.trans k.2⟩
theorem Ext.mono {N N':Nat} {a b:Ctx} (h:Ext N a b) (hN:N'<=N):Ext N' a b:=⟨h.1,h.2.mono hN⟩
theorem Ext.rel {N:Nat} {c c':Ctx} (h:Ext N c c') {x:AV} {y:Value} (hx:x.under N=true) (r:rel c x y):Go.Eng.rel c' x y:=zeh (N:=N) h.1 x y (.inl ⟨h.2,hx⟩) r
theorem Ext.relCs {N:Nat} {c c':Ctx} (h:Ext N c c') {x:List AV} {y:List Value} (hx:zbG N x=true) (r:relCs c x y):Go.Eng.relCs c' x y:=ze6 (N:=N) h.1 x y (.inl ⟨h.2,hx⟩) r
def mx (a b:Nat):Nat:=if a<=b then b else a
theorem zaQ (a b:Nat):a<=mx a b:=by unfold mx;split<;>omega
theorem zaq (a b:Nat):b<=mx a b:=by unfold mx;split<;>omega
mutual
def AV.bound:AV->Nat
 |.agg cs=>zab cs
 |.tup cs=>zab cs
 |.ptr l _ _=>l+1
 |.sm l _ _ _ _=>l+1
 |.mp l=>l+1
 |.fn _ cs=>zab cs
 |.i _ _=>0|.b _=>0|.v _=>0|.u=>0|.s0 _=>0|.sl _ _=>0|.ip _ _ _ _=>0|.top=>0
def zab:List AV->Nat
 |[]=>0
 |x::xs=>mx x.bound (zab xs)
end
mutual
theorem zaK {N:Nat}:∀ (x:AV),x.bound<=N->x.under N=true
 |.agg cs,h=>by simp only[AV.under];exact zaA cs (by simpa only[AV.bound] using h)
 |.tup cs,h=>by simp only[AV.under];exact zaA cs (by simpa only[AV.bound] using h)
 |.fn _ cs,h=>by simp only[AV.under];exact zaA cs (by simpa only[AV.bound] using h)
 |.ptr l _ _,h=>by simp only[AV.under,Nat.blt_eq];simp only[AV.bound]at h;omega
 |.sm l _ _ _ _,h=>by simp only[AV.under,Nat.blt_eq];simp only[AV.bound]at h;omega
 |.mp l,h=>by simp only[AV.under,Nat.blt_eq];simp only[AV.bound]at h;omega
 |.i _ _,_=>by simp only[AV.under]
 |.b _,_=>by simp only[AV.under]
 |.v _,_=>by simp only[AV.under]
 |.u,_=>by simp only[AV.under]
 |.s0 _,_=>by simp only[AV.under]
 |.sl _ _,_=>by simp only[AV.under]
 |.ip _ _ _ _,_=>by simp only[AV.under]
 |.top,_=>by simp only[AV.under]
theorem zaA {N:Nat}:∀ (xs:List AV),zab xs<=N->zbG N xs=true
 |[],_=>by simp only[zbG]
 |x::xs,h=>by
  simp only[zab]at h;simp only[zbG,Bool.and_eq_true];exact ⟨zaK x (Nat.le_trans (zaQ _ _) h),zaA xs (Nat.le_trans (zaq _ _) h)⟩
end
mutual
theorem zg4:∀ (x:AV),x.bare=true->x.bound=0
 |.agg cs,h=>by simp only[AV.bound];exact zbr cs (by simpa only[AV.bare] using h)
 |.tup cs,h=>by simp only[AV.bound];exact zbr cs (by simpa only[AV.bare] using h)
 |.fn _ cs,h=>by simp only[AV.bound];exact zbr cs (by simpa only[AV.bare] using h)
 |.ptr l _ _,h=>by simp[AV.bare]at h
 |.sm l _ _ _ _,h=>by simp[AV.bare]at h
 |.mp l,h=>by simp[AV.bare]at h
 |.i _ _,_=>by simp only[AV.bound]
 |.b _,_=>by simp only[AV.bound]
 |.v _,_=>by simp only[AV.bound]
 |.u,_=>by simp only[AV.bound]
 |.s0 _,_=>by simp only[AV.bound]
 |.sl _ _,_=>by simp only[AV.bound]
 |.ip _ _ _ _,_=>by simp only[AV.bound]
 |.top,_=>by simp only[AV.bound]
theorem zbr:∀ (xs:List AV),zaf xs=true->zab xs=0
 |[],_=>by simp only[zab]
 |x::xs,h=>by
  simp only[zaf,Bool.and_eq_true]at h;simp only[zab,zg4 x h.1,zbr xs h.2,mx];split<;>rfl
end
def zaM:List (Nat×AV)->Nat
 |[]=>0
 |p::r=>mx p.2.bound (zaM r)
def AO.bound:AO->Nat|.cells cs _=>zab cs|.imap _=>0|.rsv=>0
def zax:List (Nat×AO)->Nat
 |[]=>0
 |p::r=>mx (p.1+1) (mx p.2.bound (zax r))
def zaw (N:Nat) (φ:List (Nat×AV)) (σ:List (Nat×AO)):Nat:=mx N (mx (zaM φ) (zax σ))
theorem zbO:∀ (φ:AF) (i:Nat),(zbl φ i).bound<=zaM φ
 |[],_=>by simp[zbl,AV.bound]
 |p::r,i=>by
  simp only[zbl,zaM];split
  ·exact zaQ _ _
  ·exact Nat.le_trans (zbO r i) (zaq _ _)
theorem zau:∀ (σ:AS) (l:Nat) (o:AO),zah σ l=some o->l<zax σ/\o.bound<=zax σ
 |[],_,_,h=>by simp[zah]at h
 |p::r,l,o,h=>by
  simp only[zah]at h;simp only[zax];have h1:=zaQ (p.1+1) (mx p.2.bound (zax r));have h2:=zaq (p.1+1) (mx p.2.bound (zax r));have h3:=zaQ p.2.bound (zax r);have h4:=zaq p.2.bound (zax r);split at h
  ·rename_i e;simp at h;subst h;subst e;exact ⟨by omega,by omega⟩
  ·have:=zau r l o h;exact ⟨by omega,by omega⟩
section
variable {inv:Nat->Option Nat} {w0:World} {M:Nat->Prop} {σ σ':AS} {β:Nat->Nat} {w w':World}
theorem place_eq (h:∀ l o,zah σ l=some o->o.real=true->w'.heap[β l]?=w.heap[β l]?):zai β w' σ=zai β w σ:=by
 funext l
 unfold zai;cases e:zah σ l with
 |none=>rfl
 |some o =>
  cases o with
  |imap kvs=>rfl
  |rsv=>rfl
  |cells cs r =>
   cases r with
   |true=>simp only;rw[zdD (h l _ e rfl)]
   |false=>rfl
theorem Mem.call (h:Mem inv w0 M σ β w) (hb:Below w.heap.size w w') (N:Nat):Mem inv w0 M σ β w'/\Ext N (ctx inv M σ β w) (ctx inv M σ β w'):=by
 have hpl:zai β w' σ=zai β w σ:=place_eq fun l o e hr=>hb.block _ (h.own l o e hr).2
 have hx:∀ N,Ext N (ctx inv M σ β w) (ctx inv M σ β w'):=fun N =>
  ⟨⟨rfl,hb.size,fun b hlt _=>hb.block b hlt,fun _ _ x=>x⟩,by show Stays N (zai β w σ) (zai β w' σ);rw[hpl];exact .refl N _⟩
 refine ⟨⟨h.below.trans (hb.mono h.below.size),h.inj,fun l o e hr=>?_,fun l cs e=>?_,h.ghost,fun l kvs e=>?_⟩,hx N⟩
 ·have:=h.own l o e hr;exact ⟨this.1,Nat.lt_of_lt_of_le this.2 hb.size⟩
 ·obtain ⟨xs,ty,e1,e2,e3⟩:=h.cells l cs e
  exact ⟨xs,ty,(hb.block _ (h.own l _ e rfl).2).trans e1,e2,(hx (zab cs)).relCs (zaA cs (Nat.le_refl _)) e3⟩
 ·obtain ⟨es,clk,e1,e2⟩:=h.maps l kvs e
  exact ⟨es,clk,(hb.block _ (h.own l _ e rfl).2).trans e1,e2⟩
theorem Mem.drop (h:Mem inv w0 M σ β w) (hs:∀ l o,zah σ' l=some o->zah σ l=some o) (N:Nat):Mem inv w0 M σ' β w/\Ext N (ctx inv M σ β w) (ctx inv M σ' β w):=by
 have hst:∀ N,Stays N (zai β w σ) (zai β w σ'):=by
  intro N l _ p' hp';refine ⟨p', ?_,Nat.le_refl _,fun _=>rfl⟩
  unfold zai at hp' |-
  cases e:zah σ' l with
  |none=>rw[e]at hp';cases hp'
  |some o=>rw[e]at hp';rw[hs l o e];exact hp'
 have hav:∀ b,avoid M σ' β b->avoid M σ β b:=by
  rintro b (hm|⟨l,o,e,hr,hb⟩)
  ·exact .inl hm
  ·exact .inr ⟨l,o,hs l o e,hr,hb⟩
 have hx:∀ N,Ext N (ctx inv M σ β w) (ctx inv M σ' β w):=fun N=>⟨⟨rfl,Nat.le_refl _,fun _ _ _=>rfl,fun b _=>hav b⟩,hst N⟩
 refine ⟨⟨h.below,fun l l' o o' e e'=>h.inj l l' o o' (hs _ _ e) (hs _ _ e'),fun l o e=>h.own l o (hs _ _ e),fun l cs e=>?_,fun l cs e=>h.ghost l cs (hs _ _ e),fun l kvs e=>h.maps l kvs (hs _ _ e)⟩,hx N⟩
 obtain ⟨xs,ty,e1,e2,e3⟩:=h.cells l cs (hs _ _ e);exact ⟨xs,ty,e1,e2,(hx (zab cs)).relCs (zaA cs (Nat.le_refl _)) e3⟩
def upd (β:Nat->Nat) (l b:Nat):Nat->Nat:=fun k=>if k=l then b else β k
theorem zbe (β:Nat->Nat) (l b:Nat):upd β l b l=b:=if_pos rfl
theorem zaG (β:Nat->Nat) {l k:Nat} (b:Nat) (h:k≠l):upd β l b k=β k:=if_neg h
theorem Mem.put {l b':Nat} {cs':List AV} {xs':Array Value} {ty:TypeId} {N:Nat} (h:Mem inv w0 M σ β w) (hb:Below w0.heap.size w0 w') (hsz:w.heap.size<=w'.heap.size)
  (hk:∀ b,b<w.heap.size->b≠b'->w'.heap[b]?=w.heap[b]?) (hn:w'.heap[b']?=some (.cells xs' ty (0,0))) (hlen:cs'.length<=xs'.size) (hb0:w0.heap.size<=b')
  (hother:∀ l' o',l'≠l->zah σ l'=some o'->o'.real=true->β l'≠b') (hwas:w.heap.size<=b'\/∃ o,zah σ l=some o/\o.real=true/\β l=b')
  (hN:∀ l' o',zah σ l'=some o'->l'≠l->o'.bound<=N) (hcs:zab cs'<=N)
  (hst:l<N->∀ p',some (⟨b',cs'.length,xs'.size,true⟩:Place)=some p'->∃ p,zai β w σ l=some p/\p.len<=p'.len/\(p.len=p'.len->p'=p))
  (hrel:relCs (ctx inv M σ β w) cs' (xs'.toList.take cs'.length)) :
  Mem inv w0 M (sput σ l (.cells cs' true)) (upd β l b') w'/\Ext N (ctx inv M σ β w) (ctx inv M (sput σ l (.cells cs' true)) (upd β l b') w'):=by
 have hsame:∀ l' o',l'≠l->zah σ l'=some o'->o'.real=true->w'.heap[β l']?=w.heap[β l']?:=fun l' o' hne e hr =>
  hk _ (h.own l' o' e hr).2 (hother l' o' hne e hr)
 have hpl:∀ l',l'≠l->zai (upd β l b') w' (sput σ l (.cells cs' true)) l'=zai β w σ l':=by
  intro l' hne;unfold zai;rw[zag,if_neg hne];cases e:zah σ l' with
  |none=>rfl
  |some o =>
   cases o with
   |imap kvs=>simp only[zaG β b' hne]
   |rsv=>rfl
   |cells cs r =>
    cases r with
    |true=>simp only[zaG β b' hne];rw[zdD (hsame l' _ hne e rfl)]
    |false=>rfl
 have hpl0:zai (upd β l b') w' (sput σ l (.cells cs' true)) l=some ⟨b',cs'.length,xs'.size,true⟩:=by
  unfold zai;rw[zag,if_pos rfl];simp[zbe,zaN,hn]
 have hblt:b'<w'.heap.size:=by
  rcases Nat.lt_or_ge b' w'.heap.size with hlt|hge
  ·exact hlt
  ·rw[Array.getElem?_eq_none hge]at hn;cases hn
 have hx:Ext N (ctx inv M σ β w) (ctx inv M (sput σ l (.cells cs' true)) (upd β l b') w'):=by
  refine ⟨⟨rfl,hsz,fun b hlt hA=>?_,fun b hlt hA=>?_⟩,fun l' hl' p' hp'=>?_⟩
  ·refine hk b hlt fun e=>hA ?_
   rcases hwas with hw|⟨o,e1,e2,e3⟩
   ·exact absurd (show b<w.heap.size from hlt) (by omega)
   ·exact .inr ⟨l,o,e1,e2,e3.trans e.symm⟩
  ·rcases hA with hm|⟨l',o,e1,e2,e3⟩
   ·exact .inl hm
   ·by_cases hne:l'=l
    ·subst hne
     rw[zbe]at e3;subst e3;rcases hwas with hw|⟨o,e1,e2,e3⟩
     ·exact absurd (show b'<w.heap.size from hlt) (by omega)
     ·exact .inr ⟨_,o,e1,e2,e3⟩
    ·rw[zag,if_neg hne]at e1
     rw[zaG β b' hne]at e3;exact .inr ⟨l',o,e1,e2,e3⟩
  ·by_cases hne:l'=l
   ·subst hne
    exact hst hl' p' (hpl0.symm.trans hp')
   ·exact ⟨p',(hpl l' hne).symm.trans hp',Nat.le_refl _,fun _=>rfl⟩
 refine ⟨⟨hb,fun l1 l2 o1 o2 e1 e2 r1 r2 he=>?_,fun l1 o1 e1 r1=>?_,fun l1 cs e1=>?_,fun l1 cs e1=>?_,fun l1 kvs e1=>?_⟩,hx⟩
 ·rw[zag]at e1 e2
  by_cases h1:l1=l<;>by_cases h2:l2=l
  ·rw[h1,h2]
  ·rw[if_neg h2]at e2
   rw[h1,zbe,zaG β b' h2]at he;exact absurd he.symm (hother l2 o2 h2 e2 r2)
  ·rw[if_neg h1]at e1
   rw[h2,zbe,zaG β b' h1]at he;exact absurd he (hother l1 o1 h1 e1 r1)
  ·rw[if_neg h1]at e1
   rw[if_neg h2]at e2;rw[zaG β b' h1,zaG β b' h2]at he;exact h.inj l1 l2 o1 o2 e1 e2 r1 r2 he
 ·rw[zag]at e1
  by_cases h1:l1=l
  ·rw[h1,zbe];exact ⟨hb0,hblt⟩
  ·rw[if_neg h1]at e1
   rw[zaG β b' h1];have:=h.own l1 o1 e1 r1;exact ⟨this.1,Nat.lt_of_lt_of_le this.2 hsz⟩
 ·rw[zag]at e1
  by_cases h1:l1=l
  ·rw[if_pos h1]at e1
   simp at e1;subst e1;rw[h1,zbe];exact ⟨xs',ty,hn,hlen,hx.relCs (zaA _ hcs) hrel⟩
  ·rw[if_neg h1]at e1
   rw[zaG β b' h1];obtain ⟨xs,ty1,e2,e3,e4⟩:=h.cells l1 cs e1;exact ⟨xs,ty1,(hsame l1 _ h1 e1 rfl).trans e2,e3,hx.relCs (zaA _ (hN l1 _ e1 h1)) e4⟩
 ·rw[zag]at e1
  by_cases h1:l1=l
  ·rw[if_pos h1]at e1;simp at e1
  ·rw[if_neg h1]at e1;exact h.ghost l1 cs e1
 ·rw[zag]at e1
  by_cases h1:l1=l
  ·rw[if_pos h1]at e1;simp at e1
  ·rw[if_neg h1]at e1
   rw[zaG β b' h1];obtain ⟨es,clk,e2,e3⟩:=h.maps l1 kvs e1;exact ⟨es,clk,(hsame l1 _ h1 e1 rfl).trans e2,e3⟩
theorem Mem.put_imap {l b':Nat} {kvs:List (Int×Int)} {es:Array MapEntry} {clk:Nat} {N:Nat} (h:Mem inv w0 M σ β w) (hb:Below w0.heap.size w0 w') (hsz:w.heap.size<=w'.heap.size)
  (hk:∀ b,b<w.heap.size->b≠b'->w'.heap[b]?=w.heap[b]?) (hn:w'.heap[b']?=some (.map es clk)) (hb0:w0.heap.size<=b')
  (hother:∀ l' o',l'≠l->zah σ l'=some o'->o'.real=true->β l'≠b') (hwas:w.heap.size<=b'\/∃ kvs0,zah σ l=some (.imap kvs0)/\β l=b') (hl:w.heap.size<=b'->zax σ<=l)
  (hN:zax σ<=N) (hlN:w.heap.size<=b'->N<=l) (hrel:es.toList.map (fun e=>(e.key,e.val))=kvs.map fun p=>(Value.int .i64 p.1,Value.int .i64 p.2)) :
  Mem inv w0 M (sput σ l (.imap kvs)) (upd β l b') w'/\Ext N (ctx inv M σ β w) (ctx inv M (sput σ l (.imap kvs)) (upd β l b') w')/\zai (upd β l b') w' (sput σ l (.imap kvs)) l=some ⟨b',0,0,true⟩:=by
 have hsame:∀ l' o',l'≠l->zah σ l'=some o'->o'.real=true->w'.heap[β l']?=w.heap[β l']?:=fun l' o' hne e hr =>
  hk _ (h.own l' o' e hr).2 (hother l' o' hne e hr)
 have hpl:∀ l',l'≠l->zai (upd β l b') w' (sput σ l (.imap kvs)) l'=zai β w σ l':=by
  intro l' hne;unfold zai;rw[zag,if_neg hne];cases e:zah σ l' with
  |none=>rfl
  |some o =>
   cases o with
   |imap kvs=>simp only[zaG β b' hne]
   |rsv=>rfl
   |cells cs r =>
    cases r with
    |true=>simp only[zaG β b' hne];rw[zdD (hsame l' _ hne e rfl)]
    |false=>rfl
 have hpl0:zai (upd β l b') w' (sput σ l (.imap kvs)) l=some ⟨b',0,0,true⟩:=by
  unfold zai;rw[zag,if_pos rfl];simp[zbe]
 have hblt:b'<w'.heap.size:=by
  rcases Nat.lt_or_ge b' w'.heap.size with hlt|hge
  ·exact hlt
  ·rw[Array.getElem?_eq_none hge]at hn;cases hn
 have hx:Ext N (ctx inv M σ β w) (ctx inv M (sput σ l (.imap kvs)) (upd β l b') w'):=by
  refine ⟨⟨rfl,hsz,fun b hlt hA=>?_,fun b hlt hA=>?_⟩,fun l' hl' p' hp'=>?_⟩
  ·refine hk b hlt fun e=>hA ?_
   rcases hwas with hw|⟨o,e1,e3⟩
   ·exact absurd (show b<w.heap.size from hlt) (by omega)
   ·exact .inr ⟨l,_,e1,rfl,e3.trans e.symm⟩
  ·rcases hA with hm|⟨l',o,e1,e2,e3⟩
   ·exact .inl hm
   ·by_cases hne:l'=l
    ·subst hne
     rw[zbe]at e3;subst e3;rcases hwas with hw|⟨o,e1,e3⟩
     ·exact absurd (show b'<w.heap.size from hlt) (by omega)
     ·exact .inr ⟨_,_,e1,rfl,e3⟩
    ·rw[zag,if_neg hne]at e1
     rw[zaG β b' hne]at e3;exact .inr ⟨l',o,e1,e2,e3⟩
  ·by_cases hne:l'=l
   ·subst hne
    rcases hwas with hw|⟨kvs0,e1,e3⟩
    ·have:=hlN hw;omega
    ·have e4:=hpl0.symm.trans hp'
     simp only[Option.some.injEq]at e4;subst e4;exact ⟨⟨b',0,0,true⟩,by show zai β w σ l'=_;unfold zai;rw[e1];simp[e3],Nat.le_refl _,fun _=>rfl⟩
   ·exact ⟨p',(hpl l' hne).symm.trans hp',Nat.le_refl _,fun _=>rfl⟩
 refine ⟨⟨hb,fun l1 l2 o1 o2 e1 e2 r1 r2 he=>?_,fun l1 o1 e1 r1=>?_,fun l1 cs e1=>?_,fun l1 cs e1=>?_,fun l1 kvs1 e1=>?_⟩,hx,hpl0⟩
 ·rw[zag]at e1 e2
  by_cases h1:l1=l<;>by_cases h2:l2=l
  ·rw[h1,h2]
  ·rw[if_neg h2]at e2
   rw[h1,zbe,zaG β b' h2]at he;exact absurd he.symm (hother l2 o2 h2 e2 r2)
  ·rw[if_neg h1]at e1
   rw[h2,zbe,zaG β b' h1]at he;exact absurd he (hother l1 o1 h1 e1 r1)
  ·rw[if_neg h1]at e1
   rw[if_neg h2]at e2;rw[zaG β b' h1,zaG β b' h2]at he;exact h.inj l1 l2 o1 o2 e1 e2 r1 r2 he
 ·rw[zag]at e1
  by_cases h1:l1=l
  ·rw[h1,zbe];exact ⟨hb0,hblt⟩
  ·rw[if_neg h1]at e1
   rw[zaG β b' h1];have:=h.own l1 o1 e1 r1;exact ⟨this.1,Nat.lt_of_lt_of_le this.2 hsz⟩
 ·rw[zag]at e1
  by_cases h1:l1=l
  ·rw[if_pos h1]at e1;simp at e1
  ·rw[if_neg h1]at e1
   rw[zaG β b' h1];obtain ⟨xs,ty1,e2,e3,e4⟩:=h.cells l1 cs e1;exact ⟨xs,ty1,(hsame l1 _ h1 e1 rfl).trans e2,e3,hx.relCs (zaA _ (Nat.le_trans (zau σ l1 _ e1).2 hN)) e4⟩
 ·rw[zag]at e1
  by_cases h1:l1=l
  ·rw[if_pos h1]at e1;simp at e1
  ·rw[if_neg h1]at e1;exact h.ghost l1 cs e1
 ·rw[zag]at e1
  by_cases h1:l1=l
  ·rw[if_pos h1]at e1
   simp only[Option.some.injEq,AO.imap.injEq]at e1;subst e1;rw[h1,zbe];exact ⟨es,clk,hn,hrel⟩
  ·rw[if_neg h1]at e1
   rw[zaG β b' h1];obtain ⟨es,clk,e2,e3⟩:=h.maps l1 kvs1 e1;exact ⟨es,clk,(hsame l1 _ h1 e1 rfl).trans e2,e3⟩
end
inductive Opd where
 |t (i:Nat)
 |c (x:AV)
 deriving Inhabited
def ev (φ:List (Nat×AV)):Opd->AV
 |.t i=>zbl φ i
 |.c x=>x
inductive ETy where|num|bool|flat (ks:List Bool)|ptr|fn|arr (n:Nat)
 deriving DecidableEq,Inhabited
inductive AVal where
 |mov (x:Opd)
 |pick (c a b:Opd)
 |bin (op:BinOp) (ty:ETy) (x y:Opd)
 |not (x:Opd)
 |conv (k:IntKind) (x:Opd)
 |load (n:Option Nat) (a:Opd)
 |fadr (a:Opd) (off:Nat)
 |iadr (x i:Opd) (sz:Nat) (arr:Option Nat)
 |fld (x:Opd) (off:Nat) (n:Option Nat)
 |idx (x i:Opd) (len sz:Nat) (ag:Bool)
 |len (x:Opd)
 |ext (x:Opd) (i:Nat)
 |mkfn (j:Nat) (caps:List Opd)
 |build (zero:List (Nat×AV)) (parts:List (Nat×Nat×Opd))
 |slc (x:Opd) (lo hi mx:Option Opd) (sz:Nat)
 |slca (x:Opd) (lo hi mx:Option Opd) (m sz:Nat)
 |nilck (x:Opd)
 |mnx (mn:Bool) (x y:Opd)
 |cap (x:Opd)
 |look (m k:Opd)
 deriving Inhabited
section compile
variable (P:Program) (inv:Nat->Option Nat)
def siz (t:TypeId):Option Nat:=(P.info? t).map (·.size)
def lay (t:TypeId):Option (Option Nat) :=
 match P.underlying t with
 |some (.struct _)=>(siz P t).map some
 |some (.array _ _)=>(siz P t).map some
 |some _=>some none
 |none=>none
def zc3:List (Nat×AV)->List AV
 |[]=>[]
 |(n,x)::r=>if n=1 then x::zc3 r else List.replicate n x++zc3 r
def zmC:AV->Value->Bool
 |.i k n,.int k' n'=>decide (k=k')&&decide (n=n')
 |.b a,.bool b=>a == b
 |.s0 _,.slice none 0 0=>true
 |.v (.pointer none),.pointer none=>true
 |.v (.map none),.map none=>true
 |.v .nilFunc,.nilFunc=>true
 |.v .nilIface,.nilIface=>true
 |_,_=>false
def zmL:List AV->List Value->Bool
 |[],[]=>true
 |x::xs,y::ys=>zmC x y&&zmL xs ys
 |_,_=>false
def zpQ:Nat->TypeId->Option (List (Nat×AV))
 |0,_=>none
 |n+1,t =>
  match P.underlying t with
  |some (.int k)=>some [(1,.i k 0)]
  |some .bool=>some [(1,.b false)]
  |some (.slice e)=>some [(1,.s0 (P.cellsOf e))]
  |some (.pointer _)=>some [(1,.v (.pointer none))]
  |some (.map _ _)=>some [(1,.v (.map none))]
  |some (.func _ _ _)=>some [(1,.v .nilFunc)]
  |some (.interface _)=>some [(1,.v .nilIface)]
  |some (.struct fs)=>fs.toList.foldr (fun f r=>match zpQ n f.type,r with|some a,some b=>some (a++b)|_,_=>none) (some [])
  |some (.array m e)=>match zpQ n e with
   |some [(1,x)]=>some [(m,x)]
   |some r=>some (List.replicate m r).flatten
   |none=>none
  |_=>none
def zdO (t:TypeId):Option (List (Nat×AV)) :=
 match zpQ P 10 t,P.info? t with
 |some r,some i=>match i.zero with
  |some z=>if zmL (zc3 r) z.cells.toList then some r else none
  |none=>none
 |_,_=>none
def cav (t:TypeId):Value->Option AV
 |.int k n=>some (.i k n)
 |.bool b=>some (.b b)
 |.tuple vs=>if vs.isEmpty then some .u else none
 |.slice none 0 0=>match P.underlying t with|some (.slice e)=>some (.s0 (P.cellsOf e))|_=>some (.s0 0)
 |.pointer none=>some (.v (.pointer none))
 |.map none=>some (.v (.map none))
 |.nilFunc=>some (.v .nilFunc)
 |.nilIface=>some (.v .nilIface)
 |_=>none
def zc5 (t:TypeId):Operand->Option Opd
 |.tmp i=>some (.t i)
 |.const v=>(cav P t v).map .c
 |.func f=>(inv f).map fun j=>.c (.fn j [])
 |.global _=>none
def copt (t:TypeId):Option Operand->Option (Option Opd)
 |none=>some none
 |some x=>(zc5 P inv t x).map some
def zl7:List (TypeId×Operand)->Option (List Opd)
 |[]=>some []
 |(t,x)::r=>match zc5 P inv t x,zl7 r with|some a,some b=>some (a::b)|_,_=>none
def zcU:Nat->List Field->Option (List Bool)
 |_,[]=>some []
 |k,f::fs=>if f.name ≠ "_" /\ f.offset=k then
   match P.underlying f.type,zcU (k+1) fs with
   |some (.int _),some ks=>some (true::ks)
   |some .bool,some ks=>some (false::ks)
   |_,_=>none
  else none
def ety (t:TypeId):Option ETy :=
 match P.underlying t with
 |some (.int _)=>some .num
 |some .bool=>some .bool
 |some (.struct fs)=>if P.stoodInHeld t||P.eqGuardType P.depth t then none else (zcU P 0 fs.toList).map .flat
 |some (.pointer _)=>some .ptr
 |some (.func _ _ _)=>some .fn
 |some (.array m e)=>match P.underlying e with
  |some (.int _)=>if P.eqGuardType P.depth t=false/\siz P e=some 1 then some (.arr m) else none
  |_=>none
 |_=>none
def zfy (zai:Nat->Option (Nat×Nat×TypeId)):List (Nat×Operand)->Option (List (Nat×Nat×Opd))
 |[]=>some []
 |(i,x)::r=>match zai i with
  |some (off,n,t)=>match zc5 P inv t x,zfy zai r with|some a,some b=>some ((off,n,a)::b)|_,_=>none
  |none=>none
def zhP (fs:Array Field) (i:Nat):Option (Nat×Nat×TypeId) :=
 match fs[i]? with
 |some f=>(siz P f.type).map fun n=>(f.offset,n,f.type)
 |none=>none
def zoI (fs:List Field):Bool:=fs.all fun f=>(P.info? f.type).isSome
def zk1 (ty:TypeId) (c:Call):Option AVal :=
 match c.callee,c.args.toList,c.argTypes.toList with
 |.builtin .len,[x],[t]=>match P.underlying t,zc5 P inv t x with
  |some (.slice _),some x=>some (.len x)
  |some (.array n _),some _=>some (.mov (.c (.i .i64 n)))
  |_,_=>none
 |.builtin .cap,[x],[t]=>match P.underlying t,zc5 P inv t x with
  |some (.slice _),some x=>some (.cap x)
  |_,_=>none
 |.builtin .min,[x,y],_=>match zc5 P inv ty x,zc5 P inv ty y with|some x,some y=>some (.mnx true x y)|_,_=>none
 |.builtin .max,[x,y],_=>match zc5 P inv ty x,zc5 P inv ty y with|some x,some y=>some (.mnx false x y)|_,_=>none
 |_,_,_=>none
def zg2 (o:Oper):Option AVal :=
 match o.op with
 |.move x=>(zc5 P inv o.type x).map .mov
 |.assign x=>(zc5 P inv o.type x).map .mov
 |.pick c a b=>match zc5 P inv o.type c,zc5 P inv o.type a,zc5 P inv o.type b with|some c,some a,some b=>some (.pick c a b)|_,_,_=>none
 |.binOp op t x y _=>match ety P t,zc5 P inv t x,zc5 P inv t y with|some e,some a,some b=>some (.bin op e a b)|_,_,_=>none
 |.unOp .not _ x=>(zc5 P inv o.type x).map .not
 |.convert src dst x=>match P.underlying src,P.underlying dst,zc5 P inv src x with|some _,some (.int k),some a=>some (.conv k a)|_,_,_=>none
 |.load t a=>match lay P t,zc5 P inv o.type a with|some n,some a=>some (.load n a)|_,_=>none
 |.fieldAddr s x f=>match P.underlying s,zc5 P inv o.type x with
  |some (.struct fs),some x=>match fs[f]? with
   |some fd=>match siz P fd.type with
    |some n=>if n=0 then none else some (.fadr x fd.offset)
    |none=>none
   |none=>none
  |_,_=>none
 |.indexAddr t x i=>match P.underlying t,zc5 P inv t x,zc5 P inv o.type i with
  |some (.slice e),some x,some i=>(siz P e).map fun n=>.iadr x i n none
  |some (.array m e),some x,some i=>(siz P e).map fun n=>.iadr x i n (some m)
  |_,_,_=>none
 |.field t x f=>match P.underlying t,zc5 P inv t x with
  |some (.struct fs),some x=>match fs[f]? with
   |some fd=>(lay P fd.type).map fun n=>.fld x fd.offset n
   |none=>none
  |_,_=>none
 |.index t x i=>match P.underlying t,zc5 P inv t x,zc5 P inv o.type i with
  |some (.array m e),some x,some i=>match lay P e,siz P e with
   |some l,some n=>some (.idx x i m n l.isSome)
   |_,_=>none
  |_,_,_=>none
 |.call c=>zk1 P inv o.type c
 |.extract x i=>(zc5 P inv o.type x).map fun x=>.ext x i
 |.makeFunc (.func f) first captured=>if first.isEmpty then match inv f,zl7 P inv (captured.toList.map fun x=>(o.type,x)) with|some j,some l=>some (.mkfn j l)|_,_=>none else none
 |.build t parts=>match P.underlying t,zdO P t with
  |some (.struct fs),some z=>if zoI P fs.toList then (zfy P inv (zhP P fs) parts.toList).map (.build z) else none
  |some (.array _ e),some z=>match siz P e with
   |some n=>(zfy P inv (fun i=>some (i*n,n,e)) parts.toList).map (.build z)
   |none=>none
  |_,_=>none
 |.slice t x lo hi mx=>match P.underlying t,zc5 P inv t x,copt P inv o.type lo,copt P inv o.type hi,copt P inv o.type mx with
  |some (.slice e),some x,some lo,some hi,some mx=>(siz P e).map fun n=>.slc x lo hi mx n
  |some (.array m e),some x,some lo,some hi,some mx=>(siz P e).map fun n=>.slca x lo hi mx m n
  |_,_,_,_,_=>none
 |.nilCheck x=>(zc5 P inv o.type x).map .nilck
 |.lookup t x k false=>match P.underlying t with
  |some (.map kt vt)=>match P.underlying kt,(P.info? vt).bind (·.zero),zc5 P inv t x,zc5 P inv kt k with
   |some (.int .i64),some (.int .i64 0),some x,some k=>some (.look x k)
   |_,_,_,_=>none
  |_=>none
 |_=>none
end compile
inductive Tok {α:Type} (x:α):Type
 |mk
def ob (p X:Prop) (_:Tok X:=.mk):Prop:=p/\X
theorem ob_pos {p X:Prop} (h:p):ob p X=X:=by unfold ob;simp[h]
theorem ob_true (X:Prop):ob True X=X:=by unfold ob;simp
theorem ob_mk {p X:Prop} (h:p) (x:X):ob p X:=⟨h,x⟩
def zfK (t:Bool) (X Y:Prop) (_:Tok X:=.mk) (_:Tok Y:=.mk):Prop:=(t=true->X)/\(t=false->Y)
theorem zjw (X Y:Prop):zfK true X Y=X:=by unfold zfK;simp
theorem ziq (X Y:Prop):zfK false X Y=Y:=by unfold zfK;simp
def zcR {α:Type} (x:Option α) (K:α->Prop) (_:Tok K:=.mk):Prop:=match x with|some v=>K v|none=>False
theorem zd1 {α:Type} (v:α) (K:α->Prop):zcR (some v) K=K v:=rfl
theorem za2 {α:Type} {x:Option α} {K:α->Prop} (h:zcR x K):∃ v,x=some v/\K v:=by cases x with|none=>exact h.elim|some v=>exact ⟨v,rfl,h⟩
def zcd (σ:AS) (l ver:Nat):Prop:=match zah σ l with|some (.cells cs _)=>cs.length=ver|_=>False
def seg (cs:List AV) (off n:Nat):List AV:=(cs.drop off).take n
def AV.cells:AV->List AV|.agg cs=>cs|x=>[x]
def AV.one:AV->Bool
 |.i _ _=>true|.b _=>true|.s0 _=>true|.sl _ _=>true|.ip _ _ _ _=>true|.ptr _ _ _=>true|.sm _ _ _ _ _=>true|.fn _ _=>true|.mp _=>true
 |.v y=>y.oneCell'
 |_=>false
def AV.sound:AV->Bool|.agg _=>true|x=>x.one
def ovl:List AV->Nat->List AV->List AV
 |cs,_,[]=>cs
 |cs,off,x::xs=>ovl (cs.set off x) (off+1) xs
def zdn (φ:List (Nat×AV)) (cs:List AV):List (Nat×Nat×Opd)->Option (List AV)
 |[]=>some cs
 |(off,n,x)::r=>if (ev φ x).sound=true/\(ev φ x).cells.length=n/\off+n<=cs.length then zdn φ (ovl cs off (ev φ x).cells) r else none
def zb2 (cs:List AV) (off:Nat):Option Nat->Option AV
 |none=>cs[off]?
 |some m=>if 0<m/\off+m<=cs.length then some (.agg (seg cs off m)) else none
def zds (σ:List (Nat×AO)) (n:Option Nat):AV->Option AV
 |.ptr l ver off=>match zah σ l with
  |some (.cells cs _)=>if cs.length=ver then zb2 cs off n else none
  |_=>none
 |.ip _ es i k=>match es[i]? with
  |some r=>zb2 r k n
  |none=>none
 |_=>none
def eqC:List Bool->List AV->List AV->Option Bool
 |[],[],[]=>some true
 |true::ks,.i k a::xs,.i k' b::ys=>if k=k' then (eqC ks xs ys).map fun t=>decide (a=b)&&t else none
 |false::ks,.b a::xs,.b b::ys=>(eqC ks xs ys).map fun t=>decide (a=b)&&t
 |_,_,_=>none
def zpE (op:BinOp) (k:IntKind) (a b:Int) (K:AV->Prop):Prop :=
 match op with
 |.add=>K (.i k (k.wrap (a+b)))
 |.sub=>K (.i k (k.wrap (a-b)))
 |.mul=>K (.i k (k.wrap (a*b)))
 |.quo=>ob (b≠0) (K (.i k (k.wrap (a.tdiv b))))
 |.rem=>ob (b≠0) (K (.i k (a.tmod b)))
 |.eql=>K (.b (decide (a=b)))
 |.neq=>K (.b (!decide (a=b)))
 |.lss=>K (.b (decide (a<b)))
 |.leq=>K (.b (decide (a<=b)))
 |.gtr=>K (.b (decide (b<a)))
 |.geq=>K (.b (decide (b<=a)))
 |_=>False
def isNil:ETy->AV->AV->Option Bool
 |.ptr,.v (.pointer none),.v (.pointer none)=>some true
 |.ptr,.v (.pointer none),.ip _ _ _ _=>some false
 |.ptr,.ip _ _ _ _,.v (.pointer none)=>some false
 |.fn,.v .nilFunc,.v .nilFunc=>some true
 |.fn,.v .nilFunc,.fn _ _=>some false
 |.fn,.fn _ _,.v .nilFunc=>some false
 |_,_,_=>none
def abin (σ:List (Nat×AO)) (op:BinOp) (ty:ETy) (x y:AV) (K:AV->Prop):Prop :=
 match x,y with
 |.i k a,.i k' b=>match op with
  |.shr=>ob (0<=b) (K (.i k (a.fdiv (2 ^ min b.toNat k.bits))))
  |.shl=>False
  |op=>ob (k=k') (zpE op k a b K)
 |.b a,.b b=>ob (ty=.bool) (match op with|.eql=>K (.b (decide (a=b)))|.neq=>K (.b (!decide (a=b)))|_=>False)
 |.agg xs,.agg ys=>match ty with
  |.flat ks=>zcR (eqC ks xs ys) fun t=>(match op with|.eql=>K (.b t)|.neq=>K (.b (!t))|_=>False)
  |.arr n=>zcR (eqC (List.replicate n true) xs ys) fun t=>(match op with|.eql=>K (.b t)|.neq=>K (.b (!t))|_=>False)
  |_=>False
 |.ptr l ver _,.v (.pointer none)=>ob (ty=.ptr) (ob (zcd σ l ver) (match op with|.eql=>K (.b false)|.neq=>K (.b true)|_=>False))
 |x,y=>zcR (isNil ty x y) fun t=>(match op with|.eql=>K (.b t)|.neq=>K (.b (!t))|_=>False)
def zhl:List (Int×Int)->Int->Int
 |[],_=>0
 |p::r,k=>if k=p.1 then p.2 else zhl r k
def zmW:List (Int×Int)->Int->Int->List (Int×Int)
 |[],k,v=>[(k,v)]
 |p::r,k,v=>if k=p.1 then (p.1,v)::r else p::zmW r k v
def zmi (σ:List (Nat×AO)):AV->AV->Option AV
 |.mp l,.i .i64 a=>match zah σ l with|some (.imap kvs)=>some (.i .i64 (zhl kvs a))|_=>none
 |_,_=>none
def aslc (σ:List (Nat×AO)) (x:AV) (lo hi mx:Option AV) (sz:Nat) (K:AV->Prop):Prop :=
 match mx with
 |some (.i _ m)=>ob (m=0) <| ob (hi=some (.i .i64 0)) <| ob (lo=none) (match x with
  |.sl _ _=>K (.s0 sz)
  |.s0 _=>K (.s0 sz)
  |.sm l ver _ _ _=>ob (zcd σ l ver) (K (.s0 sz))
  |_=>False)
 |some _=>False
 |none=>match x with
  |.sl sz' es=>ob (sz'=sz) (match lo,hi with
   |none,none=>K (.sl sz es)
   |none,some (.i _ h)=>ob (0<=h/\h<=es.length) (K (.sl sz (es.take h.toNat)))
   |some (.i _ l),none=>ob (0<=l/\l<=es.length) (K (.sl sz (es.drop l.toNat)))
   |some (.i _ l),some (.i _ h)=>ob (0<=l/\l<=h/\h<=es.length) (K (.sl sz ((es.take h.toNat).drop l.toNat)))
   |_,_=>False)
  |.sm l ver off n sz'=>ob (sz'=sz) <| ob (zcd σ l ver) (match lo,hi with
   |none,none=>K (.sm l ver off n sz)
   |none,some (.i _ h)=>ob (0<=h/\h<=n) (K (.sm l ver off h.toNat sz))
   |some (.i _ a),none=>ob (0<=a/\a<=n) (K (.sm l ver (off+a.toNat*sz) (n-a.toNat) sz))
   |some (.i _ a),some (.i _ h)=>ob (0<=a/\a<=h/\h<=n) (K (.sm l ver (off+a.toNat*sz) (h.toNat-a.toNat) sz))
   |_,_=>False)
  |.s0 _=>(match lo,hi with
   |none,none=>K (.s0 sz)
   |none,some (.i _ h)=>ob (h=0) (K (.s0 sz))
   |some (.i _ a),none=>ob (a=0) (K (.s0 sz))
   |some (.i _ a),some (.i _ h)=>ob (a=0/\h=0) (K (.s0 sz))
   |_,_=>False)
  |_=>False
def zdN (φ:List (Nat×AV)) (σ:List (Nat×AO)) (e:AVal) (K:AV->Prop):Prop :=
 match e with
 |.mov x=>K (ev φ x)
 |.pick c a b=>match ev φ c with
  |.b t=>zfK t (K (ev φ a)) (K (ev φ b))
  |_=>False
 |.bin op ty x y=>abin σ op ty (ev φ x) (ev φ y) K
 |.not x=>match ev φ x with
  |.b t=>K (.b (!t))
  |_=>False
 |.conv k x=>match ev φ x with
  |.i _ n=>K (.i k (k.wrap n))
  |_=>False
 |.load n a=>zcR (zds σ n (ev φ a)) K
 |.fadr a off=>match ev φ a with
  |.ptr l ver o=>ob (zcd σ l ver) (K (.ptr l ver (o+off)))
  |.ip sz es i k=>K (.ip sz es i (k+off))
  |_=>False
 |.iadr x i sz arr=>match ev φ i with
  |.i _ j=>match ev φ x,arr with
   |.sl sz' es,none=>ob (sz'=sz) <| ob (0<=j/\j<es.length) (K (.ip sz es j.toNat 0))
   |.sm l ver off n sz',none=>ob (sz'=sz) <| ob (zcd σ l ver) <| ob (0<=j/\j<n) (K (.ptr l ver (off+j.toNat*sz)))
   |.ptr l ver off,some n=>ob (zcd σ l ver) <| ob (0<=j/\j<n) (K (.ptr l ver (off+j.toNat*sz)))
   |.ip sz' es i' k,some n=>ob (0<=j/\j<n) (K (.ip sz' es i' (k+j.toNat*sz)))
   |_,_=>False
  |_=>False
 |.fld x off n=>match ev φ x with
  |.agg cs=>match n with
   |none=>zcR cs[off]? K
   |some m=>K (.agg (seg cs off m))
  |_=>False
 |.idx x i len sz ag=>match ev φ x,ev φ i with
  |.agg cs,.i _ j=>ob (0<=j/\j<len) (match ag with
   |true=>K (.agg (seg cs (j.toNat*sz) sz))
   |false=>zcR cs[j.toNat*sz]? K)
  |_,_=>False
 |.len x=>match ev φ x with
  |.sl _ es=>K (.i .i64 es.length)
  |.s0 _=>K (.i .i64 0)
  |.sm l ver _ n _=>ob (zcd σ l ver) (K (.i .i64 n))
  |_=>False
 |.ext x i=>match ev φ x with
  |.tup vs=>zcR vs[i]? K
  |_=>False
 |.mkfn j caps=>K (.fn j (caps.map (ev φ)))
 |.build zero parts=>zcR (zdn φ (zc3 zero) parts) fun cs=>K (.agg cs)
 |.slc x lo hi mx sz=>aslc σ (ev φ x) (lo.map (ev φ)) (hi.map (ev φ)) (mx.map (ev φ)) sz K
 |.slca x lo hi mx m sz=>match ev φ x with
  |.ptr l ver off=>ob (zcd σ l ver) <| ob (0<ver/\off+m*sz<=ver) <| aslc σ (.sm l ver off m sz) (lo.map (ev φ)) (hi.map (ev φ)) (mx.map (ev φ)) sz K
  |_=>False
 |.nilck x=>match ev φ x with
  |.ptr l ver off=>ob (zcd σ l ver) (K (.ptr l ver off))
  |.ip sz es i k=>K (.ip sz es i k)
  |.fn j cs=>K (.fn j cs)
  |_=>False
 |.mnx mn x y=>match ev φ x,ev φ y with
  |.i k a,.i k' b=>ob (k=k') <| K (.i k (if mn=true then (if b<a then b else a) else (if a<b then b else a)))
  |_,_=>False
 |.cap x=>match ev φ x with
  |.s0 _=>K (.i .i64 0)
  |_=>False
 |.look m k=>zcR (zmi σ (ev φ m) (ev φ k)) K
structure Knows (inv:Nat->Option Nat) (w0:World) (M:Nat->Prop) (φ:List (Nat×AV)) (σ:List (Nat×AO)) (β:Nat->Nat) (a:Act) (w:World):Prop where
 slots:∀ i,rel (ctx inv M σ β w) (zbl φ i) (a.tmps.getD i undef)
 mem:Mem inv w0 M σ β w
section
variable {P:Program} {inv:Nat->Option Nat} {w0:World} {M:Nat->Prop} {φ:AF} {σ:AS} {β:Nat->Nat} {a:Act} {w:World}
theorem cav_rel {c:Ctx} {t:TypeId}:∀ {v:Value} {x:AV},cav P t v=some x->rel c x v:=by
 intro v x h;unfold cav at h;split at h
 ·cases h;simp only[rel]
 ·cases h;simp only[rel]
 ·split at h
  ·rename_i vs hv
   cases h
   simp only[rel,undef]
   congr 1
   exact Array.isEmpty_iff.1 hv
  ·cases h
 ·split at h<;>(cases h;simp only[rel];exact ⟨_,rfl⟩)
 ·cases h;simp only[rel]
 ·cases h;simp only[rel]
 ·cases h;simp only[rel]
 ·cases h;simp only[rel]
 ·cases h
theorem zap (hs:Knows inv w0 M φ σ β a w) {t:TypeId} {x:Operand} {d:Opd} (h:zc5 P inv t x=some d):rel (ctx inv M σ β w) (ev φ d) (a.eval x):=by
 unfold zc5 at h;split at h
 ·cases h;exact hs.slots _
 ·rename_i v
  cases hv:cav P t v with
  |none=>rw[hv]at h;cases h
  |some y=>rw[hv]at h;cases h;exact cav_rel hv
 ·rename_i f
  cases hf:inv f with
  |none=>rw[hf]at h;cases h
  |some j=>rw[hf]at h;cases h;simp only[ev,rel];exact ⟨f,#[],rfl,hf,by simp[zcp]⟩
 ·cases h
theorem ziT (hs:Knows inv w0 M φ σ β a w):∀ {l:List (TypeId×Operand)} {ds:List Opd},zl7 P inv l=some ds->zcp (ctx inv M σ β w) (ds.map (ev φ)) (l.map fun p=>a.eval p.2)
 |[],_,h=>by simp only[zl7]at h;cases h;simp[zcp]
 |(t,x)::r,_,h=>by
  simp only[zl7]at h;split at h
  ·rename_i d ds e1 e2
   cases h
   simp only[List.map_cons];exact zge (zap hs e1) (ziT hs e2)
  ·cases h
theorem zls {c:Ctx}:∀ {xs:List AV} {ys:List Value},zmL xs ys=true->relCs c xs ys
 |[],[],_=>zbs
 |x::xs,y::ys,h=>by
  simp only[zmL,Bool.and_eq_true]at h;obtain ⟨h1,h2⟩:=h;refine zcQ ?_ ?_ (zls h2)
  ·unfold zmC at h1;split at h1<;>first|rfl|cases h1
  ·unfold zmC at h1
   split at h1
   ·simp only[Bool.and_eq_true,decide_eq_true_eq]at h1;obtain ⟨rfl,rfl⟩:=h1;simp only[rel]
   ·simp only[beq_iff_eq]at h1;subst h1;simp only[rel]
   ·simp only[rel];exact ⟨_,rfl⟩
   ·simp only[rel]
   ·simp only[rel]
   ·simp only[rel]
   ·simp only[rel]
   ·cases h1
 |[],_::_,h=>by simp[zmL]at h
 |_::_,[],h=>by simp[zmL]at h
theorem zce {c:Ctx} {t:TypeId} {r:List (Nat×AV)} (h:zdO P t=some r):∃ i z,P.info? t=some i/\i.zero=some z/\relCs c (zc3 r) z.cells.toList:=by
 unfold zdO at h;split at h
 ·rename_i r' i e1 e2
  split at h
  ·rename_i z e3
   split at h
   ·rename_i e4
    cases h
    exact ⟨i,z,e2,e3,zls e4⟩
   ·cases h
  ·cases h
 ·cases h
theorem zj5 {t:TypeId} {n:Nat} (h:siz P t=some n):∃ i,P.info? t=some i/\i.size=n/\P.cellsOf t=n:=by
 unfold siz at h;cases e:P.info? t with
 |none=>rw[e]at h;cases h
 |some i=>rw[e]at h;simp only[Option.map_some,Option.some.injEq]at h;exact ⟨i,rfl,h,by simp[Program.cellsOf,e,h]⟩
theorem zc4 {t:TypeId} {n:Nat} (h:siz P t=some n) (w:World):(sizeOf t).run P w=.ok n w:=by
 obtain ⟨i,hi,_,hc⟩:=zj5 h;rw[run_sizeOf w hi,hc]
theorem zh5 {t:TypeId} {l:Option Nat} (h:lay P t=some l) (w:World):(isAgg t).run P w=.ok l.isSome w:=by
 unfold lay at h;unfold isAgg;split at h
 ·rename_i e
  cases e1:siz P t with
  |none=>rw[e1]at h;cases h
  |some n=>rw[e1]at h;cases h;simp[run_underlying e]
 ·rename_i e
  cases e1:siz P t with
  |none=>rw[e1]at h;cases h
  |some n=>rw[e1]at h;cases h;simp[run_underlying e]
 ·rename_i d h1 h2 e
  cases h
  rw[Sem.run_bind,run_underlying e];simp only[Result.andThen_ok];cases d<;>first|rfl|(exact absurd rfl (h1 _))|(exact absurd rfl (h2 _ _))
 ·cases h
theorem zm2 {t:TypeId} {n:Nat} (h:lay P t=some (some n)):siz P t=some n:=by
 unfold lay at h;split at h
 ·cases e1:siz P t with
  |none=>rw[e1]at h;cases h
  |some n=>rw[e1]at h;simpa using h
 ·cases e1:siz P t with
  |none=>rw[e1]at h;cases h
  |some n=>rw[e1]at h;simpa using h
 ·cases h
 ·cases h
theorem zfu {t:TypeId} {l:Option Nat} (h:lay P t=some l) (w:World) (ad:Addr) (ys:List Value) (hn:∀ n,l=some n->ys.length=n) (h1:l=none->ys.length=1) (hc:∀ j u,ys[j]?=some u->w.cell? (ad.add j)=some u) :
  (loadVar t ad).run P w=.ok (if l.isSome then .agg ys.toArray else ys.getD 0 undef) w:=by
 unfold loadVar;rw[Sem.run_bind,zh5 h];simp only[Result.andThen_ok];cases l with
 |none =>
  have:=h1 rfl
  match ys,this with
  |[y],_ =>
   have hc0:=hc 0 y rfl;have e0:ad.add 0=ad:=by simp[Addr.add]
   rw[e0]at hc0;simp[hc0]
 |some n =>
  have e:=hn n rfl;have hr:=run_loadCells_list (P:=P) w ad ys hc;simp only[Option.isSome_some,if_true,Sem.run_bind,zc4 (zm2 h),Result.andThen_ok];rw[e]at hr;rw[hr];simp
theorem zjv {l ver:Nat} (h:zcd σ l ver):∃ p,zai β w σ l=some p/\p.len=ver:=by
 unfold zcd at h;unfold zai;split at h
 ·rename_i cs r e
  rw[e];cases r with
  |true=>exact ⟨_,rfl,h⟩
  |false=>exact ⟨_,rfl,h⟩
 ·cases h
theorem zdB {l ver off:Nat} {x:Value} (h:zcd σ l ver) (hr:rel (ctx inv M σ β w) (.ptr l ver off) x):∃ p,zai β w σ l=some p/\p.len=ver/\x=.pointer (some ⟨p.block,off,none⟩):=by
 obtain ⟨p,hp,hv⟩:=zjv (β:=β) (w:=w) h;simp only[rel]at hr;exact ⟨p,hp,hv,(hr.2 p hp).2 hv.symm⟩
theorem zcP {l ver off n sz:Nat} {x:Value} (h:zcd σ l ver) (hr:rel (ctx inv M σ β w) (.sm l ver off n sz) x) :
  ∃ p ad cap,zai β w σ l=some p/\p.len=ver/\off+n*sz<=ver/\x=.slice ad n cap/\n<=cap/\(if p.real then (cap=0\/ad=some ⟨p.block,off,none⟩)/\off+cap*sz<=p.size else cap=0):=by
 obtain ⟨p,hp,hv⟩:=zjv (β:=β) (w:=w) h;simp only[rel]at hr;obtain ⟨h1,ad,cap,h2,h3,h4⟩:=(hr.2 p hp).2 hv.symm;exact ⟨p,ad,cap,hp,hv,h1,h2,h3,h4⟩
theorem zdW {l ver off:Nat} {p:Place} (hp:zai β w σ l=some p) (hv:p.len=ver):rel (ctx inv M σ β w) (.ptr l ver off) (.pointer (some ⟨p.block,off,none⟩)):=by
 simp only[rel];refine ⟨rfl,fun p' hp'=>?_⟩
 have:p'=p:=by have:=(show zai β w σ l=some p' from hp').symm.trans hp;simpa using this
 subst this;exact ⟨by omega,fun _=>rfl⟩
theorem zbZ (b off k:Nat):(⟨b,off,none⟩:Addr).add k=⟨b,off+k,none⟩:=by unfold Addr.add;split<;>simp_all
theorem Mem.cell (hm:Mem inv w0 M σ β w) {l:Nat} {cs:List AV} (h:zah σ l=some (.cells cs true)) :
  ∃ ys:List Value,ys.length=cs.length/\relCs (ctx inv M σ β w) cs ys/\∀ j u,ys[j]?=some u->w.cell? ⟨β l,j,none⟩=some u:=by
 obtain ⟨xs,ty,e1,e2,e3⟩:=hm.cells l cs h;refine ⟨xs.toList.take cs.length,(zaB e3).symm,e3,fun j u hu=>?_⟩
 rw[List.getElem?_take]at hu;split at hu
 ·simp only[World.cell?,e1,Option.isSome_none,Bool.false_eq_true,if_false]
  simpa using hu
 ·cases hu
theorem zi5 {c:Ctx} {cs:List AV} {off:Nat} {l:Option Nat} {v:AV} {ys:List Value} (h:zb2 cs off l=some v) (hr:relCs c cs ys) :
  ∃ zs:List Value,(∀ n,l=some n->zs.length=n)/\(l=none->zs.length=1)/\(∀ j u,zs[j]?=some u->ys[off+j]?=some u)/\rel c v (if l.isSome then .agg zs.toArray else zs.getD 0 undef):=by
 cases l with
 |none =>
  simp only[zb2]at h;obtain ⟨y,hy,_,hr⟩:=zih hr h;refine ⟨[y],by simp,by simp,fun j u hu=>?_,by simpa using hr⟩
  cases j with
  |zero=>simp at hu;subst hu;exact hy
  |succ j=>simp at hu
 |some n =>
  simp only[zb2]at h;split at h
  ·rename_i hle
   obtain ⟨_,hle⟩:=hle;cases h
   have hl:=zaB hr;refine ⟨(ys.drop off).take n,fun m e=>?_,by simp,fun j u hu=>?_, ?_⟩
   ·cases e;rw[List.length_take,List.length_drop];omega
   ·rw[List.getElem?_take]at hu
    split at hu
    ·simpa using hu
    ·cases hu
   ·simp only[Option.isSome_some,if_true,rel]
    exact ⟨_,rfl,by simpa [seg] using zcg n (zch off hr)⟩
  ·cases h
theorem znt {cs:List AV} {off:Nat} {l:Option Nat} {v:AV} (h:zb2 cs off l=some v) (hb:zaf cs=true):v.bare=true:=by
 cases l with
 |none=>exact zmg hb h
 |some n =>
  simp only[zb2]at h;split at h
  ·cases h;simp only[AV.bare,seg];exact zg5 _ _ (zfn _ _ hb)
  ·cases h
theorem zi4 (hs:Knows inv w0 M φ σ β a w) {t:TypeId} {l:Option Nat} (ht:lay P t=some l) {x v:AV} {y:Value} (hx:rel (ctx inv M σ β w) x y) (h:zds σ l x=some v) :
  ∃ u,rel (ctx inv M σ β w) v u/\(Instr.loadAt t y).run P w=.ok u w:=by
 unfold zds at h;split at h
 ·rename_i lo ver off
  split at h
  ·rename_i cs rl e
   split at h
   ·rename_i hv
    have hrl:rl=true:=by
     cases rl with
     |true=>rfl
     |false =>
      have:=hs.mem.ghost lo cs e;subst this;cases l with
      |none=>simp[zb2]at h
      |some m=>simp only[zb2]at h;split at h<;>first|(rename_i hh;simp at hh;omega)|cases h
    subst hrl;have hlv:zcd σ lo ver:=by unfold zcd;rw[e];exact hv
    obtain ⟨p,hp,_,rfl⟩:=zdB hlv hx;obtain ⟨ys,hyl,hyr,hyc⟩:=hs.mem.cell e;obtain ⟨zs,z1,z2,z3,z4⟩:=zi5 h hyr;have hpb:p.block=β lo:=by unfold zai at hp;rw[e]at hp;cases hp;rfl
    refine ⟨_,z4, ?_⟩;simp only[Instr.loadAt,Instr.sureAddr,Sem.run_bind,Sem.run_pure,Result.andThen_ok];exact zfu ht w _ zs z1 z2 (fun j u hu=>by rw[zbZ,hpb];exact hyc _ _ (z3 j u hu))
   ·cases h
  ·cases h
 ·rename_i sz es i k
  split at h
  ·rename_i r e
   simp only[rel]at hx;obtain ⟨ad,rfl,_,_,hrows⟩:=hx;obtain ⟨_,hrow⟩:=zib hrows e;obtain ⟨hbare,ys,hyr,hyc⟩:=zfI hrow;obtain ⟨zs,z1,z2,z3,z4⟩:=zi5 h hyr;refine ⟨_,zhy (S:=(ctx inv M σ β w).S) v _ (znt h hbare) z4, ?_⟩
   ·simp only[Instr.loadAt,Instr.sureAddr,Sem.run_bind,Sem.run_pure,Result.andThen_ok]
    exact zfu ht w _ zs z1 z2 (fun j u hu=>by
     rw[zi6];have:=hyc _ _ (z3 j u hu);rw[show i*sz+k+j=0+i*sz+(k+j) by omega];exact this)
  ·cases h
 ·cases h
theorem zcf {t:TypeId} (h:lay P t=some none) (w:World) (cs:Array Value) (off:Nat) (v:Value) (hv:cs[off]?=some v):(part t cs off).run P w=.ok v w:=by
 unfold part;rw[Sem.run_bind,zh5 h];simp[hv]
theorem zf7 {t:TypeId} {n:Nat} (h:lay P t=some (some n)) (w:World) (cs:Array Value) (off:Nat):(part t cs off).run P w=.ok (.agg (cs.extract off (off+n))) w:=by
 unfold part;rw[Sem.run_bind,zh5 h];simp[zc4 (zm2 h)]
theorem zot {ks:List Bool} {xs ys:List AV} {t:Bool} (h:eqC (true::ks) xs ys=some t):∃ k a b xs' ys' t',xs=.i k a::xs'/\ys=.i k b::ys'/\eqC ks xs' ys'=some t'/\t=(decide (a=b)&&t'):=by
 unfold eqC at h;split at h
 ·simp_all
 ·rename_i ks' k a xs' k' b ys' e
  cases e
  split at h
  ·rename_i ek
   subst ek;obtain ⟨t1,h1,h2⟩:=Option.map_eq_some_iff.1 h;exact ⟨k,a,b,xs',ys',t1,rfl,rfl,h1,h2.symm⟩
  ·cases h
 ·rename_i e;cases e
 ·cases h
theorem zr0 {ks:List Bool} {xs ys:List AV} {t:Bool} (h:eqC (false::ks) xs ys=some t):∃ a b xs' ys' t',xs=.b a::xs'/\ys=.b b::ys'/\eqC ks xs' ys'=some t'/\t=(decide (a=b)&&t'):=by
 unfold eqC at h;split at h
 ·simp_all
 ·rename_i e;cases e
 ·rename_i ks' a xs' b ys' e
  cases e
  obtain ⟨t1,h1,h2⟩:=Option.map_eq_some_iff.1 h;exact ⟨a,b,xs',ys',t1,rfl,rfl,h1,h2.symm⟩
 ·cases h
theorem zl3 {c:Ctx}:∀ {fs:List Field} {k:Nat} {ks:List Bool} {xs ys:List AV} {us vs:List Value} {t:Bool} (zs ws:Array Value) (d:Nat),zcU P k fs=some ks->eqC ks xs ys=some t->relCs c xs us->relCs c ys vs ->
  (∀ j,zs[k+j]?=us[j]?)->(∀ j,ws[k+j]?=vs[j]?)->(Op.eqFields (d+1) zs ws fs).run P w=.ok t w
 |[],k,ks,xs,ys,us,vs,t,zs,ws,d,hf,he,_,_,_,_=>by
  simp only[zcU,Option.some.injEq]at hf;subst hf;cases xs<;>cases ys<;>simp[eqC]at he
  subst he;simp[Op.eqFields]
 |f::fs,k,ks,xs,ys,us,vs,t,zs,ws,d,hf,he,hx,hy,hz,hw=>by
  simp only[zcU]at hf;split at hf
  ·rename_i hn
   obtain ⟨hname,hoff⟩:=hn;have step:∀ (x y:AV) (xs' ys':List AV) (ks':List Bool) (t0 t1:Bool),xs=x::xs'->ys=y::ys'->zcU P (k+1) fs=some ks'->eqC ks' xs' ys'=some t1->t=(t0&&t1)->lay P f.type=some none ->
     (∀ u v,rel c x u->rel c y v->(Op.equalIn (d+1) f.type u v).run P w=.ok t0 w)->(Op.eqFields (d+1) zs ws (f::fs)).run P w=.ok t w:=by
    intro x y xs' ys' ks' t0 t1 e1 e2 e3 e4 e5 e6 e7;subst e1 e2;simp only[relCs]at hx hy;obtain ⟨u,us',rfl,_,rx,hx⟩:=hx;obtain ⟨v,vs',rfl,_,ry,hy⟩:=hy;have hz0:zs[k]?=some u:=by simpa using hz 0
    have hw0:ws[k]?=some v:=by simpa using hw 0
    have hz':∀ j,zs[k+1+j]?=us'[j]?:=fun j=>by have:=hz (j+1);rw[show k+1+j=k+(j+1) by omega];simpa using this
    have hw':∀ j,ws[k+1+j]?=vs'[j]?:=fun j=>by have:=hw (j+1);rw[show k+1+j=k+(j+1) by omega];simpa using this
    simp only[Op.eqFields,ne_eq,hname,not_false_eq_true,if_true,Sem.run_bind,hoff,zcf e6 w zs k u hz0,zcf e6 w ws k v hw0,Result.andThen_ok,e7 u v rx ry];cases t0 with
    |false=>simp[e5]
    |true =>
     simp only[Bool.not_true,Bool.false_eq_true,if_false];rw[e5,Bool.true_and];exact zl3 zs ws d e3 e4 hx hy hz' hw'
   split at hf
   ·rename_i kd ks' e1 e2
    simp only[Option.some.injEq]at hf;subst hf;obtain ⟨k1,a1,b1,xs',ys',t1,e3,e4,e5,e6⟩:=zot he;refine step _ _ _ _ _ _ t1 e3 e4 e2 e5 e6 (by simp[lay,e1]) fun u v ru rv=>?_
    simp only[rel]at ru rv;subst ru rv;rw[run_equalIn_int w d f.type k1 kd a1 b1 e1];rfl
   ·rename_i ks' e1 e2
    simp only[Option.some.injEq]at hf;subst hf;obtain ⟨a1,b1,xs',ys',t1,e3,e4,e5,e6⟩:=zr0 he;refine step _ _ _ _ _ _ t1 e3 e4 e2 e5 e6 (by simp[lay,e1]) fun u v ru rv=>?_
    simp only[rel]at ru rv;subst ru rv;rw[run_equalIn_bool' w d f.type a1 b1 e1];congr 1
   ·cases hf
  ·cases hf
end
section
variable {P:Program} {inv:Nat->Option Nat} {w0:World} {M:Nat->Prop} {φ:AF} {σ:AS} {β:Nat->Nat} {a:Act} {w:World}
theorem zcI (op:BinOp) (t:TypeId) (ox oy:Operand) (u v:Value) (h1:∀ xs,u≠.agg xs) (h2:u≠.nilIface):(eqGuard op t ox oy u v).run P w=.ok () w:=by
 unfold eqGuard;cases u<;>cases op<;>first|rfl|(exact absurd rfl (h1 _))|(exact absurd rfl h2)
theorem ety_bool {t:TypeId} (h:ety P t=some .bool):P.underlying t=some .bool:=by
 unfold ety at h;split at h<;>first|(rename_i e;exact e)|(simp at h;done)|(split at h<;>first|(simp at h;done)|(split at h<;>simp at h))
theorem zkS {t:TypeId} (h:ety P t=some .ptr):∃ e,P.underlying t=some (.pointer e):=by
 unfold ety at h;split at h<;>first|(rename_i k e;exact ⟨k,e⟩)|(simp at h;done)|(split at h<;>first|(simp at h;done)|(split at h<;>simp at h))
theorem zrZ {t:TypeId} (h:ety P t=some .fn):∃ p r v,P.underlying t=some (.func p r v):=by
 unfold ety at h;split at h<;>first|(rename_i p r v e;exact ⟨p,r,v,e⟩)|(simp at h;done)|(split at h<;>first|(simp at h;done)|(split at h<;>simp at h))
theorem ety_flat {t:TypeId} {ks:List Bool} (h:ety P t=some (.flat ks)):∃ fs:Array Field,P.underlying t=some (.struct fs)/\P.stoodInHeld t=false/\P.eqGuardType P.depth t=false/\zcU P 0 fs.toList=some ks:=by
 unfold ety at h;split at h<;>first|(simp at h;done)|(split at h<;>first|(simp at h;done)|(split at h<;>simp at h;done))|skip
 rename_i fs e;split at h
 ·simp at h
 ·rename_i h2
  simp only[Bool.or_eq_true,not_or,Bool.not_eq_true]at h2;refine ⟨fs,e,h2.1,h2.2, ?_⟩;obtain ⟨ks',h3,h4⟩:=Option.map_eq_some_iff.1 h;cases h4
  exact h3
theorem ety_arr {t:TypeId} {m:Nat} (h:ety P t=some (.arr m)):∃ (e:TypeId) (k:IntKind) (i:TypeInfo),P.underlying t=some (.array m e)/\P.underlying e=some (.int k)/\P.info? e=some i/\P.cellsOf e=1/\P.eqGuardType P.depth t=false:=by
 unfold ety at h;split at h<;>first|(simp at h;done)|skip
 rename_i m' e e1;split at h
 ·rename_i k e2
  split at h
  ·rename_i hc
   simp only[Option.some.injEq,ETy.arr.injEq]at h;subst h;obtain ⟨i,hi,_,hcell⟩:=zj5 hc.2;exact ⟨e,k,i,e1,e2,hi,hcell,hc.1⟩
  ·simp at h
 ·simp at h
theorem zgu {c:Ctx} {e:TypeId} {k:IntKind} (he:P.underlying e=some (.int k)) (d:Nat) (zs ws:Array Value):∀ (m o:Nat) {xs ys:List AV} {us vs:List Value} {t:Bool},eqC (List.replicate m true) xs ys=some t->relCs c xs us->relCs c ys vs ->
  (∀ j,zs[o+j]?=us[j]?)->(∀ j,ws[o+j]?=vs[j]?)->(Op.eqItems (d+1) e 1 zs ws (List.range' o m)).run P w=.ok t w
 |0,o,xs,ys,us,vs,t,h,_,_,_,_=>by
  cases xs<;>cases ys<;>simp[eqC]at h
  subst h;simp[Op.eqItems]
 |m+1,o,xs,ys,us,vs,t,h,hx,hy,hz,hw=>by
  rw[List.replicate_succ]at h;obtain ⟨k1,a1,b1,xs',ys',t1,rfl,rfl,e5,rfl⟩:=zot h;simp only[relCs]at hx hy;obtain ⟨u,us',rfl,_,rx,hx⟩:=hx;obtain ⟨v,vs',rfl,_,ry,hy⟩:=hy;simp only[rel]at rx ry;subst rx ry;have hz0:zs[o]?=some (.int k1 a1):=by simpa using hz 0
  have hw0:ws[o]?=some (.int k1 b1):=by simpa using hw 0
  have hz':∀ j,zs[o+1+j]?=us'[j]?:=fun j=>by have:=hz (j+1);rw[show o+1+j=o+(j+1) by omega];simpa using this
  have hw':∀ j,ws[o+1+j]?=vs'[j]?:=fun j=>by have:=hw (j+1);rw[show o+1+j=o+(j+1) by omega];simpa using this
  have hl:lay P e=some none:=by simp[lay,he]
  have ih:=zgu he d zs ws m (o+1) e5 hx hy hz' hw';rw[List.range'_succ];simp only[Op.eqItems,Sem.run_bind,Nat.mul_one,zcf hl w zs o _ hz0,zcf hl w ws o _ hw0,Result.andThen_ok,run_equalIn_int w d e k1 k a1 b1 he];by_cases hab:a1=b1
  ·subst hab;simp[ih]
  ·simp[hab]
theorem zdV {op:BinOp} {t:TypeId} {u v:Value} {b:Bool} (hop:op=.eql\/op=.neq) (hi:∀ k n,u≠.int k n) (hf:∀ k n,u≠.float k n) (hcx:∀ k n m,u≠.complex k n m) (hs:∀ s,u≠.string s)
  (hr:(Op.equal t u v).run P w=.ok b w):(binOp op t u v).run P w=.ok (.bool (if op=.eql then b else !b)) w:=by
 rcases hop with rfl|rfl
 ·cases u<;>first|(exact absurd rfl (hi _ _))|(exact absurd rfl (hf _ _))|(exact absurd rfl (hcx _ _ _))|(exact absurd rfl (hs _))|(simp[binOp,hr])
 ·cases u<;>first|(exact absurd rfl (hi _ _))|(exact absurd rfl (hf _ _))|(exact absurd rfl (hcx _ _ _))|(exact absurd rfl (hs _))|(simp[binOp,hr])
theorem zns {c:Ctx} {op:BinOp} {k:IntKind} {a b:Int} {K:AV->Prop} (t:TypeId) (h:zpE op k a b K):∃ z r,K z/\rel c z r/\(binOp op t (.int k a) (.int k b)).run P w=.ok r w:=by
 cases op<;>simp only[zpE]at h<;>first
  |(exact h.elim)
  |(refine ⟨_,_,h.2,by simp only[rel];rfl, ?_⟩;simp[binOp,Op.intDiv,h.1];done)
  |(refine ⟨_,_,h,by simp only[rel];rfl, ?_⟩;simp[binOp,Op.intArith,Op.intCmp];done)
  |(refine ⟨_,_,h,by simp only[rel];rfl, ?_⟩;simp only[binOp,Op.intCmp,Sem.run_pure,ne_eq,not_true_eq_false,if_false];rfl)
theorem zhr (d:Nat) {t e:TypeId} (h:P.underlying t=some (.pointer e)) (ad:Addr):(Op.equalIn (d+1) t (.pointer (some ad)) (.pointer none)).run P w=.ok false w:=by
 simp only[Op.equalIn,Sem.run_bind,run_underlying h,Result.andThen_ok,Sem.run_pure]
theorem zgs {t e:TypeId} (h:P.underlying t=some (.pointer e)) (ad:Addr):(Op.equal t (.pointer (some ad)) (.pointer none)).run P w=.ok false w:=zhr 9999 h ad
theorem zhs (d:Nat) {t e:TypeId} (h:P.underlying t=some (.pointer e)) (ad:Option Addr):(Op.equalIn (d+1) t (.pointer none) (.pointer ad)).run P w=.ok ad.isNone w:=by
 simp only[Op.equalIn,Sem.run_bind,run_underlying h,Result.andThen_ok,Sem.run_pure]
theorem zgt {t e:TypeId} (h:P.underlying t=some (.pointer e)) (ad:Option Addr):(Op.equal t (.pointer none) (.pointer ad)).run P w=.ok ad.isNone w:=zhs 9999 h ad
theorem zht (d:Nat) {t:TypeId} {p r:Array TypeId} {vv:Bool} (h:P.underlying t=some (.func p r vv)):(Op.equalIn (d+1) t .nilFunc .nilFunc).run P w=.ok true w:=by
 simp only[Op.equalIn,Sem.run_bind,run_underlying h,Result.andThen_ok,Sem.run_pure]
theorem zkT {t:TypeId} {p r:Array TypeId} {vv:Bool} (h:P.underlying t=some (.func p r vv)):(Op.equal t .nilFunc .nilFunc).run P w=.ok true w:=zht 9999 h
theorem ziM (d:Nat) {t:TypeId} {p r:Array TypeId} {vv:Bool} (h:P.underlying t=some (.func p r vv)) (g:Fn) (xs ys:Array Value):(Op.equalIn (d+1) t .nilFunc (.func g xs ys)).run P w=.ok false w:=by
 simp only[Op.equalIn,Sem.run_bind,run_underlying h,Result.andThen_ok,Sem.run_pure]
theorem zl1 {t:TypeId} {p r:Array TypeId} {vv:Bool} (h:P.underlying t=some (.func p r vv)) (g:Fn) (xs ys:Array Value):(Op.equal t .nilFunc (.func g xs ys)).run P w=.ok false w:=ziM 9999 h g xs ys
theorem ziN (d:Nat) {t:TypeId} {p r:Array TypeId} {vv:Bool} (h:P.underlying t=some (.func p r vv)) (g:Fn) (xs ys:Array Value):(Op.equalIn (d+1) t (.func g xs ys) .nilFunc).run P w=.ok false w:=by
 simp only[Op.equalIn,Sem.run_bind,run_underlying h,Result.andThen_ok,Sem.run_pure]
theorem zl2 {t:TypeId} {p r:Array TypeId} {vv:Bool} (h:P.underlying t=some (.func p r vv)) (g:Fn) (xs ys:Array Value):(Op.equal t (.func g xs ys) .nilFunc).run P w=.ok false w:=ziN 9999 h g xs ys
theorem zpG {t:TypeId} {ty:ETy} {op:BinOp} {ox oy:Operand} {x y:AV} {u v:Value} {K:AV->Prop} (hty:ety P t=some ty) (hx:rel (ctx inv M σ β w) x u) (hy:rel (ctx inv M σ β w) y v) (h:abin σ op ty x y K) :
  ∃ z r,K z/\rel (ctx inv M σ β w) z r/\(do eqGuard op t ox oy u v;binOp op t u v:Sem Value).run P w=.ok r w:=by
 unfold abin at h;split at h
 ·-- numbers
  rename_i k a k' b;simp only[rel]at hx hy;subst hx hy;have hg:=zcI (P:=P) (w:=w) op t ox oy (.int k a) (.int k' b) (by simp) (by simp)
  split at h
  ·obtain ⟨hb0,h⟩:=h
   refine ⟨_,_,h,by simp only[rel];rfl, ?_⟩
   have h0:¬b<0:=by omega
   simp only[Sem.run_bind,hg,Result.andThen_ok,binOp,Op.shift,if_neg h0,Sem.run_pure]
  ·exact h.elim
  ·obtain ⟨rfl,h⟩:=h
   obtain ⟨z,r,h1,h2,h3⟩:=zns (c:=ctx inv M σ β w) (P:=P) (w:=w) t h;exact ⟨z,r,h1,h2,by simp only[Sem.run_bind,hg,Result.andThen_ok,h3]⟩
 ·-- truth values
  rename_i a b;simp only[rel]at hx hy;subst hx hy;obtain ⟨rfl,h⟩:=h;have hg:=zcI (P:=P) (w:=w) op t ox oy (.bool a) (.bool b) (by simp) (by simp)
  have he:(Op.equal t (.bool a) (.bool b)).run P w=.ok (a == b) w:=run_equalIn_bool' w 9999 t a b (ety_bool hty);have hd:(a == b)=decide (a=b):=by cases a<;>cases b<;>rfl
  split at h
  ·refine ⟨_,_,h,by simp only[rel];rfl, ?_⟩
   simp only[Sem.run_bind,hg,Result.andThen_ok,zdV (.inl rfl) (by simp) (by simp) (by simp) (by simp) he,hd,if_true]
  ·refine ⟨_,_,h,by simp only[rel];rfl, ?_⟩
   simp only[Sem.run_bind,hg,Result.andThen_ok,zdV (.inr rfl) (by simp) (by simp) (by simp) (by simp) he,hd]
   rfl
  ·exact h.elim
 ·-- structs
  rename_i xs ys;simp only[rel]at hx hy;obtain ⟨zs,rfl,hx⟩:=hx;obtain ⟨ws,rfl,hy⟩:=hy;split at h
  ·rename_i ks
   obtain ⟨fs,e1,e2,e3,e4⟩:=ety_flat hty;obtain ⟨tt,et,h⟩:=za2 h;have hg:=run_eqGuard_agg (P:=P) w op t ox oy zs ws e3;have hfo:P.fieldsOf t=fs:=by simp[Program.fieldsOf,e1]
   have he:(Op.equalIn 10000 t (.agg zs) (.agg ws)).run P w=.ok tt w:=by
    rw[run_equalIn_agg w 9999 t zs ws (by rw[hfo];exact e1) e2,hfo]
    exact zl3 zs ws 9998 e4 et hx hy (by simp) (by simp)
   split at h
   ·refine ⟨_,_,h,by simp only[rel];rfl, ?_⟩
    simp only[Sem.run_bind,hg,Result.andThen_ok,run_eql_struct,he]
   ·refine ⟨_,_,h,by simp only[rel];rfl, ?_⟩
    simp only[Sem.run_bind,hg,Result.andThen_ok,run_neq_struct,he]
   ·exact h.elim
  ·rename_i m
   obtain ⟨e,k,i,e1,e2,e3,e4,e5⟩:=ety_arr hty;obtain ⟨tt,et,h⟩:=za2 h;have hg:=run_eqGuard_agg (P:=P) w op t ox oy zs ws e5;have he:(Op.equalIn 10000 t (.agg zs) (.agg ws)).run P w=.ok tt w:=by
    rw[run_equalIn_array w 9999 zs ws e1 e3,e4,List.range_eq_range'];exact zgu e2 9998 zs ws m 0 et hx hy (by simp) (by simp)
   split at h
   ·refine ⟨_,_,h,by simp only[rel];rfl, ?_⟩
    simp only[Sem.run_bind,hg,Result.andThen_ok,run_eql_struct,he]
   ·refine ⟨_,_,h,by simp only[rel];rfl, ?_⟩
    simp only[Sem.run_bind,hg,Result.andThen_ok,run_neq_struct,he]
   ·exact h.elim
  ·exact h.elim
 ·-- a pointer and nil
  rename_i l ver off;obtain ⟨rfl,hlv,h⟩:=h;obtain ⟨p,_,_,rfl⟩:=zdB hlv hx;simp only[rel]at hy;subst hy;obtain ⟨et,e3⟩:=zkS hty;have hg:=zcI (P:=P) (w:=w) op t ox oy (.pointer (some ⟨p.block,off,none⟩)) (.pointer none) (by simp) (by simp)
  have he:=zgs (w:=w) e3 ⟨p.block,off,none⟩;split at h
  ·refine ⟨_,_,h,by simp only[rel];rfl, ?_⟩
   simp only[Sem.run_bind,hg,Result.andThen_ok,zdV (.inl rfl) (by simp) (by simp) (by simp) (by simp) he,if_true]
  ·refine ⟨_,_,h,by simp only[rel];rfl, ?_⟩
   simp only[Sem.run_bind,hg,Result.andThen_ok,zdV (.inr rfl) (by simp) (by simp) (by simp) (by simp) he]
   rfl
  ·exact h.elim
 ·-- nil
  obtain ⟨tt,et,h⟩:=za2 h;have key:(∀ xs,u≠.agg xs)/\u≠.nilIface/\(∀ k n,u≠.int k n)/\(∀ k n,u≠.float k n)/\(∀ k n m,u≠.complex k n m)/\(∀ s,u≠.string s)/\(Op.equal t u v).run P w=.ok tt w:=by
   unfold isNil at et;split at et<;>first|(cases et;done)|skip
   all_goals (simp only[Option.some.injEq]at et;subst et;simp only[rel]at hx hy)
   ·subst hx hy
    obtain ⟨et,e3⟩:=zkS hty;refine ⟨by simp,by simp,by simp,by simp,by simp,by simp, ?_⟩
    exact zgt e3 none
   ·subst hx
    obtain ⟨ad,rfl,_⟩:=hy;obtain ⟨et,e3⟩:=zkS hty;refine ⟨by simp,by simp,by simp,by simp,by simp,by simp, ?_⟩
    exact zgt e3 _
   ·subst hy
    obtain ⟨ad,rfl,_⟩:=hx;obtain ⟨et,e3⟩:=zkS hty;refine ⟨by simp,by simp,by simp,by simp,by simp,by simp, ?_⟩
    exact zgs e3 _
   ·subst hx hy
    obtain ⟨p,r,vv,e3⟩:=zrZ hty;refine ⟨by simp,by simp,by simp,by simp,by simp,by simp, ?_⟩
    exact zkT e3
   ·subst hx
    obtain ⟨g,xs,rfl,_⟩:=hy;obtain ⟨p,r,vv,e3⟩:=zrZ hty;refine ⟨by simp,by simp,by simp,by simp,by simp,by simp, ?_⟩
    exact zl1 e3 _ _ _
   ·subst hy
    obtain ⟨g,xs,rfl,_⟩:=hx;obtain ⟨p,r,vv,e3⟩:=zrZ hty;refine ⟨by simp,by simp,by simp,by simp,by simp,by simp, ?_⟩
    exact zl2 e3 _ _ _
  obtain ⟨k1,k2,k3,k4,k5,k6,he⟩:=key;have hg:=zcI (P:=P) (w:=w) op t ox oy u v k1 k2;split at h
  ·refine ⟨_,_,h,by simp only[rel];rfl, ?_⟩
   simp only[Sem.run_bind,hg,Result.andThen_ok,zdV (.inl rfl) k3 k4 k5 k6 he,if_true]
  ·refine ⟨_,_,h,by simp only[rel];rfl, ?_⟩
   simp only[Sem.run_bind,hg,Result.andThen_ok,zdV (.inr rfl) k3 k4 k5 k6 he];rfl
  ·exact h.elim
theorem zhd {c:Ctx} {sz:Nat} {ad:Addr}:∀ {k:Nat} (n:Nat) {es:List (List AV)},zaS c sz ad k es->zaS c sz ad k (es.take n)
 |_,0,_,_=>by simp[zaS]
 |_,_+1,[],_=>by simp[zaS]
 |k,n+1,r::rs,h=>by
  simp only[zaS]at h;simp only[List.take_succ_cons,zaS];exact ⟨h.1,h.2.1,zhd n h.2.2⟩
theorem zhf {c:Ctx} {sz:Nat} {ad:Addr}:∀ {k:Nat} (n:Nat) {es:List (List AV)},zaS c sz ad k es->zaS c sz ad (k+n*sz) (es.drop n)
 |_,0,_,h=>by simpa using h
 |_,_+1,[],_=>by simp[zaS]
 |k,n+1,r::rs,h=>by
  simp only[zaS]at h;have:=zhf n h.2.2;rw[show k+(n+1)*sz=k+sz+n*sz by rw[Nat.add_mul];omega]
  simpa using this
theorem zhg {c:Ctx} {ad:Addr} (o:Nat):∀ {k:Nat} {r:List AV},zb9 c ad (o+k) r->zb9 c (ad.add o) k r
 |_,[],_=>by simp only[zb9]
 |k,x::xs,h=>by
  simp only[zb9]at h |-
  refine ⟨by rw[zi6];exact h.1,zhg o ?_⟩
  rw[show o+(k+1)=o+k+1 by omega];exact h.2
theorem zei {c:Ctx} {sz:Nat} {ad:Addr} (o:Nat):∀ {k:Nat} {es:List (List AV)},zaS c sz ad (o+k) es->zaS c sz (ad.add o) k es
 |_,[],_=>by simp only[zaS]
 |k,r::rs,h=>by
  simp only[zaS]at h |-
  refine ⟨h.1,zhg o h.2.1,zei o ?_⟩;rw[show o+(k+sz)=o+k+sz by omega];exact h.2.2
end
end Go.Eng
