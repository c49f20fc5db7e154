/-
  A part of the engine that walks the functions' codes, and of the functions' contracts. Conditions: those that each theorem names.
-/
import Derived.Below
import Derived.Calls
import Derived.ChangeKeysEq
import Derived.DataReads
import Derived.Deep.LoopGhost
import Derived.Laws.AppendOwn
import Derived.Laws.Cells
import Derived.Laws.CopyRow
import Derived.Laws.Entries
import Derived.Laws.MakeOwn
import Derived.Laws.Rows
import Derived.Laws.StructEq
import Derived.Laws.Tables
import Derived.Lib.AppendZerosOnto
import Derived.MapKept
import Derived.Orders
import Derived.ProofKit
import Derived.ScopeJumps
import Derived.Tactics2
import Derived.WalkSpells
set_option linter.unusedSimpArgs false
set_option linter.unusedVariables false
set_option linter.unusedSectionVars false
namespace Go.Eng
open Go.RowKit
inductive AV where
 |i (k:IntKind) (n:Int)
 |b (b:Bool)
 |v (x:Value)
 |u
 |agg (cs:List AV)
 |tup (cs:List AV)
 |s0 (sz:Nat)
 |sl (sz:Nat) (es:List (List AV))
 |ip (sz:Nat) (es:List (List AV)) (i k:Nat)
 |ptr (l ver off:Nat)
 |sm (l ver off n sz:Nat)
 |fn (j:Nat) (caps:List AV)
 |mp (l:Nat)
 |top
 deriving Inhabited
structure Place where
 block:Nat
 len:Nat
 size:Nat
 real:Bool
structure Ctx where
 inv:Nat→Option Nat
 w:World
 A:Nat→Prop
 S:Nat→Option Place
def Ctx.none (c:Ctx):Ctx:={ c with S:=fun _=>Option.none }
mutual
/-- A value that has no names in it. -/
def AV.bare:AV→Bool
 |.agg cs=>zad cs
 |.tup cs=>zad cs
 |.ptr _ _ _=>false
 |.sm _ _ _ _ _=>false
 |.mp _=>false
 |.fn _ cs=>zad cs
 |.i _ _=>true|.b _=>true|.v _=>true|.u=>true|.s0 _=>true|.sl _ _=>true|.ip _ _ _ _=>true|.top=>true
def zad:List AV→Bool
 |[]=>true
 |x::xs=>x.bare&&zad xs
end
mutual
def rel (c:Ctx):AV→Value→Prop
 |.i k n,x=>x=.int k n
 |.b t,x=>x=.bool t
 |.v y,x=>x=y
 |.u,x=>x=undef
 |.agg cs,x=>∃ xs:Array Value,x=.agg xs∧relCs c cs xs.toList
 |.tup cs,x=>∃ xs:Array Value,x=.tuple xs∧zbz c cs xs.toList
 |.s0 _,x=>∃ ad,x=.slice ad 0 0
 |.sl sz es,x=>∃ ad cap,x=.slice ad es.length cap∧es.length≤cap∧(es≠[]→∃ a:Addr,ad=some a∧¬c.A a.block∧a.block<c.w.heap.size∧zaE c sz a 0 es)
 |.ip sz es i k,x=>∃ a:Addr,x=.pointer (some (a.add (i*sz+k)))∧¬c.A a.block∧a.block<c.w.heap.size∧zaE c sz a 0 es
 |.ptr l ver off,x=>x.oneCell'=true∧∀ p,c.S l=some p→ver≤p.len∧(ver=p.len→x=.pointer (some ⟨p.block,off,Option.none⟩))
 |.sm l ver off n sz,x=>x.oneCell'=true∧∀ p,c.S l=some p→ver≤p.len∧(ver=p.len→off+n*sz≤ver∧∃ ad cap,x=.slice ad n cap∧n≤cap ∧
   if p.real then (cap=0∨ad=some ⟨p.block,off,Option.none⟩)∧off+cap*sz≤p.size else cap=0)
 |.fn j cs,x=>∃ (g:Nat) (xs:Array Value),x=.func (.func g) #[] xs∧c.inv g=some j∧zbz c cs xs.toList
 |.mp l,x=>x.oneCell'=true∧∀ p,c.S l=some p→p.len=0→x=.map (some p.block)
 |.top,_=>True
def zbz (c:Ctx):List AV→List Value→Prop
 |[],ys=>ys=[]
 |x::xs,ys=>∃ y ys',ys=y::ys'∧rel c x y∧zbz c xs ys'
def relCs (c:Ctx):List AV→List Value→Prop
 |[],ys=>ys=[]
 |x::xs,ys=>∃ y ys',ys=y::ys'∧y.oneCell'=true∧rel c x y∧relCs c xs ys'
def zbt (c:Ctx) (a:Addr):Nat→List AV→Prop
 |_,[]=>True
 |k,x::xs=>(∃ y,c.w.cell? (a.add k)=some y∧y.oneCell'=true∧x.bare=true∧rel { c with S:=fun _=>Option.none } x y)∧zbt c a (k+1) xs
def zaE (c:Ctx) (sz:Nat) (a:Addr):Nat→List (List AV)→Prop
 |_,[]=>True
 |k,r::rs=>r.length=sz∧zbt c a k r∧zaE c sz a (k+sz) rs
end
theorem zef (a:Addr) (n:Nat):(a.add n).block=a.block:=by unfold Addr.add;split<;>rfl
theorem zh6 (a:Addr) (i j:Nat):(a.add i).add j=a.add (i+j):=by
 unfold Addr.add
 by_cases hi:i=0<;>by_cases hj:j=0<;>simp[hi,hj,Nat.add_assoc]
structure Ctx.Le (c c':Ctx):Prop where
 inv:c'.inv=c.inv
 size:c.w.heap.size≤c'.w.heap.size
 keep:∀ b,b<c.w.heap.size→¬c.A b→c'.w.heap[b]?=c.w.heap[b]?
 avoid:∀ b,b<c.w.heap.size→c'.A b→c.A b
def Stays (N:Nat) (S S':Nat→Option Place):Prop :=
 ∀ l,l<N→∀ p',S' l=some p'→∃ p,S l=some p∧p.len≤p'.len∧(p.len=p'.len→p'=p)
mutual
/-- All names in a value lie below N. -/
def AV.under (N:Nat):AV→Bool
 |.agg cs=>zbc N cs
 |.tup cs=>zbc N cs
 |.ptr l _ _=>Nat.blt l N
 |.sm l _ _ _ _=>Nat.blt l N
 |.mp l=>Nat.blt l N
 |.fn _ cs=>zbc N cs
 |.i _ _=>true|.b _=>true|.v _=>true|.u=>true|.s0 _=>true|.sl _ _=>true|.ip _ _ _ _=>true|.top=>true
def zbc (N:Nat):List AV→Bool
 |[]=>true
 |x::xs=>x.under N&&zbc N xs
end
theorem Ctx.Le.none {c c':Ctx} (h:c.Le c'):({ c with S:=fun _=>Option.none }:Ctx).Le { c' with S:=fun _=>Option.none }:=⟨h.inv,h.size,h.keep,h.avoid⟩
theorem zqI {c c':Ctx} (h:c.Le c') {p:Addr} (hb:p.block<c.w.heap.size) (hA:¬c.A p.block):c'.w.cell? p=c.w.cell? p :=
 World.cell?_of_block (w:=c.w) (h.keep p.block hb hA)
mutual
theorem zbS {N:Nat} {c c':Ctx} (h:c.Le c'):∀ (x:AV) (y:Value),(Stays N c.S c'.S∧x.under N=true∨c'.S=fun _=>Option.none)→rel c x y→rel c' x y
 |.i _ _,_,_,r=>by simpa only[rel] using r
 |.b _,_,_,r=>by simpa only[rel] using r
 |.v _,_,_,r=>by simpa only[rel] using r
 |.u,_,_,r=>by simpa only[rel] using r
 |.agg cs,y,s,r=>by
  simp only[rel]at r ⊢
  obtain ⟨xs,e,r⟩:=r
  exact ⟨xs,e,zf7 h cs _ (by simpa only[AV.under] using s) r⟩
 |.tup cs,y,s,r=>by
  simp only[rel]at r ⊢
  obtain ⟨xs,e,r⟩:=r
  exact ⟨xs,e,zbI h cs _ (by simpa only[AV.under] using s) r⟩
 |.s0 _,_,_,r=>by simpa only[rel] using r
 |.sl sz es,y,s,r=>by
  simp only[rel]at r ⊢
  obtain ⟨ad,cap,e,hc,hr⟩:=r
  refine ⟨ad,cap,e,hc,fun hne=>?_⟩
  obtain ⟨a,ea,hA,hlt,hrow⟩:=hr hne
  exact ⟨a,ea,fun ha=>hA (h.avoid _ hlt ha),Nat.lt_of_lt_of_le hlt h.size,zd2 (N:=N) h sz a hA hlt 0 es hrow⟩
 |.ip sz es i k,y,s,r=>by
  simp only[rel]at r ⊢
  obtain ⟨a,e,hA,hlt,hrow⟩:=r
  exact ⟨a,e,fun ha=>hA (h.avoid _ hlt ha),Nat.lt_of_lt_of_le hlt h.size,zd2 (N:=N) h sz a hA hlt 0 es hrow⟩
 |.ptr l ver off,y,s,r=>by
  simp only[rel]at r ⊢
  refine ⟨r.1, ?_⟩
  replace r:=r.2
  intro p' hp'
  rcases s with ⟨s,hb⟩|s
  ·simp only[AV.under,Nat.blt_eq]at hb
   obtain ⟨p,hp,hle,he⟩:=s l hb p' hp'
   obtain ⟨h1,h2⟩:=r p hp
   refine ⟨Nat.le_trans h1 hle,fun e=>?_⟩
   have e1:p.len=p'.len:=Nat.le_antisymm hle (e▸h1)
   rw[he e1];exact h2 (e.trans e1.symm)
  ·rw[s]at hp';cases hp'
 |.sm l ver off n sz,y,s,r=>by
  simp only[rel]at r ⊢
  refine ⟨r.1, ?_⟩
  replace r:=r.2
  intro p' hp'
  rcases s with ⟨s,hb⟩|s
  ·simp only[AV.under,Nat.blt_eq]at hb
   obtain ⟨p,hp,hle,he⟩:=s l hb p' hp'
   obtain ⟨h1,h2⟩:=r p hp
   refine ⟨Nat.le_trans h1 hle,fun e=>?_⟩
   have e1:p.len=p'.len:=Nat.le_antisymm hle (e▸h1)
   rw[he e1];exact h2 (e.trans e1.symm)
  ·rw[s]at hp';cases hp'
 |.fn j cs,y,s,r=>by
  simp only[rel]at r ⊢
  obtain ⟨g,xs,e,hi,r⟩:=r
  exact ⟨g,xs,e,by rw[h.inv];exact hi,zbI h cs _ (by simpa only[AV.under] using s) r⟩
 |.mp l,y,s,r=>by
  simp only[rel]at r ⊢
  refine ⟨r.1, ?_⟩
  replace r:=r.2
  intro p' hp' h0
  rcases s with ⟨s,hb⟩|s
  ·simp only[AV.under,Nat.blt_eq]at hb
   obtain ⟨p,hp,hle,he⟩:=s l hb p' hp'
   rw[he (by omega)];exact r p hp (by omega)
  ·rw[s]at hp';cases hp'
 |.top,_,_,_=>by simp only[rel]
theorem zbI {N:Nat} {c c':Ctx} (h:c.Le c'):∀ (xs:List AV) (ys:List Value),(Stays N c.S c'.S∧zbc N xs=true∨c'.S=fun _=>Option.none)→zbz c xs ys→zbz c' xs ys
 |[],_,_,r=>by simpa only[zbz] using r
 |x::xs,ys,s,r=>by
  simp only[zbz]at r ⊢
  obtain ⟨y,ys',e,r1,r2⟩:=r
  refine ⟨y,ys',e,zbS (N:=N) h x y ?_ r1,zbI (N:=N) h xs ys' ?_ r2⟩
  ·rcases s with ⟨s,hb⟩|s
   ·simp only[zbc,Bool.and_eq_true]at hb;exact .inl ⟨s,hb.1⟩
   ·exact .inr s
  ·rcases s with ⟨s,hb⟩|s
   ·simp only[zbc,Bool.and_eq_true]at hb;exact .inl ⟨s,hb.2⟩
   ·exact .inr s
theorem zf7 {N:Nat} {c c':Ctx} (h:c.Le c'):∀ (xs:List AV) (ys:List Value),(Stays N c.S c'.S∧zbc N xs=true∨c'.S=fun _=>Option.none)→relCs c xs ys→relCs c' xs ys
 |[],_,_,r=>by simpa only[relCs] using r
 |x::xs,ys,s,r=>by
  simp only[relCs]at r ⊢
  obtain ⟨y,ys',e,ho,r1,r2⟩:=r
  refine ⟨y,ys',e,ho,zbS (N:=N) h x y ?_ r1,zf7 (N:=N) h xs ys' ?_ r2⟩
  ·rcases s with ⟨s,hb⟩|s
   ·simp only[zbc,Bool.and_eq_true]at hb;exact .inl ⟨s,hb.1⟩
   ·exact .inr s
  ·rcases s with ⟨s,hb⟩|s
   ·simp only[zbc,Bool.and_eq_true]at hb;exact .inl ⟨s,hb.2⟩
   ·exact .inr s
theorem zhn {N:Nat} {c c':Ctx} (h:c.Le c') (a:Addr) (hA:¬c.A a.block) (hlt:a.block<c.w.heap.size):∀ (k:Nat) (xs:List AV),zbt c a k xs→zbt c' a k xs
 |_,[],_=>by simp only[zbt]
 |k,x::xs,r=>by
  simp only[zbt]at r ⊢
  obtain ⟨⟨y,hy,ho,hb,r1⟩,r2⟩:=r
  refine ⟨⟨y, ?_,ho,hb,zbS (N:=N) h.none x y (.inr rfl) r1⟩,zhn (N:=N) h a hA hlt (k+1) xs r2⟩
  rw[zqI h (by rw[zef];exact hlt) (by rw[zef];exact hA)];exact hy
theorem zd2 {N:Nat} {c c':Ctx} (h:c.Le c') (sz:Nat) (a:Addr) (hA:¬c.A a.block) (hlt:a.block<c.w.heap.size):∀ (k:Nat) (es:List (List AV)),zaE c sz a k es→zaE c' sz a k es
 |_,[],_=>by simp only[zaE]
 |k,r::rs,h'=>by
  simp only[zaE]at h' ⊢
  exact ⟨h'.1,zhn (N:=N) h a hA hlt k r h'.2.1,zd2 (N:=N) h sz a hA hlt (k+sz) rs h'.2.2⟩
end
mutual
/-- Of a value without names no named row matters. -/
theorem zfr {c:Ctx} {S:Nat→Option Place}:∀ (x:AV) (y:Value),x.bare=true→rel c x y→rel { c with S:=S } x y
 |.i _ _,_,_,r=>by simpa only[rel] using r
 |.b _,_,_,r=>by simpa only[rel] using r
 |.v _,_,_,r=>by simpa only[rel] using r
 |.u,_,_,r=>by simpa only[rel] using r
 |.agg cs,y,s,r=>by
  simp only[rel]at r ⊢
  obtain ⟨xs,e,r⟩:=r
  exact ⟨xs,e,zdw cs _ (by simpa only[AV.bare] using s) r⟩
 |.tup cs,y,s,r=>by
  simp only[rel]at r ⊢
  obtain ⟨xs,e,r⟩:=r
  exact ⟨xs,e,zho cs _ (by simpa only[AV.bare] using s) r⟩
 |.s0 _,_,_,r=>by simpa only[rel] using r
 |.sl sz es,y,s,r=>by
  simp only[rel]at r ⊢
  obtain ⟨ad,cap,e,hc,hr⟩:=r
  refine ⟨ad,cap,e,hc,fun hne=>?_⟩
  obtain ⟨a,ea,hA,hlt,hrow⟩:=hr hne
  exact ⟨a,ea,hA,hlt,zhm sz a 0 es hrow⟩
 |.ip sz es i k,y,s,r=>by
  simp only[rel]at r ⊢
  obtain ⟨a,e,hA,hlt,hrow⟩:=r
  exact ⟨a,e,hA,hlt,zhm sz a 0 es hrow⟩
 |.ptr l ver off,y,s,r=>by simp[AV.bare]at s
 |.sm l ver off n sz,y,s,r=>by simp[AV.bare]at s
 |.mp l,y,s,r=>by simp[AV.bare]at s
 |.fn j cs,y,s,r=>by
  simp only[rel]at r ⊢
  obtain ⟨g,xs,e,hi,r⟩:=r
  exact ⟨g,xs,e,hi,zho cs _ (by simpa only[AV.bare] using s) r⟩
 |.top,_,_,_=>by simp only[rel]
theorem zho {c:Ctx} {S:Nat→Option Place}:∀ (xs:List AV) (ys:List Value),zad xs=true→zbz c xs ys→zbz { c with S:=S } xs ys
 |[],_,_,r=>by simpa only[zbz] using r
 |x::xs,ys,s,r=>by
  simp only[zad,Bool.and_eq_true]at s
  simp only[zbz]at r ⊢
  obtain ⟨y,ys',e,r1,r2⟩:=r
  exact ⟨y,ys',e,zfr x y s.1 r1,zho xs ys' s.2 r2⟩
theorem zdw {c:Ctx} {S:Nat→Option Place}:∀ (xs:List AV) (ys:List Value),zad xs=true→relCs c xs ys→relCs { c with S:=S } xs ys
 |[],_,_,r=>by simpa only[relCs] using r
 |x::xs,ys,s,r=>by
  simp only[zad,Bool.and_eq_true]at s
  simp only[relCs]at r ⊢
  obtain ⟨y,ys',e,ho,r1,r2⟩:=r
  exact ⟨y,ys',e,ho,zfr x y s.1 r1,zdw xs ys' s.2 r2⟩
theorem zmM {c:Ctx} {S:Nat→Option Place} (a:Addr):∀ (k:Nat) (xs:List AV),zbt c a k xs→zbt { c with S:=S } a k xs
 |_,[],_=>by simp only[zbt]
 |k,x::xs,r=>by
  simp only[zbt]at r ⊢
  exact ⟨r.1,zmM a (k+1) xs r.2⟩
theorem zhm {c:Ctx} {S:Nat→Option Place} (sz:Nat) (a:Addr):∀ (k:Nat) (es:List (List AV)),zaE c sz a k es→zaE { c with S:=S } sz a k es
 |_,[],_=>by simp only[zaE]
 |k,r::rs,h'=>by
  simp only[zaE]at h' ⊢
  exact ⟨h'.1,zmM a k r h'.2.1,zhm sz a (k+sz) rs h'.2.2⟩
end
end Go.Eng
namespace Go.Eng
open Go.RowKit
theorem zav {c:Ctx}:∀ {xs:List AV} {ys:List Value},relCs c xs ys→xs.length=ys.length
 |[],_,h=>by simp only[relCs]at h;subst h;rfl
 |x::xs,_,h=>by
  simp only[relCs]at h
  obtain ⟨y,ys',rfl,_,_,h⟩:=h
  simp[zav h]
theorem zhr {c:Ctx}:∀ {xs:List AV} {ys:List Value} {i:Nat} {x:AV},relCs c xs ys→xs[i]?=some x→∃ y,ys[i]?=some y∧y.oneCell'=true∧rel c x y
 |[],_,_,_,_,h=>by simp at h
 |x::xs,_,0,_,h,e=>by
  simp only[relCs]at h
  obtain ⟨y,ys',rfl,h1,h2,_⟩:=h
  simp at e;subst e
  exact ⟨y,by simp,h1,h2⟩
 |x::xs,_,i+1,_,h,e=>by
  simp only[relCs]at h
  obtain ⟨y,ys',rfl,_,_,h⟩:=h
  simp at e
  simpa using zhr h e
theorem zdv {c:Ctx}:∀ {xs:List AV} {ys:List Value},relCs c xs ys→∀ y∈ys,y.oneCell'=true
 |[],_,h,y,hy=>by simp only[relCs]at h;subst h;cases hy
 |x::xs,_,h,y,hy=>by
  simp only[relCs]at h
  obtain ⟨y',ys',rfl,h1,_,h⟩:=h
  rcases List.mem_cons.1 hy with rfl|hy
  ·exact h1
  ·exact zdv h y hy
theorem zaT {c:Ctx}:∀ {xs xs':List AV} {ys ys':List Value},relCs c xs ys→relCs c xs' ys'→relCs c (xs++xs') (ys++ys')
 |[],_,_,_,h,h'=>by simp only[relCs]at h;subst h;simpa using h'
 |x::xs,_,_,_,h,h'=>by
  simp only[relCs]at h
  obtain ⟨y,ys0,rfl,h1,h2,h⟩:=h
  simp only[List.cons_append,relCs]
  exact ⟨y,_,rfl,h1,h2,zaT h h'⟩
theorem zbT {c:Ctx}:∀ {xs:List AV} {ys:List Value} (n:Nat),relCs c xs ys→relCs c (xs.take n) (ys.take n)
 |_,_,0,_=>by simp[relCs]
 |[],_,n+1,h=>by simp only[relCs]at h;subst h;simp[relCs]
 |x::xs,_,n+1,h=>by
  simp only[relCs]at h
  obtain ⟨y,ys',rfl,h1,h2,h⟩:=h
  simp only[List.take_succ_cons,relCs]
  exact ⟨y,_,rfl,h1,h2,zbT n h⟩
theorem zbU {c:Ctx}:∀ {xs:List AV} {ys:List Value} (n:Nat),relCs c xs ys→relCs c (xs.drop n) (ys.drop n)
 |_,_,0,h=>by simpa using h
 |[],_,n+1,h=>by simp only[relCs]at h;subst h;simp[relCs]
 |x::xs,_,n+1,h=>by
  simp only[relCs]at h
  obtain ⟨y,ys',rfl,h1,h2,h⟩:=h
  simpa using zbU n h
theorem zkd {c:Ctx}:∀ {xs:List AV} {ys:List Value} (n:Nat) {x:AV} {y:Value},relCs c xs ys→y.oneCell'=true→rel c x y→relCs c (xs.set n x) (ys.set n y)
 |[],_,_,_,_,h,_,_=>by simp only[relCs]at h;subst h;simp[relCs]
 |x::xs,_,0,_,_,h,h1,h2=>by
  simp only[relCs]at h
  obtain ⟨y,ys',rfl,_,_,h⟩:=h
  simp only[List.set_cons_zero,relCs]
  exact ⟨_,_,rfl,h1,h2,h⟩
 |x::xs,_,n+1,_,_,h,h1,h2=>by
  simp only[relCs]at h
  obtain ⟨y,ys',rfl,h3,h4,h⟩:=h
  simp only[List.set_cons_succ,relCs]
  exact ⟨_,_,rfl,h3,h4,zkd n h h1 h2⟩
theorem za9 {c:Ctx}:relCs c [] []:=by simp[relCs]
theorem zcr {c:Ctx} {x:AV} {xs:List AV} {y:Value} {ys:List Value} (h1:y.oneCell'=true) (h2:rel c x y) (h:relCs c xs ys):relCs c (x::xs) (y::ys):=by
 simp only[relCs];exact ⟨y,ys,rfl,h1,h2,h⟩
theorem zeT {c:Ctx}:∀ {xs:List AV} {ys:List Value},zbz c xs ys→xs.length=ys.length
 |[],_,h=>by simp only[zbz]at h;subst h;rfl
 |x::xs,_,h=>by
  simp only[zbz]at h
  obtain ⟨y,ys',rfl,_,h⟩:=h
  simp[zeT h]
theorem zmN {c:Ctx}:zbz c [] []:=by simp[zbz]
theorem zft {c:Ctx} {x:AV} {xs:List AV} {y:Value} {ys:List Value} (h2:rel c x y) (h:zbz c xs ys):zbz c (x::xs) (y::ys):=by
 simp only[zbz];exact ⟨y,ys,rfl,h2,h⟩
theorem zhp {c:Ctx}:∀ {xs xs':List AV} {ys ys':List Value},zbz c xs ys→zbz c xs' ys'→zbz c (xs++xs') (ys++ys')
 |[],_,_,_,h,h'=>by simp only[zbz]at h;subst h;simpa using h'
 |x::xs,_,_,_,h,h'=>by
  simp only[zbz]at h
  obtain ⟨y,ys0,rfl,h2,h⟩:=h
  simp only[List.cons_append,zbz]
  exact ⟨y,_,rfl,h2,zhp h h'⟩
theorem zjc {c:Ctx}:∀ {xs:List AV} {ys:List Value} {i:Nat} {x:AV},zbz c xs ys→xs[i]?=some x→∃ y,ys[i]?=some y∧rel c x y
 |[],_,_,_,_,h=>by simp at h
 |x::xs,_,0,_,h,e=>by
  simp only[zbz]at h
  obtain ⟨y,ys',rfl,h2,_⟩:=h
  simp at e;subst e
  exact ⟨y,by simp,h2⟩
 |x::xs,_,i+1,_,h,e=>by
  simp only[zbz]at h
  obtain ⟨y,ys',rfl,_,h⟩:=h
  simp at e
  simpa using zjc h e
theorem zdc:∀ (xs ys:List AV),zad (xs++ys)=(zad xs&&zad ys)
 |[],ys=>by simp[zad]
 |x::xs,ys=>by simp[zad,zdc xs ys,Bool.and_assoc]
theorem zgl:∀ (n:Nat) (xs:List AV),zad xs=true→zad (xs.take n)=true
 |0,_,_=>by simp[zad]
 |_+1,[],_=>by simp[zad]
 |n+1,x::xs,h=>by simp only[zad,Bool.and_eq_true]at h;simp[zad,h.1,zgl n xs h.2]
theorem zeE:∀ (n:Nat) (xs:List AV),zad xs=true→zad (xs.drop n)=true
 |0,_,h=>by simpa using h
 |_+1,[],_=>by simp[zad]
 |n+1,x::xs,h=>by simp only[zad,Bool.and_eq_true]at h;simpa using zeE n xs h.2
theorem zkU:∀ {xs:List AV} {i:Nat} {x:AV},zad xs=true→xs[i]?=some x→x.bare=true
 |[],_,_,_,h=>by simp at h
 |x::xs,0,_,h,e=>by simp only[zad,Bool.and_eq_true]at h;simp at e;subst e;exact h.1
 |x::xs,i+1,_,h,e=>by simp only[zad,Bool.and_eq_true]at h;simp at e;exact zkU h.2 e
theorem zhl {c:Ctx} {sz:Nat} {a:Addr}:∀ {k:Nat} {es:List (List AV)} {i:Nat} {r:List AV},zaE c sz a k es→es[i]?=some r→r.length=sz∧zbt c a (k+i*sz) r
 |_,[],_,_,_,h=>by simp at h
 |k,r::rs,0,_,h,e=>by
  simp only[zaE]at h
  simp at e;subst e
  exact ⟨h.1,by simpa using h.2.1⟩
 |k,r::rs,i+1,_,h,e=>by
  simp only[zaE]at h
  simp at e
  have:=zhl h.2.2 e
  rw[show k+(i+1)*sz=k+sz+i*sz by rw[Nat.add_mul];omega]
  exact this
theorem znJ {c:Ctx} {a:Addr}:∀ {k:Nat} {r:List AV} {j:Nat} {x:AV},zbt c a k r→r[j]?=some x→∃ y,c.w.cell? (a.add (k+j))=some y∧y.oneCell'=true∧x.bare=true∧rel { c with S:=fun _=>none } x y
 |_,[],_,_,_,h=>by simp at h
 |k,x::xs,0,_,h,e=>by
  simp only[zbt]at h
  simp at e;subst e
  exact h.1
 |k,x::xs,j+1,_,h,e=>by
  simp only[zbt]at h
  simp at e
  have:=znJ h.2 e
  rw[show k+(j+1)=k+1+j by omega]
  exact this
theorem zeS {c:Ctx} {a:Addr}:∀ {k:Nat} {r:List AV},zbt c a k r→zad r=true∧∃ ys:List Value,relCs { c with S:=fun _=>none } r ys∧∀ j u,ys[j]?=some u→c.w.cell? (a.add (k+j))=some u
 |_,[],_=>⟨rfl,[],za9,by simp⟩
 |k,x::xs,h=>by
  simp only[zbt]at h
  obtain ⟨⟨y,hy,ho,hb,hr⟩,h⟩:=h
  obtain ⟨hbs,ys,h1,h2⟩:=zeS h
  refine ⟨by simp[zad,hb,hbs],y::ys,zcr ho hr h1,fun j u hu=>?_⟩
  cases j with
  |zero=>simp at hu;subst hu;exact hy
  |succ j=>simp at hu;have:=h2 j u hu;rw[show k+(j+1)=k+1+j by omega];exact this
theorem zfs {c:Ctx} {a:Addr}:∀ {k:Nat} {r:List AV} {ys:List Value},zad r=true→relCs { c with S:=fun _=>none } r ys→(∀ j u,ys[j]?=some u→c.w.cell? (a.add (k+j))=some u)→zbt c a k r
 |_,[],_,_,_,_=>by simp only[zbt]
 |k,x::xs,_,hb,h,hc=>by
  simp only[zad,Bool.and_eq_true]at hb
  simp only[relCs]at h
  obtain ⟨y,ys',rfl,ho,hr,h⟩:=h
  simp only[zbt]
  refine ⟨⟨y,hc 0 y (by simp),ho,hb.1,hr⟩,zfs hb.2 h fun j u hu=>?_⟩
  have:=hc (j+1) u (by simpa using hu)
  rwa [show k+(j+1)=k+1+j by omega]at this
theorem zgs {c:Ctx} {sz:Nat} {a:Addr}:∀ {k:Nat} {es:List (List AV)},zaE c sz a k es→es.flatten.length=es.length*sz∧zad es.flatten=true∧∃ ys:List Value,relCs { c with S:=fun _=>none } es.flatten ys∧∀ j u,ys[j]?=some u→c.w.cell? (a.add (k+j))=some u
 |_,[],_=>⟨by simp,rfl,[],za9,by simp⟩
 |k,r::rs,h=>by
  simp only[zaE]at h
  obtain ⟨hl,hr,h⟩:=h
  obtain ⟨hb1,ys1,h1,h2⟩:=zeS hr
  obtain ⟨hl',hb2,ys2,h3,h4⟩:=zgs h
  refine ⟨by simp[hl,hl',Nat.add_mul];omega,by rw[List.flatten_cons,zdc,hb1,hb2];rfl,ys1++ys2,by rw[List.flatten_cons];exact zaT h1 h3,fun j u hu=>?_⟩
  have e:=zav h1
  rw[List.getElem?_append]at hu
  split at hu
  ·exact h2 j u hu
  ·have:=h4 _ u hu
   rwa [show k+sz+(j-ys1.length)=k+j by omega]at this
def zbv (sz:Nat):Nat→List AV→List (List AV)
 |0,_=>[]
 |n+1,xs=>xs.take sz::zbv sz n (xs.drop sz)
theorem zce (sz:Nat):∀ (n:Nat) (xs:List AV),(zbv sz n xs).length=n
 |0,_=>rfl
 |n+1,xs=>by simp[zbv,zce sz n]
theorem zeP (sz:Nat):∀ (es:List (List AV)),(∀ r∈es,r.length=sz)→zbv sz es.length es.flatten=es
 |[],_=>rfl
 |r::rs,h=>by
  have hr:r.length=sz:=h r (by simp)
  simp only[List.length_cons,List.flatten_cons,zbv]
  rw[List.take_left' hr,List.drop_left' hr,zeP sz rs (fun r hr=>h r (by simp[hr]))]
theorem zdf {c:Ctx} {sz:Nat} {a:Addr}:∀ {k:Nat} (n:Nat) {xs:List AV} {ys:List Value},n*sz≤xs.length→zad xs=true→relCs { c with S:=fun _=>none } xs ys→(∀ j u,ys[j]?=some u→c.w.cell? (a.add (k+j))=some u)→zaE c sz a k (zbv sz n xs)
 |_,0,_,_,_,_,_,_=>by simp only[zbv,zaE]
 |k,n+1,xs,ys,hl,hb,h,hc=>by
  rw[Nat.add_mul]at hl
  simp only[zbv,zaE]
  refine ⟨by rw[List.length_take];omega,zfs (zgl sz xs hb) (zbT sz h) fun j u hu=>?_,zdf n (by rw[List.length_drop];omega) (zeE sz xs hb) (zbU sz h) fun j u hu=>?_⟩
  ·rw[List.getElem?_take]at hu
   split at hu
   ·exact hc j u hu
   ·cases hu
  ·rw[List.getElem?_drop]at hu
   have:=hc _ u hu
   rwa [show k+sz+j=k+(sz+j) by omega]
abbrev AF:=List (Nat×AV)
def za3:List (Nat×AV)→Nat→AV
 |[],_=>.top
 |(j,x)::r,i=>if i=j then x else za3 r i
def za5:List (Nat×AV)→Nat→AV→List (Nat×AV)
 |[],i,x=>[(i,x)]
 |(j,y)::r,i,x=>if i=j then (i,x)::r else if i<j then (i,x)::(j,y)::r else (j,y)::za5 r i x
theorem zaU:∀ (φ:AF) (i:Nat) (x:AV) (k:Nat),za3 (za5 φ i x) k=if k=i then x else za3 φ k
 |[],i,x,k=>by simp[za5,za3]
 |(j,y)::r,i,x,k=>by
  simp only[za5]
  split
  ·subst_vars;simp only[za3];split<;>rfl
  ·split
   ·simp only[za3]
   ·simp only[za3,zaU r i x k]
    split<;>split<;>first|rfl|(subst_vars;contradiction)
def ziF:List (Nat×AV)→Nat→AV→List (Nat×AV)
 |[],_,_=>[]
 |(j,y)::r,i,x=>if i=j then (i,x)::r else (j,y)::ziF r i x
theorem zdO {x:AV}:∀ {φ:AF} {i:Nat},za3 φ i=x→ziF φ i x=φ
 |[],_,_=>rfl
 |(j,y)::r,i,h=>by
  simp only[za3]at h
  simp only[ziF]
  split at h
  ·rename_i e;rw[if_pos e,e,h]
  ·rename_i e;rw[if_neg e,zdO h]
theorem zd9 {a b:Nat} (hne:a≠b) (x y:AV):∀ φ:AF,za5 (za5 φ a x) b y=za5 (za5 φ b y) a x
 |[]=>by
  simp only[za5]
  rcases Nat.lt_or_gt_of_ne hne with h|h
  ·rw[if_neg (Ne.symm hne),if_neg (by omega),if_neg hne,if_pos h]
  ·rw[if_neg (Ne.symm hne),if_pos h,if_neg hne,if_neg (by omega)]
 |(j,z)::r=>by
  have ih:=zd9 hne x y r
  simp only[za5]
  rcases Nat.lt_trichotomy a j with ha|ha|ha<;>rcases Nat.lt_trichotomy b j with hb|hb|hb
  all_goals (try subst ha)<;>(try subst hb)
  all_goals first|(exact absurd rfl hne)|skip
  all_goals (repeat' split)<;>simp only[za5]<;>(repeat' split)<;>first|rfl|omega|(exfalso;contradiction)|(exact absurd trivial (by assumption))|(simp only[ih];done)|skip
inductive AO where
 |cells (cs:List AV) (real:Bool)
 |imap (kvs:List (Int×Int))
 |rsv
 deriving Inhabited
abbrev AS:=List (Nat×AO)
def AO.real:AO→Bool|.cells _ r=>r|.imap _=>true|.rsv=>false
def zax:List (Nat×AO)→Nat→Option AO
 |[],_=>none
 |(j,x)::r,i=>if i=j then some x else zax r i
def zaQ:List (Nat×AO)→Nat→AO→List (Nat×AO)
 |[],i,x=>[(i,x)]
 |(j,y)::r,i,x=>if i=j then (i,x)::r else if i<j then (i,x)::(j,y)::r else (j,y)::zaQ r i x
def zir:List (Nat×AO)→Nat→List (Nat×AO)
 |[],_=>[]
 |(j,y)::r,i=>if i=j then zir r i else (j,y)::zir r i
theorem zaf:∀ (σ:AS) (i:Nat) (x:AO) (k:Nat),zax (zaQ σ i x) k=if k=i then some x else zax σ k
 |[],i,x,k=>by simp[zaQ,zax]
 |(j,y)::r,i,x,k=>by
  simp only[zaQ]
  split
  ·subst_vars;simp only[zax];split<;>rfl
  ·split
   ·simp only[zax]
   ·simp only[zax,zaf r i x k]
    split<;>split<;>first|rfl|(subst_vars;contradiction)
theorem zfi:∀ (σ:AS) (i k:Nat),zax (zir σ i) k=if k=i then none else zax σ k
 |[],i,k=>by simp[zir,zax]
 |(j,y)::r,i,k=>by
  simp only[zir]
  split
  ·rename_i h;subst h;rw[zfi r i k];simp only[zax];split<;>rfl
  ·simp only[zax,zfi r i k]
   split<;>split<;>first|rfl|(subst_vars;contradiction)
def zaG (w:World) (b:Nat):Nat:=match w.heap[b]? with|some (.cells xs _ _)=>xs.size|_=>0
theorem zdb {w w':World} {b b':Nat} (h:w'.heap[b']?=w.heap[b]?):zaG w' b'=zaG w b:=by simp[zaG,h]
def zah (β:Nat→Nat) (w:World) (σ:AS) (l:Nat):Option Place :=
 match zax σ l with
 |some (.cells cs true)=>some ⟨β l,cs.length,zaG w (β l),true⟩
 |some (.cells cs false)=>some ⟨0,cs.length,0,false⟩
 |some (.imap _)=>some ⟨β l,0,0,true⟩
 |some .rsv=>some ⟨0,0,0,false⟩
 |none=>none
def avoid (M:Nat→Prop) (σ:AS) (β:Nat→Nat) (b:Nat):Prop:=M b∨∃ l o,zax σ l=some o∧o.real=true∧β l=b
def ctx (inv:Nat→Option Nat) (M:Nat→Prop) (σ:AS) (β:Nat→Nat) (w:World):Ctx:=⟨inv,w,avoid M σ β,zah β w σ⟩
structure Mem (inv:Nat→Option Nat) (w0:World) (M:Nat→Prop) (σ:AS) (β:Nat→Nat) (w:World):Prop where
 below:Below w0.heap.size w0 w
 inj:∀ l l' o o',zax σ l=some o→zax σ l'=some o'→o.real=true→o'.real=true→β l=β l'→l=l'
 own:∀ l o,zax σ l=some o→o.real=true→w0.heap.size≤β l∧β l<w.heap.size
 cells:∀ l cs,zax σ l=some (.cells cs true)→∃ xs ty,w.heap[β l]?=some (.cells xs ty (0,0))∧cs.length≤xs.size∧relCs (ctx inv M σ β w) cs (xs.toList.take cs.length)
 ghost:∀ l cs,zax σ l=some (.cells cs false)→cs=[]
 maps:∀ l kvs,zax σ l=some (.imap kvs)→∃ es clk,w.heap[β l]?=some (.map es clk)∧es.toList.map (fun e=>(e.key,e.val))=kvs.map fun p=>(Value.int .i64 p.1,Value.int .i64 p.2)
def Ext (N:Nat) (c c':Ctx):Prop:=c.Le c'∧Stays N c.S c'.S
theorem Ctx.Le.refl (c:Ctx):c.Le c:=⟨rfl,Nat.le_refl _,fun _ _ _=>rfl,fun _ _ h=>h⟩
theorem Ctx.Le.trans {a b c:Ctx} (h:a.Le b) (k:b.Le c):a.Le c :=
 ⟨k.inv.trans h.inv,Nat.le_trans h.size k.size,fun i hi hA=>(k.keep i (Nat.lt_of_lt_of_le hi h.size) (fun x=>hA (h.avoid i hi x))).trans (h.keep i hi hA),
  fun i hi x=>h.avoid i hi (k.avoid i (Nat.lt_of_lt_of_le hi h.size) x)⟩
theorem Stays.refl (N:Nat) (S:Nat→Option Place):Stays N S S:=fun _ _ p' h=>⟨p',h,Nat.le_refl _,fun _=>rfl⟩
theorem Stays.trans {N:Nat} {S T U:Nat→Option Place} (h:Stays N S T) (k:Stays N T U):Stays N S U:=by
 intro l hl p' hp'
 obtain ⟨q,hq,h1,h2⟩:=k l hl p' hp'
 obtain ⟨p,hp,h3,h4⟩:=h l hl q hq
 refine ⟨p,hp,Nat.le_trans h3 h1,fun e=>?_⟩
 have e1:p.len=q.len:=by omega
 rw[h2 (by omega),h4 e1]
theorem Stays.mono {N N':Nat} {S T:Nat→Option Place} (h:Stays N S T) (hN:N'≤N):Stays N' S T:=fun l hl=>h l (Nat.lt_of_lt_of_le hl hN)
theorem Ext.refl (N:Nat) (c:Ctx):Ext N c c:=⟨.refl c,.refl N _⟩
theorem Ext.trans {N:Nat} {a b c:Ctx} (h:Ext N a b) (k:Ext N b c):Ext N a c:=⟨h.1.trans k.1,h.2.trans k.2⟩
theorem Ext.mono {N N':Nat} {a b:Ctx} (h:Ext N a b) (hN:N'≤N):Ext N' a b:=⟨h.1,h.2.mono hN⟩
theorem Ext.rel {N:Nat} {c c':Ctx} (h:Ext N c c') {x:AV} {y:Value} (hx:x.under N=true) (r:rel c x y):Go.Eng.rel c' x y:=zbS (N:=N) h.1 x y (.inl ⟨h.2,hx⟩) r
theorem Ext.relCs {N:Nat} {c c':Ctx} (h:Ext N c c') {x:List AV} {y:List Value} (hx:zbc N x=true) (r:relCs c x y):Go.Eng.relCs c' x y:=zf7 (N:=N) h.1 x y (.inl ⟨h.2,hx⟩) r
theorem Ext.relL {N:Nat} {c c':Ctx} (h:Ext N c c') {x:List AV} {y:List Value} (hx:zbc N x=true) (r:zbz c x y):Go.Eng.zbz c' x y:=zbI (N:=N) h.1 x y (.inl ⟨h.2,hx⟩) r
def mx (a b:Nat):Nat:=if a≤b then b else a
theorem zaF (a b:Nat):a≤mx a b:=by unfold mx;split<;>omega
theorem zal (a b:Nat):b≤mx a b:=by unfold mx;split<;>omega
mutual
def AV.bound:AV→Nat
 |.agg cs=>zab cs
 |.tup cs=>zab cs
 |.ptr l _ _=>l+1
 |.sm l _ _ _ _=>l+1
 |.mp l=>l+1
 |.fn _ cs=>zab cs
 |.i _ _=>0|.b _=>0|.v _=>0|.u=>0|.s0 _=>0|.sl _ _=>0|.ip _ _ _ _=>0|.top=>0
def zab:List AV→Nat
 |[]=>0
 |x::xs=>mx x.bound (zab xs)
end
mutual
theorem zaI {N:Nat}:∀ (x:AV),x.bound≤N→x.under N=true
 |.agg cs,h=>by simp only[AV.under];exact zat cs (by simpa only[AV.bound] using h)
 |.tup cs,h=>by simp only[AV.under];exact zat cs (by simpa only[AV.bound] using h)
 |.fn _ cs,h=>by simp only[AV.under];exact zat cs (by simpa only[AV.bound] using h)
 |.ptr l _ _,h=>by simp only[AV.under,Nat.blt_eq];simp only[AV.bound]at h;omega
 |.sm l _ _ _ _,h=>by simp only[AV.under,Nat.blt_eq];simp only[AV.bound]at h;omega
 |.mp l,h=>by simp only[AV.under,Nat.blt_eq];simp only[AV.bound]at h;omega
 |.i _ _,_=>by simp only[AV.under]
 |.b _,_=>by simp only[AV.under]
 |.v _,_=>by simp only[AV.under]
 |.u,_=>by simp only[AV.under]
 |.s0 _,_=>by simp only[AV.under]
 |.sl _ _,_=>by simp only[AV.under]
 |.ip _ _ _ _,_=>by simp only[AV.under]
 |.top,_=>by simp only[AV.under]
theorem zat {N:Nat}:∀ (xs:List AV),zab xs≤N→zbc N xs=true
 |[],_=>by simp only[zbc]
 |x::xs,h=>by
  simp only[zab]at h
  simp only[zbc,Bool.and_eq_true]
  exact ⟨zaI x (Nat.le_trans (zaF _ _) h),zat xs (Nat.le_trans (zal _ _) h)⟩
end
mutual
theorem zgk:∀ (x:AV),x.bare=true→x.bound=0
 |.agg cs,h=>by simp only[AV.bound];exact za7 cs (by simpa only[AV.bare] using h)
 |.tup cs,h=>by simp only[AV.bound];exact za7 cs (by simpa only[AV.bare] using h)
 |.fn _ cs,h=>by simp only[AV.bound];exact za7 cs (by simpa only[AV.bare] using h)
 |.ptr l _ _,h=>by simp[AV.bare]at h
 |.sm l _ _ _ _,h=>by simp[AV.bare]at h
 |.mp l,h=>by simp[AV.bare]at h
 |.i _ _,_=>by simp only[AV.bound]
 |.b _,_=>by simp only[AV.bound]
 |.v _,_=>by simp only[AV.bound]
 |.u,_=>by simp only[AV.bound]
 |.s0 _,_=>by simp only[AV.bound]
 |.sl _ _,_=>by simp only[AV.bound]
 |.ip _ _ _ _,_=>by simp only[AV.bound]
 |.top,_=>by simp only[AV.bound]
theorem za7:∀ (xs:List AV),zad xs=true→zab xs=0
 |[],_=>by simp only[zab]
 |x::xs,h=>by
  simp only[zad,Bool.and_eq_true]at h
  simp only[zab,zgk x h.1,za7 xs h.2,mx]
  split<;>rfl
end
def zaC:List (Nat×AV)→Nat
 |[]=>0
 |p::r=>mx p.2.bound (zaC r)
def AO.bound:AO→Nat|.cells cs _=>zab cs|.imap _=>0|.rsv=>0
def zaR:List (Nat×AO)→Nat
 |[]=>0
 |p::r=>mx (p.1+1) (mx p.2.bound (zaR r))
def zas (N:Nat) (φ:List (Nat×AV)) (σ:List (Nat×AO)):Nat:=mx N (mx (zaC φ) (zaR σ))
theorem zbC:∀ (φ:AF) (i:Nat),(za3 φ i).bound≤zaC φ
 |[],_=>by simp[za3,AV.bound]
 |p::r,i=>by
  simp only[za3,zaC]
  split
  ·exact zaF _ _
  ·exact Nat.le_trans (zbC r i) (zal _ _)
theorem zap:∀ (σ:AS) (l:Nat) (o:AO),zax σ l=some o→l<zaR σ∧o.bound≤zaR σ
 |[],_,_,h=>by simp[zax]at h
 |p::r,l,o,h=>by
  simp only[zax]at h
  simp only[zaR]
  have h1:=zaF (p.1+1) (mx p.2.bound (zaR r))
  have h2:=zal (p.1+1) (mx p.2.bound (zaR r))
  have h3:=zaF p.2.bound (zaR r)
  have h4:=zal p.2.bound (zaR r)
  split at h
  ·rename_i e;simp at h;subst h;subst e;exact ⟨by omega,by omega⟩
  ·have:=zap r l o h;exact ⟨by omega,by omega⟩
section
variable {inv:Nat→Option Nat} {w0:World} {M:Nat→Prop} {σ σ':AS} {β:Nat→Nat} {w w':World}
theorem place_eq (h:∀ l o,zax σ l=some o→o.real=true→w'.heap[β l]?=w.heap[β l]?):zah β w' σ=zah β w σ:=by
 funext l
 unfold zah
 cases e:zax σ l with
 |none=>rfl
 |some o =>
  cases o with
  |imap kvs=>rfl
  |rsv=>rfl
  |cells cs r =>
   cases r with
   |true=>simp only;rw[zdb (h l _ e rfl)]
   |false=>rfl
theorem Mem.call (h:Mem inv w0 M σ β w) (hb:Below w.heap.size w w') (N:Nat):Mem inv w0 M σ β w'∧Ext N (ctx inv M σ β w) (ctx inv M σ β w'):=by
 have hpl:zah β w' σ=zah β w σ:=place_eq fun l o e hr=>hb.block _ (h.own l o e hr).2
 have hx:∀ N,Ext N (ctx inv M σ β w) (ctx inv M σ β w'):=fun N =>
  ⟨⟨rfl,hb.size,fun b hlt _=>hb.block b hlt,fun _ _ x=>x⟩,by show Stays N (zah β w σ) (zah β w' σ);rw[hpl];exact .refl N _⟩
 refine ⟨⟨h.below.trans (hb.mono h.below.size),h.inj,fun l o e hr=>?_,fun l cs e=>?_,h.ghost,fun l kvs e=>?_⟩,hx N⟩
 ·have:=h.own l o e hr;exact ⟨this.1,Nat.lt_of_lt_of_le this.2 hb.size⟩
 ·obtain ⟨xs,ty,e1,e2,e3⟩:=h.cells l cs e
  exact ⟨xs,ty,(hb.block _ (h.own l _ e rfl).2).trans e1,e2,(hx (zab cs)).relCs (zat cs (Nat.le_refl _)) e3⟩
 ·obtain ⟨es,clk,e1,e2⟩:=h.maps l kvs e
  exact ⟨es,clk,(hb.block _ (h.own l _ e rfl).2).trans e1,e2⟩
theorem Mem.drop (h:Mem inv w0 M σ β w) (hs:∀ l o,zax σ' l=some o→zax σ l=some o) (N:Nat):Mem inv w0 M σ' β w∧Ext N (ctx inv M σ β w) (ctx inv M σ' β w):=by
 have hst:∀ N,Stays N (zah β w σ) (zah β w σ'):=by
  intro N l _ p' hp'
  refine ⟨p', ?_,Nat.le_refl _,fun _=>rfl⟩
  unfold zah at hp' ⊢
  cases e:zax σ' l with
  |none=>rw[e]at hp';cases hp'
  |some o=>rw[e]at hp';rw[hs l o e];exact hp'
 have hav:∀ b,avoid M σ' β b→avoid M σ β b:=by
  rintro b (hm|⟨l,o,e,hr,hb⟩)
  ·exact .inl hm
  ·exact .inr ⟨l,o,hs l o e,hr,hb⟩
 have hx:∀ N,Ext N (ctx inv M σ β w) (ctx inv M σ' β w):=fun N=>⟨⟨rfl,Nat.le_refl _,fun _ _ _=>rfl,fun b _=>hav b⟩,hst N⟩
 refine ⟨⟨h.below,fun l l' o o' e e'=>h.inj l l' o o' (hs _ _ e) (hs _ _ e'),fun l o e=>h.own l o (hs _ _ e),fun l cs e=>?_,fun l cs e=>h.ghost l cs (hs _ _ e),fun l kvs e=>h.maps l kvs (hs _ _ e)⟩,hx N⟩
 obtain ⟨xs,ty,e1,e2,e3⟩:=h.cells l cs (hs _ _ e)
 exact ⟨xs,ty,e1,e2,(hx (zab cs)).relCs (zat cs (Nat.le_refl _)) e3⟩
def upd (β:Nat→Nat) (l b:Nat):Nat→Nat:=fun k=>if k=l then b else β k
theorem zaZ (β:Nat→Nat) (l b:Nat):upd β l b l=b:=if_pos rfl
theorem zaB (β:Nat→Nat) {l k:Nat} (b:Nat) (h:k≠l):upd β l b k=β k:=if_neg h
theorem Mem.put {l b':Nat} {cs':List AV} {xs':Array Value} {ty:TypeId} {N:Nat} (h:Mem inv w0 M σ β w) (hb:Below w0.heap.size w0 w') (hsz:w.heap.size≤w'.heap.size)
  (hk:∀ b,b<w.heap.size→b≠b'→w'.heap[b]?=w.heap[b]?) (hn:w'.heap[b']?=some (.cells xs' ty (0,0))) (hlen:cs'.length≤xs'.size) (hb0:w0.heap.size≤b')
  (hother:∀ l' o',l'≠l→zax σ l'=some o'→o'.real=true→β l'≠b') (hwas:w.heap.size≤b'∨∃ o,zax σ l=some o∧o.real=true∧β l=b')
  (hN:∀ l' o',zax σ l'=some o'→l'≠l→o'.bound≤N) (hcs:zab cs'≤N)
  (hst:l<N→∀ p',some (⟨b',cs'.length,xs'.size,true⟩:Place)=some p'→∃ p,zah β w σ l=some p∧p.len≤p'.len∧(p.len=p'.len→p'=p))
  (hrel:relCs (ctx inv M σ β w) cs' (xs'.toList.take cs'.length)) :
  Mem inv w0 M (zaQ σ l (.cells cs' true)) (upd β l b') w'∧Ext N (ctx inv M σ β w) (ctx inv M (zaQ σ l (.cells cs' true)) (upd β l b') w'):=by
 have hsame:∀ l' o',l'≠l→zax σ l'=some o'→o'.real=true→w'.heap[β l']?=w.heap[β l']?:=fun l' o' hne e hr =>
  hk _ (h.own l' o' e hr).2 (hother l' o' hne e hr)
 have hpl:∀ l',l'≠l→zah (upd β l b') w' (zaQ σ l (.cells cs' true)) l'=zah β w σ l':=by
  intro l' hne
  unfold zah
  rw[zaf,if_neg hne]
  cases e:zax σ l' with
  |none=>rfl
  |some o =>
   cases o with
   |imap kvs=>simp only[zaB β b' hne]
   |rsv=>rfl
   |cells cs r =>
    cases r with
    |true=>simp only[zaB β b' hne];rw[zdb (hsame l' _ hne e rfl)]
    |false=>rfl
 have hpl0:zah (upd β l b') w' (zaQ σ l (.cells cs' true)) l=some ⟨b',cs'.length,xs'.size,true⟩:=by
  unfold zah
  rw[zaf,if_pos rfl]
  simp[zaZ,zaG,hn]
 have hblt:b'<w'.heap.size:=by
  rcases Nat.lt_or_ge b' w'.heap.size with hlt|hge
  ·exact hlt
  ·rw[Array.getElem?_eq_none hge]at hn;cases hn
 have hx:Ext N (ctx inv M σ β w) (ctx inv M (zaQ σ l (.cells cs' true)) (upd β l b') w'):=by
  refine ⟨⟨rfl,hsz,fun b hlt hA=>?_,fun b hlt hA=>?_⟩,fun l' hl' p' hp'=>?_⟩
  ·refine hk b hlt fun e=>hA ?_
   rcases hwas with hw|⟨o,e1,e2,e3⟩
   ·exact absurd (show b<w.heap.size from hlt) (by omega)
   ·exact .inr ⟨l,o,e1,e2,e3.trans e.symm⟩
  ·rcases hA with hm|⟨l',o,e1,e2,e3⟩
   ·exact .inl hm
   ·by_cases hne:l'=l
    ·subst hne
     rw[zaZ]at e3
     subst e3
     rcases hwas with hw|⟨o,e1,e2,e3⟩
     ·exact absurd (show b'<w.heap.size from hlt) (by omega)
     ·exact .inr ⟨_,o,e1,e2,e3⟩
    ·rw[zaf,if_neg hne]at e1
     rw[zaB β b' hne]at e3
     exact .inr ⟨l',o,e1,e2,e3⟩
  ·by_cases hne:l'=l
   ·subst hne
    exact hst hl' p' (hpl0.symm.trans hp')
   ·exact ⟨p',(hpl l' hne).symm.trans hp',Nat.le_refl _,fun _=>rfl⟩
 refine ⟨⟨hb,fun l1 l2 o1 o2 e1 e2 r1 r2 he=>?_,fun l1 o1 e1 r1=>?_,fun l1 cs e1=>?_,fun l1 cs e1=>?_,fun l1 kvs e1=>?_⟩,hx⟩
 ·rw[zaf]at e1 e2
  by_cases h1:l1=l<;>by_cases h2:l2=l
  ·rw[h1,h2]
  ·rw[if_neg h2]at e2
   rw[h1,zaZ,zaB β b' h2]at he
   exact absurd he.symm (hother l2 o2 h2 e2 r2)
  ·rw[if_neg h1]at e1
   rw[h2,zaZ,zaB β b' h1]at he
   exact absurd he (hother l1 o1 h1 e1 r1)
  ·rw[if_neg h1]at e1
   rw[if_neg h2]at e2
   rw[zaB β b' h1,zaB β b' h2]at he
   exact h.inj l1 l2 o1 o2 e1 e2 r1 r2 he
 ·rw[zaf]at e1
  by_cases h1:l1=l
  ·rw[h1,zaZ];exact ⟨hb0,hblt⟩
  ·rw[if_neg h1]at e1
   rw[zaB β b' h1]
   have:=h.own l1 o1 e1 r1
   exact ⟨this.1,Nat.lt_of_lt_of_le this.2 hsz⟩
 ·rw[zaf]at e1
  by_cases h1:l1=l
  ·rw[if_pos h1]at e1
   simp at e1
   subst e1
   rw[h1,zaZ]
   exact ⟨xs',ty,hn,hlen,hx.relCs (zat _ hcs) hrel⟩
  ·rw[if_neg h1]at e1
   rw[zaB β b' h1]
   obtain ⟨xs,ty1,e2,e3,e4⟩:=h.cells l1 cs e1
   exact ⟨xs,ty1,(hsame l1 _ h1 e1 rfl).trans e2,e3,hx.relCs (zat _ (hN l1 _ e1 h1)) e4⟩
 ·rw[zaf]at e1
  by_cases h1:l1=l
  ·rw[if_pos h1]at e1;simp at e1
  ·rw[if_neg h1]at e1;exact h.ghost l1 cs e1
 ·rw[zaf]at e1
  by_cases h1:l1=l
  ·rw[if_pos h1]at e1;simp at e1
  ·rw[if_neg h1]at e1
   rw[zaB β b' h1]
   obtain ⟨es,clk,e2,e3⟩:=h.maps l1 kvs e1
   exact ⟨es,clk,(hsame l1 _ h1 e1 rfl).trans e2,e3⟩
theorem Mem.put_imap {l b':Nat} {kvs:List (Int×Int)} {es:Array MapEntry} {clk:Nat} {N:Nat} (h:Mem inv w0 M σ β w) (hb:Below w0.heap.size w0 w') (hsz:w.heap.size≤w'.heap.size)
  (hk:∀ b,b<w.heap.size→b≠b'→w'.heap[b]?=w.heap[b]?) (hn:w'.heap[b']?=some (.map es clk)) (hb0:w0.heap.size≤b')
  (hother:∀ l' o',l'≠l→zax σ l'=some o'→o'.real=true→β l'≠b') (hwas:w.heap.size≤b'∨∃ kvs0,zax σ l=some (.imap kvs0)∧β l=b') (hl:w.heap.size≤b'→zaR σ≤l)
  (hN:zaR σ≤N) (hlN:w.heap.size≤b'→N≤l) (hrel:es.toList.map (fun e=>(e.key,e.val))=kvs.map fun p=>(Value.int .i64 p.1,Value.int .i64 p.2)) :
  Mem inv w0 M (zaQ σ l (.imap kvs)) (upd β l b') w'∧Ext N (ctx inv M σ β w) (ctx inv M (zaQ σ l (.imap kvs)) (upd β l b') w')∧zah (upd β l b') w' (zaQ σ l (.imap kvs)) l=some ⟨b',0,0,true⟩:=by
 have hsame:∀ l' o',l'≠l→zax σ l'=some o'→o'.real=true→w'.heap[β l']?=w.heap[β l']?:=fun l' o' hne e hr =>
  hk _ (h.own l' o' e hr).2 (hother l' o' hne e hr)
 have hpl:∀ l',l'≠l→zah (upd β l b') w' (zaQ σ l (.imap kvs)) l'=zah β w σ l':=by
  intro l' hne
  unfold zah
  rw[zaf,if_neg hne]
  cases e:zax σ l' with
  |none=>rfl
  |some o =>
   cases o with
   |imap kvs=>simp only[zaB β b' hne]
   |rsv=>rfl
   |cells cs r =>
    cases r with
    |true=>simp only[zaB β b' hne];rw[zdb (hsame l' _ hne e rfl)]
    |false=>rfl
 have hpl0:zah (upd β l b') w' (zaQ σ l (.imap kvs)) l=some ⟨b',0,0,true⟩:=by
  unfold zah
  rw[zaf,if_pos rfl]
  simp[zaZ]
 have hblt:b'<w'.heap.size:=by
  rcases Nat.lt_or_ge b' w'.heap.size with hlt|hge
  ·exact hlt
  ·rw[Array.getElem?_eq_none hge]at hn;cases hn
 have hx:Ext N (ctx inv M σ β w) (ctx inv M (zaQ σ l (.imap kvs)) (upd β l b') w'):=by
  refine ⟨⟨rfl,hsz,fun b hlt hA=>?_,fun b hlt hA=>?_⟩,fun l' hl' p' hp'=>?_⟩
  ·refine hk b hlt fun e=>hA ?_
   rcases hwas with hw|⟨o,e1,e3⟩
   ·exact absurd (show b<w.heap.size from hlt) (by omega)
   ·exact .inr ⟨l,_,e1,rfl,e3.trans e.symm⟩
  ·rcases hA with hm|⟨l',o,e1,e2,e3⟩
   ·exact .inl hm
   ·by_cases hne:l'=l
    ·subst hne
     rw[zaZ]at e3
     subst e3
     rcases hwas with hw|⟨o,e1,e3⟩
     ·exact absurd (show b'<w.heap.size from hlt) (by omega)
     ·exact .inr ⟨_,_,e1,rfl,e3⟩
    ·rw[zaf,if_neg hne]at e1
     rw[zaB β b' hne]at e3
     exact .inr ⟨l',o,e1,e2,e3⟩
  ·by_cases hne:l'=l
   ·subst hne
    rcases hwas with hw|⟨kvs0,e1,e3⟩
    ·have:=hlN hw;omega
    ·have e4:=hpl0.symm.trans hp'
     simp only[Option.some.injEq]at e4
     subst e4
     exact ⟨⟨b',0,0,true⟩,by show zah β w σ l'=_;unfold zah;rw[e1];simp[e3],Nat.le_refl _,fun _=>rfl⟩
   ·exact ⟨p',(hpl l' hne).symm.trans hp',Nat.le_refl _,fun _=>rfl⟩
 refine ⟨⟨hb,fun l1 l2 o1 o2 e1 e2 r1 r2 he=>?_,fun l1 o1 e1 r1=>?_,fun l1 cs e1=>?_,fun l1 cs e1=>?_,fun l1 kvs1 e1=>?_⟩,hx,hpl0⟩
 ·rw[zaf]at e1 e2
  by_cases h1:l1=l<;>by_cases h2:l2=l
  ·rw[h1,h2]
  ·rw[if_neg h2]at e2
   rw[h1,zaZ,zaB β b' h2]at he
   exact absurd he.symm (hother l2 o2 h2 e2 r2)
  ·rw[if_neg h1]at e1
   rw[h2,zaZ,zaB β b' h1]at he
   exact absurd he (hother l1 o1 h1 e1 r1)
  ·rw[if_neg h1]at e1
   rw[if_neg h2]at e2
   rw[zaB β b' h1,zaB β b' h2]at he
   exact h.inj l1 l2 o1 o2 e1 e2 r1 r2 he
 ·rw[zaf]at e1
  by_cases h1:l1=l
  ·rw[h1,zaZ];exact ⟨hb0,hblt⟩
  ·rw[if_neg h1]at e1
   rw[zaB β b' h1]
   have:=h.own l1 o1 e1 r1
   exact ⟨this.1,Nat.lt_of_lt_of_le this.2 hsz⟩
 ·rw[zaf]at e1
  by_cases h1:l1=l
  ·rw[if_pos h1]at e1;simp at e1
  ·rw[if_neg h1]at e1
   rw[zaB β b' h1]
   obtain ⟨xs,ty1,e2,e3,e4⟩:=h.cells l1 cs e1
   exact ⟨xs,ty1,(hsame l1 _ h1 e1 rfl).trans e2,e3,hx.relCs (zat _ (Nat.le_trans (zap σ l1 _ e1).2 hN)) e4⟩
 ·rw[zaf]at e1
  by_cases h1:l1=l
  ·rw[if_pos h1]at e1;simp at e1
  ·rw[if_neg h1]at e1;exact h.ghost l1 cs e1
 ·rw[zaf]at e1
  by_cases h1:l1=l
  ·rw[if_pos h1]at e1
   simp only[Option.some.injEq,AO.imap.injEq]at e1
   subst e1
   rw[h1,zaZ]
   exact ⟨es,clk,hn,hrel⟩
  ·rw[if_neg h1]at e1
   rw[zaB β b' h1]
   obtain ⟨es,clk,e2,e3⟩:=h.maps l1 kvs1 e1
   exact ⟨es,clk,(hsame l1 _ h1 e1 rfl).trans e2,e3⟩
end
end Go.Eng
namespace Go.Eng
open Go.RowKit
inductive Opd where
 |t (i:Nat)
 |c (x:AV)
 deriving Inhabited
def ev (φ:List (Nat×AV)):Opd→AV
 |.t i=>za3 φ i
 |.c x=>x
inductive ETy where|num|bool|flat (ks:List Bool)|ptr|fn|arr (n:Nat)
 deriving DecidableEq,Inhabited
inductive AVal where
 |mov (x:Opd)
 |pick (c a b:Opd)
 |bin (op:BinOp) (ty:ETy) (x y:Opd)
 |not (x:Opd)
 |conv (k:IntKind) (x:Opd)
 |load (n:Option Nat) (a:Opd)
 |fadr (a:Opd) (off:Nat)
 |iadr (x i:Opd) (sz:Nat) (arr:Option Nat)
 |fld (x:Opd) (off:Nat) (n:Option Nat)
 |idx (x i:Opd) (len sz:Nat) (ag:Bool)
 |len (x:Opd)
 |ext (x:Opd) (i:Nat)
 |mkfn (j:Nat) (caps:List Opd)
 |build (zero:List (Nat×AV)) (parts:List (Nat×Nat×Opd))
 |slc (x:Opd) (lo hi mx:Option Opd) (sz:Nat)
 |slca (x:Opd) (lo hi mx:Option Opd) (m sz:Nat)
 |nilck (x:Opd)
 |mnx (mn:Bool) (x y:Opd)
 |cap (x:Opd)
 |look (m k:Opd)
 deriving Inhabited
section compile
variable (P:Program) (inv:Nat→Option Nat)
def siz (t:TypeId):Option Nat:=(P.info? t).map (·.size)
def lay (t:TypeId):Option (Option Nat) :=
 match P.underlying t with
 |some (.struct _)=>(siz P t).map some
 |some (.array _ _)=>(siz P t).map some
 |some _=>some none
 |none=>none
def zcE:List (Nat×AV)→List AV
 |[]=>[]
 |(n,x)::r=>if n=1 then x::zcE r else List.replicate n x++zcE r
def zmC:AV→Value→Bool
 |.i k n,.int k' n'=>decide (k=k')&&decide (n=n')
 |.b a,.bool b=>a == b
 |.s0 _,.slice none 0 0=>true
 |.v (.pointer none),.pointer none=>true
 |.v (.map none),.map none=>true
 |.v .nilFunc,.nilFunc=>true
 |.v .nilIface,.nilIface=>true
 |_,_=>false
def zmL:List AV→List Value→Bool
 |[],[]=>true
 |x::xs,y::ys=>zmC x y&&zmL xs ys
 |_,_=>false
def zow:Nat→TypeId→Option (List (Nat×AV))
 |0,_=>none
 |n+1,t =>
  match P.underlying t with
  |some (.int k)=>some [(1,.i k 0)]
  |some .bool=>some [(1,.b false)]
  |some (.slice e)=>some [(1,.s0 (P.cellsOf e))]
  |some (.pointer _)=>some [(1,.v (.pointer none))]
  |some (.map _ _)=>some [(1,.v (.map none))]
  |some (.func _ _ _)=>some [(1,.v .nilFunc)]
  |some (.interface _)=>some [(1,.v .nilIface)]
  |some (.struct fs)=>fs.toList.foldr (fun f r=>match zow n f.type,r with|some a,some b=>some (a++b)|_,_=>none) (some [])
  |some (.array m e)=>match zow n e with
   |some [(1,x)]=>some [(m,x)]
   |some r=>some (List.replicate m r).flatten
   |none=>none
  |_=>none
def zdm (t:TypeId):Option (List (Nat×AV)) :=
 match zow P 10 t,P.info? t with
 |some r,some i=>match i.zero with
  |some z=>if zmL (zcE r) z.cells.toList then some r else none
  |none=>none
 |_,_=>none
def cav (t:TypeId):Value→Option AV
 |.int k n=>some (.i k n)
 |.bool b=>some (.b b)
 |.tuple vs=>if vs.isEmpty then some .u else none
 |.slice none 0 0=>match P.underlying t with|some (.slice e)=>some (.s0 (P.cellsOf e))|_=>some (.s0 0)
 |.pointer none=>some (.v (.pointer none))
 |.map none=>some (.v (.map none))
 |.nilFunc=>some (.v .nilFunc)
 |.nilIface=>some (.v .nilIface)
 |_=>none
def zcM (t:TypeId):Operand→Option Opd
 |.tmp i=>some (.t i)
 |.const v=>(cav P t v).map .c
 |.func f=>(inv f).map fun j=>.c (.fn j [])
 |.global _=>none
def copt (t:TypeId):Option Operand→Option (Option Opd)
 |none=>some none
 |some x=>(zcM P inv t x).map some
def zkL:List (TypeId×Operand)→Option (List Opd)
 |[]=>some []
 |(t,x)::r=>match zcM P inv t x,zkL r with|some a,some b=>some (a::b)|_,_=>none
def zcw:Nat→List Field→Option (List Bool)
 |_,[]=>some []
 |k,f::fs=>if f.name ≠ "_" ∧ f.offset=k then
   match P.underlying f.type,zcw (k+1) fs with
   |some (.int _),some ks=>some (true::ks)
   |some .bool,some ks=>some (false::ks)
   |_,_=>none
  else none
def ety (t:TypeId):Option ETy :=
 match P.underlying t with
 |some (.int _)=>some .num
 |some .bool=>some .bool
 |some (.struct fs)=>if P.stoodInHeld t||P.eqGuardType P.depth t then none else (zcw P 0 fs.toList).map .flat
 |some (.pointer _)=>some .ptr
 |some (.func _ _ _)=>some .fn
 |some (.array m e)=>match P.underlying e with
  |some (.int _)=>if P.eqGuardType P.depth t=false∧siz P e=some 1 then some (.arr m) else none
  |_=>none
 |_=>none
def zeO (zah:Nat→Option (Nat×Nat×TypeId)):List (Nat×Operand)→Option (List (Nat×Nat×Opd))
 |[]=>some []
 |(i,x)::r=>match zah i with
  |some (off,n,t)=>match zcM P inv t x,zeO zah r with|some a,some b=>some ((off,n,a)::b)|_,_=>none
  |none=>none
def zg2 (fs:Array Field) (i:Nat):Option (Nat×Nat×TypeId) :=
 match fs[i]? with
 |some f=>(siz P f.type).map fun n=>(f.offset,n,f.type)
 |none=>none
def znk (fs:List Field):Bool:=fs.all fun f=>(P.info? f.type).isSome
def zjK (ty:TypeId) (c:Call):Option AVal :=
 match c.callee,c.args.toList,c.argTypes.toList with
 |.builtin .len,[x],[t]=>match P.underlying t,zcM P inv t x with
  |some (.slice _),some x=>some (.len x)
  |some (.array n _),some _=>some (.mov (.c (.i .i64 n)))
  |_,_=>none
 |.builtin .cap,[x],[t]=>match P.underlying t,zcM P inv t x with
  |some (.slice _),some x=>some (.cap x)
  |_,_=>none
 |.builtin .min,[x,y],_=>match zcM P inv ty x,zcM P inv ty y with|some x,some y=>some (.mnx true x y)|_,_=>none
 |.builtin .max,[x,y],_=>match zcM P inv ty x,zcM P inv ty y with|some x,some y=>some (.mnx false x y)|_,_=>none
 |_,_,_=>none
def zgi (o:Oper):Option AVal :=
 match o.op with
 |.move x=>(zcM P inv o.type x).map .mov
 |.assign x=>(zcM P inv o.type x).map .mov
 |.pick c a b=>match zcM P inv o.type c,zcM P inv o.type a,zcM P inv o.type b with|some c,some a,some b=>some (.pick c a b)|_,_,_=>none
 |.binOp op t x y _=>match ety P t,zcM P inv t x,zcM P inv t y with|some e,some a,some b=>some (.bin op e a b)|_,_,_=>none
 |.unOp .not _ x=>(zcM P inv o.type x).map .not
 |.convert src dst x=>match P.underlying src,P.underlying dst,zcM P inv src x with|some _,some (.int k),some a=>some (.conv k a)|_,_,_=>none
 |.load t a=>match lay P t,zcM P inv o.type a with|some n,some a=>some (.load n a)|_,_=>none
 |.fieldAddr s x f=>match P.underlying s,zcM P inv o.type x with
  |some (.struct fs),some x=>match fs[f]? with
   |some fd=>match siz P fd.type with
    |some n=>if n=0 then none else some (.fadr x fd.offset)
    |none=>none
   |none=>none
  |_,_=>none
 |.indexAddr t x i=>match P.underlying t,zcM P inv t x,zcM P inv o.type i with
  |some (.slice e),some x,some i=>(siz P e).map fun n=>.iadr x i n none
  |some (.array m e),some x,some i=>(siz P e).map fun n=>.iadr x i n (some m)
  |_,_,_=>none
 |.field t x f=>match P.underlying t,zcM P inv t x with
  |some (.struct fs),some x=>match fs[f]? with
   |some fd=>(lay P fd.type).map fun n=>.fld x fd.offset n
   |none=>none
  |_,_=>none
 |.index t x i=>match P.underlying t,zcM P inv t x,zcM P inv o.type i with
  |some (.array m e),some x,some i=>match lay P e,siz P e with
   |some l,some n=>some (.idx x i m n l.isSome)
   |_,_=>none
  |_,_,_=>none
 |.call c=>zjK P inv o.type c
 |.extract x i=>(zcM P inv o.type x).map fun x=>.ext x i
 |.makeFunc (.func f) first captured=>if first.isEmpty then match inv f,zkL P inv (captured.toList.map fun x=>(o.type,x)) with|some j,some l=>some (.mkfn j l)|_,_=>none else none
 |.build t parts=>match P.underlying t,zdm P t with
  |some (.struct fs),some z=>if znk P fs.toList then (zeO P inv (zg2 P fs) parts.toList).map (.build z) else none
  |some (.array _ e),some z=>match siz P e with
   |some n=>(zeO P inv (fun i=>some (i*n,n,e)) parts.toList).map (.build z)
   |none=>none
  |_,_=>none
 |.slice t x lo hi mx=>match P.underlying t,zcM P inv t x,copt P inv o.type lo,copt P inv o.type hi,copt P inv o.type mx with
  |some (.slice e),some x,some lo,some hi,some mx=>(siz P e).map fun n=>.slc x lo hi mx n
  |some (.array m e),some x,some lo,some hi,some mx=>(siz P e).map fun n=>.slca x lo hi mx m n
  |_,_,_,_,_=>none
 |.nilCheck x=>(zcM P inv o.type x).map .nilck
 |.lookup t x k false=>match P.underlying t with
  |some (.map kt vt)=>match P.underlying kt,(P.info? vt).bind (·.zero),zcM P inv t x,zcM P inv kt k with
   |some (.int .i64),some (.int .i64 0),some x,some k=>some (.look x k)
   |_,_,_,_=>none
  |_=>none
 |_=>none
end compile
inductive Tok {α:Type} (x:α):Type
 |mk
def ob (p X:Prop) (_:Tok X:=.mk):Prop:=p∧X
theorem ob_pos {p X:Prop} (h:p):ob p X=X:=by unfold ob;simp[h]
theorem ob_true (X:Prop):ob True X=X:=by unfold ob;simp
theorem ob_mk {p X:Prop} (h:p) (x:X):ob p X:=⟨h,x⟩
def zeV (t:Bool) (X Y:Prop) (_:Tok X:=.mk) (_:Tok Y:=.mk):Prop:=(t=true→X)∧(t=false→Y)
theorem zix (X Y:Prop):zeV true X Y=X:=by unfold zeV;simp
theorem zhz (X Y:Prop):zeV false X Y=Y:=by unfold zeV;simp
def zcl {α:Type} (x:Option α) (K:α→Prop) (_:Tok K:=.mk):Prop:=match x with|some v=>K v|none=>False
theorem zdy {α:Type} (v:α) (K:α→Prop):zcl (some v) K=K v:=rfl
theorem zaM {α:Type} {x:Option α} {K:α→Prop} (h:zcl x K):∃ v,x=some v∧K v:=by cases x with|none=>exact h.elim|some v=>exact ⟨v,rfl,h⟩
def zbL (σ:AS) (l ver:Nat):Prop:=match zax σ l with|some (.cells cs _)=>cs.length=ver|_=>False
def seg (cs:List AV) (off n:Nat):List AV:=(cs.drop off).take n
def AV.cells:AV→List AV|.agg cs=>cs|x=>[x]
def AV.one:AV→Bool
 |.i _ _=>true|.b _=>true|.s0 _=>true|.sl _ _=>true|.ip _ _ _ _=>true|.ptr _ _ _=>true|.sm _ _ _ _ _=>true|.fn _ _=>true|.mp _=>true
 |.v y=>y.oneCell'
 |_=>false
def AV.sound:AV→Bool|.agg _=>true|x=>x.one
def ovl:List AV→Nat→List AV→List AV
 |cs,_,[]=>cs
 |cs,off,x::xs=>ovl (cs.set off x) (off+1) xs
def zc0 (φ:List (Nat×AV)) (cs:List AV):List (Nat×Nat×Opd)→Option (List AV)
 |[]=>some cs
 |(off,n,x)::r=>if (ev φ x).sound=true∧(ev φ x).cells.length=n∧off+n≤cs.length then zc0 φ (ovl cs off (ev φ x).cells) r else none
def zbY (cs:List AV) (off:Nat):Option Nat→Option AV
 |none=>cs[off]?
 |some m=>if 0<m∧off+m≤cs.length then some (.agg (seg cs off m)) else none
def zc2 (σ:List (Nat×AO)) (n:Option Nat):AV→Option AV
 |.ptr l ver off=>match zax σ l with
  |some (.cells cs _)=>if cs.length=ver then zbY cs off n else none
  |_=>none
 |.ip _ es i k=>match es[i]? with
  |some r=>zbY r k n
  |none=>none
 |_=>none
def eqC:List Bool→List AV→List AV→Option Bool
 |[],[],[]=>some true
 |true::ks,.i k a::xs,.i k' b::ys=>if k=k' then (eqC ks xs ys).map fun t=>decide (a=b)&&t else none
 |false::ks,.b a::xs,.b b::ys=>(eqC ks xs ys).map fun t=>decide (a=b)&&t
 |_,_,_=>none
def zoi (op:BinOp) (k:IntKind) (a b:Int) (K:AV→Prop):Prop :=
 match op with
 |.add=>K (.i k (k.wrap (a+b)))
 |.sub=>K (.i k (k.wrap (a-b)))
 |.mul=>K (.i k (k.wrap (a*b)))
 |.quo=>ob (b≠0) (K (.i k (k.wrap (a.tdiv b))))
 |.rem=>ob (b≠0) (K (.i k (a.tmod b)))
 |.eql=>K (.b (decide (a=b)))
 |.neq=>K (.b (!decide (a=b)))
 |.lss=>K (.b (decide (a<b)))
 |.leq=>K (.b (decide (a≤b)))
 |.gtr=>K (.b (decide (b<a)))
 |.geq=>K (.b (decide (b≤a)))
 |_=>False
def isNil:ETy→AV→AV→Option Bool
 |.ptr,.v (.pointer none),.v (.pointer none)=>some true
 |.ptr,.v (.pointer none),.ip _ _ _ _=>some false
 |.ptr,.ip _ _ _ _,.v (.pointer none)=>some false
 |.fn,.v .nilFunc,.v .nilFunc=>some true
 |.fn,.v .nilFunc,.fn _ _=>some false
 |.fn,.fn _ _,.v .nilFunc=>some false
 |_,_,_=>none
def zk6 (σ:List (Nat×AO)) (op:BinOp) (ty:ETy) (x y:AV) (K:AV→Prop):Prop :=
 match x,y with
 |.i k a,.i k' b=>match op with
  |.shr=>ob (0≤b) (K (.i k (a.fdiv (2 ^ min b.toNat k.bits))))
  |.shl=>False
  |op=>ob (k=k') (zoi op k a b K)
 |.b a,.b b=>ob (ty=.bool) (match op with|.eql=>K (.b (decide (a=b)))|.neq=>K (.b (!decide (a=b)))|_=>False)
 |.agg xs,.agg ys=>match ty with
  |.flat ks=>zcl (eqC ks xs ys) fun t=>(match op with|.eql=>K (.b t)|.neq=>K (.b (!t))|_=>False)
  |.arr n=>zcl (eqC (List.replicate n true) xs ys) fun t=>(match op with|.eql=>K (.b t)|.neq=>K (.b (!t))|_=>False)
  |_=>False
 |.ptr l ver _,.v (.pointer none)=>ob (ty=.ptr) (ob (zbL σ l ver) (match op with|.eql=>K (.b false)|.neq=>K (.b true)|_=>False))
 |x,y=>zcl (isNil ty x y) fun t=>(match op with|.eql=>K (.b t)|.neq=>K (.b (!t))|_=>False)
def zeM:List (Int×Int)→Int→Int
 |[],_=>0
 |p::r,k=>if k=p.1 then p.2 else zeM r k
def zks:List (Int×Int)→Int→Int→List (Int×Int)
 |[],k,v=>[(k,v)]
 |p::r,k,v=>if k=p.1 then (p.1,v)::r else p::zks r k v
def zkX (σ:List (Nat×AO)):AV→AV→Option AV
 |.mp l,.i .i64 a=>match zax σ l with|some (.imap kvs)=>some (.i .i64 (zeM kvs a))|_=>none
 |_,_=>none
def aslc (σ:List (Nat×AO)) (x:AV) (lo hi mx:Option AV) (sz:Nat) (K:AV→Prop):Prop :=
 match mx with
 |some (.i _ m)=>ob (m=0) <| ob (hi=some (.i .i64 0)) <| ob (lo=none) (match x with
  |.sl _ _=>K (.s0 sz)
  |.s0 _=>K (.s0 sz)
  |.sm l ver _ _ _=>ob (zbL σ l ver) (K (.s0 sz))
  |_=>False)
 |some _=>False
 |none=>match x with
  |.sl sz' es=>ob (sz'=sz) (match lo,hi with
   |none,none=>K (.sl sz es)
   |none,some (.i _ h)=>ob (0≤h∧h≤es.length) (K (.sl sz (es.take h.toNat)))
   |some (.i _ l),none=>ob (0≤l∧l≤es.length) (K (.sl sz (es.drop l.toNat)))
   |some (.i _ l),some (.i _ h)=>ob (0≤l∧l≤h∧h≤es.length) (K (.sl sz ((es.take h.toNat).drop l.toNat)))
   |_,_=>False)
  |.sm l ver off n sz'=>ob (sz'=sz) <| ob (zbL σ l ver) (match lo,hi with
   |none,none=>K (.sm l ver off n sz)
   |none,some (.i _ h)=>ob (0≤h∧h≤n) (K (.sm l ver off h.toNat sz))
   |some (.i _ a),none=>ob (0≤a∧a≤n) (K (.sm l ver (off+a.toNat*sz) (n-a.toNat) sz))
   |some (.i _ a),some (.i _ h)=>ob (0≤a∧a≤h∧h≤n) (K (.sm l ver (off+a.toNat*sz) (h.toNat-a.toNat) sz))
   |_,_=>False)
  |.s0 _=>(match lo,hi with
   |none,none=>K (.s0 sz)
   |none,some (.i _ h)=>ob (h=0) (K (.s0 sz))
   |some (.i _ a),none=>ob (a=0) (K (.s0 sz))
   |some (.i _ a),some (.i _ h)=>ob (a=0∧h=0) (K (.s0 sz))
   |_,_=>False)
  |_=>False
def zdk (φ:List (Nat×AV)) (σ:List (Nat×AO)) (e:AVal) (K:AV→Prop):Prop :=
 match e with
 |.mov x=>K (ev φ x)
 |.pick c a b=>match ev φ c with
  |.b t=>zeV t (K (ev φ a)) (K (ev φ b))
  |_=>False
 |.bin op ty x y=>zk6 σ op ty (ev φ x) (ev φ y) K
 |.not x=>match ev φ x with
  |.b t=>K (.b (!t))
  |_=>False
 |.conv k x=>match ev φ x with
  |.i _ n=>K (.i k (k.wrap n))
  |_=>False
 |.load n a=>zcl (zc2 σ n (ev φ a)) K
 |.fadr a off=>match ev φ a with
  |.ptr l ver o=>ob (zbL σ l ver) (K (.ptr l ver (o+off)))
  |.ip sz es i k=>K (.ip sz es i (k+off))
  |_=>False
 |.iadr x i sz arr=>match ev φ i with
  |.i _ j=>match ev φ x,arr with
   |.sl sz' es,none=>ob (sz'=sz) <| ob (0≤j∧j<es.length) (K (.ip sz es j.toNat 0))
   |.sm l ver off n sz',none=>ob (sz'=sz) <| ob (zbL σ l ver) <| ob (0≤j∧j<n) (K (.ptr l ver (off+j.toNat*sz)))
   |.ptr l ver off,some n=>ob (zbL σ l ver) <| ob (0≤j∧j<n) (K (.ptr l ver (off+j.toNat*sz)))
   |.ip sz' es i' k,some n=>ob (0≤j∧j<n) (K (.ip sz' es i' (k+j.toNat*sz)))
   |_,_=>False
  |_=>False
 |.fld x off n=>match ev φ x with
  |.agg cs=>match n with
   |none=>zcl cs[off]? K
   |some m=>K (.agg (seg cs off m))
  |_=>False
 |.idx x i len sz ag=>match ev φ x,ev φ i with
  |.agg cs,.i _ j=>ob (0≤j∧j<len) (match ag with
   |true=>K (.agg (seg cs (j.toNat*sz) sz))
   |false=>zcl cs[j.toNat*sz]? K)
  |_,_=>False
 |.len x=>match ev φ x with
  |.sl _ es=>K (.i .i64 es.length)
  |.s0 _=>K (.i .i64 0)
  |.sm l ver _ n _=>ob (zbL σ l ver) (K (.i .i64 n))
  |_=>False
 |.ext x i=>match ev φ x with
  |.tup vs=>zcl vs[i]? K
  |_=>False
 |.mkfn j caps=>K (.fn j (caps.map (ev φ)))
 |.build zero parts=>zcl (zc0 φ (zcE zero) parts) fun cs=>K (.agg cs)
 |.slc x lo hi mx sz=>aslc σ (ev φ x) (lo.map (ev φ)) (hi.map (ev φ)) (mx.map (ev φ)) sz K
 |.slca x lo hi mx m sz=>match ev φ x with
  |.ptr l ver off=>ob (zbL σ l ver) <| ob (0<ver∧off+m*sz≤ver) <| aslc σ (.sm l ver off m sz) (lo.map (ev φ)) (hi.map (ev φ)) (mx.map (ev φ)) sz K
  |_=>False
 |.nilck x=>match ev φ x with
  |.ptr l ver off=>ob (zbL σ l ver) (K (.ptr l ver off))
  |.ip sz es i k=>K (.ip sz es i k)
  |.fn j cs=>K (.fn j cs)
  |_=>False
 |.mnx mn x y=>match ev φ x,ev φ y with
  |.i k a,.i k' b=>ob (k=k') <| K (.i k (if mn=true then (if b<a then b else a) else (if a<b then b else a)))
  |_,_=>False
 |.cap x=>match ev φ x with
  |.s0 _=>K (.i .i64 0)
  |_=>False
 |.look m k=>zcl (zkX σ (ev φ m) (ev φ k)) K
end Go.Eng
