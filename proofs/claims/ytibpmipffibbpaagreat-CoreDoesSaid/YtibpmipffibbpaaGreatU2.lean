/-
  A part of the engine that walks the functions' codes, and of the functions' contracts. Conditions: those that each theorem names.
-/
import Derived.Test.YtibpmipffibbpaaGreatU1
import Derived.Below
import Derived.Calls
import Derived.ChangeKeysEq
import Derived.DataReads
import Derived.Deep.LoopGhost
import Derived.Laws.AppendOwn
import Derived.Laws.Cells
import Derived.Laws.CopyRow
import Derived.Laws.Entries
import Derived.Laws.MakeOwn
import Derived.Laws.Rows
import Derived.Laws.StructEq
import Derived.Laws.Tables
import Derived.Lib.AppendZerosOnto
import Derived.MapKept
import Derived.Orders
import Derived.ProofKit
import Derived.ScopeJumps
import Derived.Tactics2
import Derived.WalkSpells
set_option linter.unusedSimpArgs false
set_option linter.unusedVariables false
set_option linter.unusedSectionVars false
namespace Go.Eng
open Go.RowKit
section
variable {P:Program} {inv:Nat->Option Nat} {w0:World} {M:Nat->Prop} {φ:AF} {σ:AS} {β:Nat->Nat} {a:Act} {w:World}
theorem zbb (k:IntKind) (i:Nat) (y:Nat) (code:BoundsCode) (h:i<=y):(Instr.sliceBound (.int k i) y code).run P w=.ok i w:=by
 have:0<=(i:Int)/\(i:Int)<=(y:Int):=⟨by omega,by omega⟩
 simp[Instr.sliceBound,asIntOf,this]
theorem zji (b:Bool) {len cap:Nat} {lo hi mx:Option Value} {l h m:Nat}
  (hm:mx=none/\m=cap\/∃ k,mx=some (.int k m)/\m<=cap) (hh:hi=none/\h=len/\mx=none\/∃ k,hi=some (.int k h)/\h<=m) (hl:lo=none/\l=0\/∃ k,lo=some (.int k l)/\l<=h) :
  (Instr.sliceBounds b len cap lo hi mx).run P w=.ok (l,h,m) w:=by
 unfold Instr.sliceBounds
 rcases hm with ⟨rfl,rfl⟩|⟨k,rfl,hm⟩
 ·rcases hh with ⟨rfl,rfl,_⟩|⟨k,rfl,hh⟩
  ·rcases hl with ⟨rfl,rfl⟩|⟨k',rfl,hl⟩
   ·rfl
   ·simp only[Sem.run_bind,Sem.run_pure,Result.andThen_ok,zbb k' l h _ hl]
  ·rcases hl with ⟨rfl,rfl⟩|⟨k',rfl,hl⟩
   ·simp only[Sem.run_bind,Sem.run_pure,Result.andThen_ok,zbb k h m _ hh]
   ·simp only[Sem.run_bind,Sem.run_pure,Result.andThen_ok,zbb k h m _ hh,zbb k' l h _ hl]
 ·rcases hh with ⟨rfl,rfl,h0⟩|⟨k',rfl,hh⟩
  ·cases h0
  ·rcases hl with ⟨rfl,rfl⟩|⟨k'',rfl,hl⟩
   ·simp only[Sem.run_bind,Sem.run_pure,Result.andThen_ok,zbb k m cap _ hm,zbb k' h m _ hh]
   ·simp only[Sem.run_bind,Sem.run_pure,Result.andThen_ok,zbb k m cap _ hm,zbb k' h m _ hh,zbb k'' l h _ hl]
theorem zhN {t e:TypeId} {n sz:Nat} (hu:P.underlying t=some (.array n e)) (hsz:siz P e=some sz) (A:Addr) {lo hi mx:Option Value} {l h m:Nat}
  (hm:mx=none/\m=n\/∃ k,mx=some (.int k m)/\m<=n) (hh:hi=none/\h=n/\mx=none\/∃ k,hi=some (.int k h)/\h<=m) (hl:lo=none/\l=0\/∃ k,lo=some (.int k l)/\l<=h) :
  (Instr.sliceAt t (.pointer (some A)) lo hi mx).run P w=.ok (.slice (if m=l then some A else (some A).map (·.add (l*sz))) (h-l) (m-l)) w:=by
 unfold Instr.sliceAt
 rw[Sem.run_bind,run_underlying hu]
 simp only[Result.andThen_ok,Sem.run_bind,Instr.sureAddr,Sem.run_pure,zji false hm hh hl,zde hsz]
 split<;>simp
theorem zmr {t e:TypeId} {sz:Nat} (hu:P.underlying t=some (.slice e)) (hsz:siz P e=some sz) (A:Option Addr) (len cap:Nat) {lo hi mx:Option Value} {l h m:Nat}
  (hm:mx=none/\m=cap\/∃ k,mx=some (.int k m)/\m<=cap) (hh:hi=none/\h=len/\mx=none\/∃ k,hi=some (.int k h)/\h<=m) (hl:lo=none/\l=0\/∃ k,lo=some (.int k l)/\l<=h) :
  (Instr.sliceAt t (.slice A len cap) lo hi mx).run P w=.ok (.slice (if m=l then A else A.map (·.add (l*sz))) (h-l) (m-l)) w:=by
 have hb:=zji (P:=P) (w:=w) true hm hh hl
 unfold Instr.sliceAt
 rw[Sem.run_bind,run_underlying hu]
 simp only[Result.andThen_ok]
 unfold Instr.slice
 rw[Sem.run_bind,run_underlying hu]
 simp only[Result.andThen_ok,Sem.run_bind,hb,zde hsz,Sem.run_pure]
theorem zoE {c:Ctx} {k:IntKind} {n:Int} {v:Value} (h:rel c (.i k n) v) (h0:0<=n):v=.int k (n.toNat:Nat):=by
 simp only[rel]at h
 rw[h,Int.toNat_of_nonneg h0]
def relO (c:Ctx):Option AV->Option Value->Prop
 |none,none=>True
 |some x,some y=>rel c x y
 |_,_=>False
theorem znm {c:Ctx} {sz:Nat} {es:List (List AV)} {ad:Option Addr} {cap:Nat} (hcap:es.length<=cap) (hr:es≠[]->∃ a:Addr,ad=some a/\¬c.A a.block/\a.block<c.w.heap.size/\zaE c sz a 0 es) (l h:Nat) (hl:l<=h) (hh:h<=es.length) :
  rel c (.sl sz ((es.take h).drop l)) (.slice (if cap=l then ad else ad.map (·.add (l*sz))) (h-l) (cap-l)):=by
 simp only[rel]
 refine ⟨_,_,by rw[List.length_drop,List.length_take,Nat.min_eq_left hh],by rw[List.length_drop,List.length_take,Nat.min_eq_left hh];omega,fun hne=>?_⟩
 have hlt:l<h:=by
  rcases Nat.lt_or_ge l h with hlt|hge
  ·exact hlt
  ·exact absurd (List.eq_nil_of_length_eq_zero (by rw[List.length_drop,List.length_take,Nat.min_eq_left hh];omega)) hne
 have hes:es≠[]:=fun e=>by rw[e]at hh;simp at hh;omega
 obtain ⟨a,rfl,hA,hb,hrows⟩:=hr hes
 rw[if_neg (by omega)]
 refine ⟨a.add (l*sz),rfl,by rw[zeA];exact hA,by rw[zeA];exact hb,zd1 (l*sz) ?_⟩
 have:=zgV l (zgT h hrows)
 rwa [show l*sz+0=0+l*sz by omega]
theorem znl {l ver off n sz:Nat} {p:Place} {ad:Option Addr} {cap:Nat} (hp:zan β w σ l=some p) (hv:p.len=ver) (h1:off+n*sz<=ver) (hcap:n<=cap)
  (hr:if p.real then (cap=0\/ad=some ⟨p.block,off,none⟩)/\off+cap*sz<=p.size else cap=0) (lo h:Nat) (hl:lo<=h) (hh:h<=n) :
  rel (ctx inv M σ β w) (.sm l ver (off+lo*sz) (h-lo) sz) (.slice (if cap=lo then ad else ad.map (·.add (lo*sz))) (h-lo) (cap-lo)):=by
 simp only[rel]
 refine ⟨rfl,fun p' hp'=>?_⟩
 have:p'=p:=by have:=(show zan β w σ l=some p' from hp').symm.trans hp;simpa using this
 subst this
 have hb:lo*sz+(h-lo)*sz<=n*sz:=by rw[<-Nat.add_mul];exact Nat.mul_le_mul_right _ (by omega)
 have hc2:lo*sz+(cap-lo)*sz=cap*sz:=by rw[<-Nat.add_mul];congr 1;omega
 refine ⟨by omega,fun _=>⟨by omega,_,_,rfl,by omega, ?_⟩⟩
 cases hreal:p'.real with
 |false=>rw[hreal]at hr;simp only[Bool.false_eq_true,if_false]at hr |-;omega
 |true =>
  rw[hreal]at hr
  simp only[if_true]at hr |-
  obtain ⟨h2,h3⟩:=hr
  refine ⟨?_,by omega⟩
  by_cases hcl:cap=lo
  ·exact .inl (by omega)
  ·rw[if_neg hcl]
   rcases h2 with h2|h2
   ·exact .inl (by omega)
   ·rw[h2];exact .inr (by simp[zcu])
theorem zp5 (hm:Mem inv w0 M σ β w) {l ver off m sz:Nat} {p:Place} (hl:zb9 σ l ver) (hp:zan β w σ l=some p) (hv:p.len=ver) (h0:0<ver) (hle:off+m*sz<=ver) :
  rel (ctx inv M σ β w) (.sm l ver off m sz) (.slice (some ⟨p.block,off,none⟩) m m):=by
 have hreal:p.real=true/\ver<=p.size:=by
  unfold zb9 at hl
  unfold zan at hp
  split at hl
  ·rename_i cs r e
   rw[e]at hp
   cases r with
   |false=>have:=hm.ghost l cs e;subst this;simp at hl;omega
   |true =>
    simp only[Option.some.injEq]at hp
    subst hp
    refine ⟨rfl, ?_⟩
    obtain ⟨xs,ty,q1,q2,_⟩:=hm.cells l cs e
    simp only[zaY,q1]
    omega
  ·cases hl
 simp only[rel]
 refine ⟨rfl,fun p' hp'=>?_⟩
 have:p'=p:=by have:=(show zan β w σ l=some p' from hp').symm.trans hp;simpa using this
 subst this
 refine ⟨by omega,fun _=>⟨hle,_,m,rfl,Nat.le_refl _, ?_⟩⟩
 rw[hreal.1]
 exact ⟨.inr rfl,by omega⟩
def Slicer (P:Program) (w:World) (sz:Nat) (u:Value) (F:Option Value->Option Value->Option Value->Sem Value):Prop :=
 ∀ (A:Option Addr) (len cap:Nat),u=.slice A len cap->∀ (lo hi mx:Option Value) (l h m:Nat),(mx=none/\m=cap\/∃ k,mx=some (.int k m)/\m<=cap)->(hi=none/\h=len/\mx=none\/∃ k,hi=some (.int k h)/\h<=m) ->
  (lo=none/\l=0\/∃ k,lo=some (.int k l)/\l<=h)->(F lo hi mx).run P w=.ok (.slice (if m=l then A else A.map (·.add (l*sz))) (h-l) (m-l)) w
theorem zjJ {sz:Nat} {x:AV} {u:Value} {F:Option Value->Option Value->Option Value->Sem Value} (hF:Slicer P w sz u F) {lo hi mx:Option AV} {lo' hi' mx':Option Value} {K:AV->Prop}
  (hx:rel (ctx inv M σ β w) x u) (hlo:relO (ctx inv M σ β w) lo lo') (hhi:relO (ctx inv M σ β w) hi hi') (hmx:relO (ctx inv M σ β w) mx mx') (h:aslc σ x lo hi mx sz K) :
  ∃ z r,K z/\rel (ctx inv M σ β w) z r/\(F lo' hi' mx').run P w=.ok r w:=by
 have rn:∀ {v:Option Value},relO (ctx inv M σ β w) none v->v=none:=by intro v hv;cases v<;>first|rfl|exact hv.elim
 have rs:∀ {v:Option Value} {k:IntKind} {n:Int},relO (ctx inv M σ β w) (some (.i k n)) v->0<=n->v=some (.int k (n.toNat:Nat)):=by
  intro v k n hv h0
  cases v with
  |none=>exact hv.elim
  |some v=>rw[zoE (c:=ctx inv M σ β w) hv h0]
 unfold aslc at h
 split at h
 ·-- three bounds,all 0
  rename_i k m
  obtain ⟨rfl,rfl,rfl,h⟩:=h
  have e1:=rn hlo;subst e1
  have e2:=rs hhi (Int.le_refl 0);subst e2
  have e3:=rs hmx (Int.le_refl 0);subst e3
  have key:∀ (A:Option Addr) (len cap:Nat),u=.slice A len cap->∃ r,rel (ctx inv M σ β w) (.s0 sz) r/\(F none (some (.int .i64 ((0:Int).toNat:Nat))) (some (.int k ((0:Int).toNat:Nat)))).run P w=.ok r w:=fun A len cap hu =>
   ⟨_,by simp only[rel];exact ⟨_,rfl⟩,hF A len cap hu _ _ _ 0 0 0 (.inr ⟨k,rfl,by omega⟩) (.inr ⟨.i64,rfl,by omega⟩) (.inl ⟨rfl,rfl⟩)⟩
  split at h
  ·simp only[rel]at hx
   obtain ⟨ad,cap,eu,_⟩:=hx
   obtain ⟨r,h1,h2⟩:=key ad _ cap eu
   exact ⟨_,r,h,h1,h2⟩
  ·simp only[rel]at hx
   obtain ⟨ad,eu⟩:=hx
   obtain ⟨r,h1,h2⟩:=key ad _ _ eu
   exact ⟨_,r,h,h1,h2⟩
  ·obtain ⟨p,ad,cap,_,_,_,eu,_⟩:=zdW h.1 hx
   obtain ⟨r,h1,h2⟩:=key ad _ cap eu
   exact ⟨_,r,h.2,h1,h2⟩
  ·exact h.elim
 ·exact h.elim
 ·have e3:=rn hmx;subst e3
  split at h
  ·-- a slice that nobody writes
   rename_i sz' es
   obtain ⟨rfl,h⟩:=h
   simp only[rel]at hx
   obtain ⟨ad,cap,eu,hcap,hr⟩:=hx
   split at h
   ·have e1:=rn hlo;subst e1
    have e2:=rn hhi;subst e2
    refine ⟨_,_,h, ?_,hF ad es.length cap eu _ _ _ (0) (es.length) cap (.inl ⟨rfl,rfl⟩) (.inl ⟨rfl,rfl,rfl⟩) (.inl ⟨rfl,rfl⟩)⟩
    simpa using znm hcap hr 0 es.length (by omega) (by omega)
   ·rename_i k hh
    obtain ⟨⟨h0,h1⟩,h⟩:=h
    have e1:=rn hlo;subst e1
    have e2:=rs hhi h0;subst e2
    refine ⟨_,_,h, ?_,hF ad es.length cap eu _ _ _ (0) (hh.toNat) cap (.inl ⟨rfl,rfl⟩) (.inr ⟨k,rfl,by omega⟩) (.inl ⟨rfl,rfl⟩)⟩
    simpa using znm hcap hr 0 hh.toNat (by omega) (by omega)
   ·rename_i k l
    obtain ⟨⟨h0,h1⟩,h⟩:=h
    have e1:=rs hlo h0;subst e1
    have e2:=rn hhi;subst e2
    refine ⟨_,_,h, ?_,hF ad es.length cap eu _ _ _ (l.toNat) (es.length) cap (.inl ⟨rfl,rfl⟩) (.inl ⟨rfl,rfl,rfl⟩) (.inr ⟨k,rfl,by omega⟩)⟩
    have:=znm hcap hr l.toNat es.length (by omega) (by omega)
    rwa [List.take_length]at this
   ·rename_i k l k' hh
    obtain ⟨⟨h0,h1,h2⟩,h⟩:=h
    have e1:=rs hlo h0;subst e1
    have e2:=rs hhi (by omega);subst e2
    exact ⟨_,_,h,znm hcap hr l.toNat hh.toNat (by omega) (by omega),hF ad es.length cap eu _ _ _ (l.toNat) (hh.toNat) cap (.inl ⟨rfl,rfl⟩) (.inr ⟨k',rfl,by omega⟩) (.inr ⟨k,rfl,by omega⟩)⟩
   ·exact h.elim
  ·-- a named row
   rename_i l ver off n sz'
   obtain ⟨rfl,hlive,h⟩:=h
   obtain ⟨p,ad,cap,hp,hv,hb,eu,hcap,hr⟩:=zdW hlive hx
   split at h
   ·have e1:=rn hlo;subst e1
    have e2:=rn hhi;subst e2
    refine ⟨_,_,h, ?_,hF ad n cap eu _ _ _ (0) (n) cap (.inl ⟨rfl,rfl⟩) (.inl ⟨rfl,rfl,rfl⟩) (.inl ⟨rfl,rfl⟩)⟩
    simpa using znl (M:=M) (inv:=inv) hp hv hb hcap hr 0 n (by omega) (by omega)
   ·rename_i k hh
    obtain ⟨⟨h0,h1⟩,h⟩:=h
    have e1:=rn hlo;subst e1
    have e2:=rs hhi h0;subst e2
    refine ⟨_,_,h, ?_,hF ad n cap eu _ _ _ (0) (hh.toNat) cap (.inl ⟨rfl,rfl⟩) (.inr ⟨k,rfl,by omega⟩) (.inl ⟨rfl,rfl⟩)⟩
    simpa using znl (M:=M) (inv:=inv) hp hv hb hcap hr 0 hh.toNat (by omega) (by omega)
   ·rename_i k lo
    obtain ⟨⟨h0,h1⟩,h⟩:=h
    have e1:=rs hlo h0;subst e1
    have e2:=rn hhi;subst e2
    exact ⟨_,_,h,znl (M:=M) (inv:=inv) hp hv hb hcap hr lo.toNat n (by omega) (by omega),hF ad n cap eu _ _ _ (lo.toNat) (n) cap (.inl ⟨rfl,rfl⟩) (.inl ⟨rfl,rfl,rfl⟩) (.inr ⟨k,rfl,by omega⟩)⟩
   ·rename_i k lo k' hh
    obtain ⟨⟨h0,h1,h2⟩,h⟩:=h
    have e1:=rs hlo h0;subst e1
    have e2:=rs hhi (by omega);subst e2
    exact ⟨_,_,h,znl (M:=M) (inv:=inv) hp hv hb hcap hr lo.toNat hh.toNat (by omega) (by omega),hF ad n cap eu _ _ _ (lo.toNat) (hh.toNat) cap (.inl ⟨rfl,rfl⟩) (.inr ⟨k',rfl,by omega⟩) (.inr ⟨k,rfl,by omega⟩)⟩
   ·exact h.elim
  ·-- a slice without room
   simp only[rel]at hx
   obtain ⟨ad,eu⟩:=hx
   have fin:∀ (lo'' hi'':Option Value),(hi''=none/\(0:Nat)=0/\(none:Option Value)=none\/∃ k,hi''=some (.int k (0:Nat))/\0<=0)->(lo''=none/\(0:Nat)=0\/∃ k,lo''=some (.int k (0:Nat))/\0<=0)->∃ r,rel (ctx inv M σ β w) (.s0 sz) r/\(F lo'' hi'' none).run P w=.ok r w:=by
    intro lo'' hi'' h1 h2
    exact ⟨_,by simp only[rel];exact ⟨_,rfl⟩,hF ad 0 0 eu lo'' hi'' none 0 0 0 (.inl ⟨rfl,rfl⟩) h1 h2⟩
   split at h
   ·have e1:=rn hlo;subst e1
    have e2:=rn hhi;subst e2
    obtain ⟨r,k1,k2⟩:=fin none none (.inl ⟨rfl,rfl,rfl⟩) (.inl ⟨rfl,rfl⟩)
    exact ⟨_,r,h,k1,k2⟩
   ·rename_i k hh
    obtain ⟨rfl,h⟩:=h
    have e1:=rn hlo;subst e1
    have e2:=rs hhi (Int.le_refl 0);subst e2
    obtain ⟨r,k1,k2⟩:=fin none _ (.inr ⟨k,rfl,Nat.le_refl _⟩) (.inl ⟨rfl,rfl⟩)
    exact ⟨_,r,h,k1,k2⟩
   ·rename_i k ll
    obtain ⟨rfl,h⟩:=h
    have e1:=rs hlo (Int.le_refl 0);subst e1
    have e2:=rn hhi;subst e2
    obtain ⟨r,k1,k2⟩:=fin _ none (.inl ⟨rfl,rfl,rfl⟩) (.inr ⟨k,rfl,Nat.le_refl _⟩)
    exact ⟨_,r,h,k1,k2⟩
   ·rename_i k ll k' hh
    obtain ⟨⟨rfl,rfl⟩,h⟩:=h
    have e1:=rs hlo (Int.le_refl 0);subst e1
    have e2:=rs hhi (Int.le_refl 0);subst e2
    obtain ⟨r,k1,k2⟩:=fin _ _ (.inr ⟨k',rfl,Nat.le_refl _⟩) (.inr ⟨k,rfl,Nat.le_refl _⟩)
    exact ⟨_,r,h,k1,k2⟩
   ·exact h.elim
  ·exact h.elim
theorem one_rel {c:Ctx} {x:AV} {v:Value} (h1:x.one=true) (h:rel c x v):v.oneCell'=true:=by
 cases x<;>simp only[AV.one,Bool.false_eq_true]at h1<;>simp only[rel]at h
 ·subst h;rfl
 ·subst h;rfl
 ·subst h;exact h1
 ·obtain ⟨_,rfl⟩:=h;rfl
 ·obtain ⟨_,_,rfl,_⟩:=h;rfl
 ·obtain ⟨_,rfl,_⟩:=h;rfl
 ·exact h.1
 ·exact h.1
 ·obtain ⟨_,_,rfl,_⟩:=h;rfl
 ·exact h.1
theorem zrs {v:Value} (h:v.oneCell'=true):v.cells=#[v]:=by cases v<;>first|rfl|(simp[Value.oneCell']at h)
theorem ziH {c:Ctx} {x:AV} {v:Value} (h1:x.sound=true) (h:rel c x v):relCs c x.cells v.cells.toList:=by
 have:(∃ cs,x=.agg cs)\/(x.cells=[x]/\x.one=true):=by
  cases x<;>first|exact .inl ⟨_,rfl⟩|exact .inr ⟨rfl,h1⟩
 rcases this with ⟨cs,rfl⟩|⟨e,h2⟩
 ·simp only[rel]at h
  obtain ⟨xs,rfl,h⟩:=h
  exact h
 ·have ho:=one_rel h2 h
  rw[e,zrs ho]
  exact zcC ho h zbk
theorem zdb:∀ (xs:List AV) (cs:List AV) (off:Nat),(ovl cs off xs).length=cs.length
 |[],_,_=>rfl
 |x::xs,cs,off=>by simp[ovl,zdb xs]
theorem zqj {c:Ctx} (off:Nat):∀ (xs:List AV) (us:List Value) (j:Nat) (cs:List AV) (cells:Array Value),relCs c xs us->relCs c cs cells.toList ->
  relCs c (ovl cs (off+j) xs) ((us.zipIdx j).foldl (fun cs p=>cs.setIfInBounds (off+p.2) p.1) cells).toList/\((us.zipIdx j).foldl (fun cs p=>cs.setIfInBounds (off+p.2) p.1) cells).size=cells.size
 |[],us,j,cs,cells,h,h'=>by
  simp only[relCs]at h
  subst h
  exact ⟨h',rfl⟩
 |x::xs,us,j,cs,cells,h,h'=>by
  simp only[relCs]at h
  obtain ⟨u,us',rfl,h1,h2,h⟩:=h
  have h3:relCs c (cs.set (off+j) x) (cells.setIfInBounds (off+j) u).toList:=by rw[Array.toList_setIfInBounds];exact zlf _ h' h1 h2
  have:=zqj off xs us' (j+1) _ _ h h3
  simp only[ovl,List.zipIdx_cons,List.foldl_cons]
  exact ⟨this.1,this.2.trans (by simp)⟩
theorem zeX (hs:Knows inv w0 M φ σ β a w) {zan:Nat->Option (Nat×Nat×TypeId)}:∀ {l:List (Nat×Operand)} {ps:List (Nat×Nat×Opd)} {cs cs':List AV} {cells:Array Value},
  zfb P inv zan l=some ps->zee φ cs ps=some cs'->relCs (ctx inv M σ β w) cs cells.toList ->
  ∃ cells',Instr.fill (fun i=>(zan i).map fun p=>(p.1,p.2.1)) cells (l.map fun p=>(p.1,a.eval p.2))=some cells'/\relCs (ctx inv M σ β w) cs' cells'.toList
 |[],_,_,_,cells,h,hf,hr=>by
  simp only[zfb,Option.some.injEq]at h
  subst h
  simp only[zee,Option.some.injEq]at hf
  subst hf
  exact ⟨cells,rfl,hr⟩
 |(i,x)::l,_,cs,_,cells,h,hf,hr=>by
  simp only[zfb]at h
  split at h
  ·rename_i off n t e
   split at h
   ·rename_i d ps e1 e2
    simp only[Option.some.injEq]at h
    subst h
    simp only[zee]at hf
    split at hf
    ·rename_i hc
     obtain ⟨c1,c2,c3⟩:=hc
     have hx:=zaq hs e1
     have hxc:=ziH c1 hx
     have hl:=zaM hxc
     have hl2:=zaM hr
     have:=zqj off _ _ 0 _ _ hxc hr
     obtain ⟨cells',h1,h2⟩:=zeX hs e2 hf this.1
     refine ⟨cells', ?_,h2⟩
     simp only[List.map_cons,Instr.fill,e,Option.map_some]
     have hsz:(a.eval x).cells.size=n:=by rw[<-Array.length_toList,<-hl];exact c2
     rw[if_neg (by rw[hsz];simp;rw[<-Array.length_toList,<-hl2];omega)]
     rw[<-h1]
     congr 1
     rw[<-Array.foldl_toList,Array.toList_zipIdx]
    ·cases hf
   ·cases h
  ·cases h
end
section
variable {P:Program} {inv:Nat->Option Nat} {w0:World} {M:Nat->Prop} {φ:AF} {σ:AS} {β:Nat->Nat} {a:Act} {w:World}
theorem zjF {c:Ctx} {cs:List AV} {zs:Array Value} (off n:Nat) (h:relCs c cs zs.toList):rel c (.agg (seg cs off n)) (.agg (zs.extract off (off+n))):=by
 simp only[rel]
 refine ⟨_,rfl, ?_⟩
 rw[Array.toList_extract]
 simp only[seg,List.extract]
 rw[show off+n-off=n by omega]
 exact zcA n (zcB off h)
theorem zlg {c:Ctx} {cs:List AV} {zs:Array Value} {i:Nat} {x:AV} (h:relCs c cs zs.toList) (e:cs[i]?=some x):∃ y,zs[i]?=some y/\rel c x y:=by
 obtain ⟨y,h1,_,h2⟩:=zh2 h e
 exact ⟨y,by simpa using h1,h2⟩
def keyI:Value->Option Int|.int .i64 k=>some k|_=>none
def ziv:List MapEntry->Int->Nat->Option (Nat×Value)
 |[],_,_=>none
 |e::es,b,i=>if keyI e.key=some b then some (i,e.val) else ziv es b (i+1)
theorem zgF (b:Int):∀ (l:List MapEntry) (kvs:List (Int×Int)) (i:Nat),l.map (fun e=>(e.key,e.val))=kvs.map (fun p=>(Value.int .i64 p.1,Value.int .i64 p.2))->Instr.findNow (.int .i64) (.int .i64 b) l i=some (ziv l b i)
 |[],_,_,_=>rfl
 |e::l,kvs,i,h=>by
  cases kvs with
  |nil=>simp at h
  |cons p kvs =>
   simp only[List.map_cons,List.cons.injEq,Prod.mk.injEq]at h
   have ih:=zgF b l kvs (i+1) h.2
   simp only[Instr.findNow,h.1.1,Instr.sameNow,if_true,ziv,keyI]
   by_cases hb:p.1=b
   ·rw[hb];simp
   ·have:(b == p.1)=false:=by simp;exact fun e=>hb e.symm
    rw[this]
    simp only[ih]
    rw[if_neg (by simpa using hb)]
theorem zlJ (b:Int):∀ (l:List MapEntry) (kvs:List (Int×Int)) (i:Nat),l.map (fun e=>(e.key,e.val))=kvs.map (fun p=>(Value.int .i64 p.1,Value.int .i64 p.2)) ->
  (ziv l b i=none/\zgj kvs b=0)\/∃ j,ziv l b i=some (j,.int .i64 (zgj kvs b))
 |[],kvs,i,h=>by
  cases kvs with
  |nil=>exact .inl ⟨rfl,rfl⟩
  |cons p kvs=>simp at h
 |e::l,kvs,i,h=>by
  cases kvs with
  |nil=>simp at h
  |cons p kvs =>
   simp only[List.map_cons,List.cons.injEq,Prod.mk.injEq]at h
   simp only[ziv,zgj,h.1.1,keyI]
   by_cases hb:p.1=b
   ·rw[if_pos (by rw[hb]),if_pos hb.symm];exact .inr ⟨i,by rw[h.1.2]⟩
   ·rw[if_neg (by simpa using hb),if_neg (fun e=>hb e.symm)];exact zlJ b l kvs (i+1) h.2
theorem zeZ (hs:Knows inv w0 M φ σ β a w) {t:TypeId} {x:Option Operand} {d:Option Opd} (h:copt P inv t x=some d):relO (ctx inv M σ β w) (d.map (ev φ)) (x.map a.eval):=by
 cases x with
 |none=>simp only[copt,Option.some.injEq]at h;subst h;exact trivial
 |some x =>
  simp only[copt]at h
  obtain ⟨y,h1,h2⟩:=Option.map_eq_some_iff.1 h
  subst h2
  exact zaq hs h1
theorem zi8 (hs:Knows inv w0 M φ σ β a w) {o:Oper} {c:Call} {e:AVal} (ho:o.op=.call c) (hc:zkM P inv o.type c=some e) {K:AV->Prop} (h:zea φ σ e K) :
  ∃ x y,K x/\rel (ctx inv M σ β w) x y/\(execOp a.eval o).run P w=.ok (.value y) w:=by
 obtain ⟨callee,⟨args⟩,⟨ts⟩⟩:=c
 unfold zkM at hc
 split at hc
 ·-- len
  rename_i x t e0 e1 e2
  simp only at e0 e1 e2
  subst e0 e1 e2
  split at hc
  ·rename_i et d e1 h1
   simp only[Option.some.injEq]at hc
   subst hc
   have r1:=zaq hs h1
   have key:∀ (ad:Option Addr) (n cap:Nat),a.eval x=.slice ad n cap->(execOp a.eval o).run P w=.ok (.value (.int .i64 n)) w:=by
    intro ad n cap hv
    simp[execOp,ho,resolve,invoke,builtin,Builtin.len_,run_underlying e1,hv,goInt]
   simp only[zea]at h
   split at h
   ·rename_i sz es ees
    rw[ees]at r1
    simp only[rel]at r1
    obtain ⟨ad,cap,q1,_⟩:=r1
    exact ⟨_,_,h,by simp only[rel],key _ _ _ q1⟩
   ·rename_i sz ees
    rw[ees]at r1
    simp only[rel]at r1
    obtain ⟨ad,q1⟩:=r1
    exact ⟨_,_,h,by simp only[rel];rfl,key _ _ _ q1⟩
   ·rename_i l ver off n sz ees
    rw[ees]at r1
    obtain ⟨p,ad,cap,_,_,_,q1,_⟩:=zdW h.1 r1
    exact ⟨_,_,h.2,by simp only[rel],key _ _ _ q1⟩
   ·exact h.elim
  ·rename_i n et d e1 h1
   simp only[Option.some.injEq]at hc
   subst hc
   refine ⟨_,.int .i64 n,h,by simp only[ev,rel], ?_⟩
   simp[execOp,ho,resolve,invoke,builtin,Builtin.len_,run_underlying e1,goInt]
  ·cases hc
 ·-- cap
  rename_i x t e0 e1 e2
  simp only at e0 e1 e2
  subst e0 e1 e2
  split at hc
  ·rename_i et d e1 h1
   simp only[Option.some.injEq]at hc
   subst hc
   have r1:=zaq hs h1
   simp only[zea]at h
   split at h
   ·rename_i sz ees
    rw[ees]at r1
    simp only[rel]at r1
    obtain ⟨ad,q1⟩:=r1
    refine ⟨_,.int .i64 0,h,by simp only[rel], ?_⟩
    simp[execOp,ho,resolve,invoke,builtin,Builtin.cap_,run_underlying e1,q1,goInt]
   ·exact h.elim
  ·cases hc
 ·-- min
  rename_i x y e0 e1
  simp only at e0 e1
  subst e0 e1
  split at hc
  ·rename_i dx dy h1 h2
   simp only[Option.some.injEq]at hc
   subst hc
   have r1:=zaq hs h1
   have r2:=zaq hs h2
   simp only[zea]at h
   split at h
   ·rename_i k p k' q ep eq
    rw[ep]at r1
    rw[eq]at r2
    simp only[rel]at r1 r2
    obtain ⟨rfl,h⟩:=h
    refine ⟨_,.int k (if q<p then q else p),h,by simp only[rel,if_true], ?_⟩
    simp[execOp,ho,resolve,invoke,builtin,Builtin.min_,Builtin.min2,r1,r2,List.foldlM]
   ·exact h.elim
  ·cases hc
 ·-- max
  rename_i x y e0 e1
  simp only at e0 e1
  subst e0 e1
  split at hc
  ·rename_i dx dy h1 h2
   simp only[Option.some.injEq]at hc
   subst hc
   have r1:=zaq hs h1
   have r2:=zaq hs h2
   simp only[zea]at h
   split at h
   ·rename_i k p k' q ep eq
    rw[ep]at r1
    rw[eq]at r2
    simp only[rel]at r1 r2
    obtain ⟨rfl,h⟩:=h
    refine ⟨_,.int k (if p<q then q else p),h,by simp only[rel,Bool.false_eq_true,if_false], ?_⟩
    simp[execOp,ho,resolve,invoke,builtin,Builtin.max_,Builtin.max2,r1,r2,List.foldlM]
   ·exact h.elim
  ·cases hc
 ·cases hc
set_option maxHeartbeats 1000000 in
theorem zpa (hs:Knows inv w0 M φ σ β a w) {o:Oper} {e:AVal} (hc:zgH P inv o=some e) {K:AV->Prop} (h:zea φ σ e K) :
  ∃ x y,K x/\rel (ctx inv M σ β w) x y/\(execOp a.eval o).run P w=.ok (.value y) w:=by
 unfold zgH at hc
 split at hc
 ·-- move
  rename_i x ho
  obtain ⟨d,h1,rfl⟩:=Option.map_eq_some_iff.1 hc
  refine ⟨_,_,h,zaq hs h1, ?_⟩
  simp only[execOp,ho,Sem.run_pure]
 ·rename_i x ho
  obtain ⟨d,h1,rfl⟩:=Option.map_eq_some_iff.1 hc
  refine ⟨_,_,h,zaq hs h1, ?_⟩
  simp only[execOp,ho,Sem.run_pure]
 ·-- pick
  rename_i oc oa ob ho
  split at hc
  ·rename_i dc da db h1 h2 h3
   simp only[Option.some.injEq]at hc
   subst hc
   have r1:=zaq hs h1
   have r2:=zaq hs h2
   have r3:=zaq hs h3
   simp only[zea]at h
   split at h
   ·rename_i t et
    rw[et]at r1
    simp only[rel]at r1
    cases t with
    |true=>exact ⟨_,_,h.1 rfl,r2,by simp[execOp,ho,r1,asBool]⟩
    |false=>exact ⟨_,_,h.2 rfl,r3,by simp[execOp,ho,r1,asBool]⟩
   ·exact h.elim
  ·cases hc
 ·-- binOp
  rename_i op t x y _ ho
  split at hc
  ·rename_i ty dx dy h1 h2 h3
   simp only[Option.some.injEq]at hc
   subst hc
   simp only[zea]at h
   obtain ⟨z,r,k1,k2,k3⟩:=zpe (ox:=x) (oy:=y) h1 (zaq hs h2) (zaq hs h3) h
   refine ⟨z,r,k1,k2, ?_⟩
   simp only[execOp,ho,Sem.run_bind,Sem.run_pure]at k3 |-
   rw[k3]
   rfl
  ·cases hc
 ·-- not
  rename_i x ho
  obtain ⟨d,h1,rfl⟩:=Option.map_eq_some_iff.1 hc
  have r1:=zaq hs h1
  simp only[zea]at h
  split at h
  ·rename_i t et
   rw[et]at r1
   simp only[rel]at r1
   exact ⟨_,.bool (!t),h,by simp only[rel],by simp[execOp,ho,r1,Op.unary]⟩
  ·exact h.elim
 ·-- convert
  rename_i src dst x ho
  split at hc
  ·rename_i ds k d e1 e2 h1
   simp only[Option.some.injEq]at hc
   subst hc
   have r1:=zaq hs h1
   simp only[zea]at h
   split at h
   ·rename_i k' n et
    rw[et]at r1
    simp only[rel]at r1
    refine ⟨_,.int k (k.wrap n),h,by simp only[rel], ?_⟩
    simp only[execOp,ho,r1,convert,Sem.run_bind,run_underlying e1,run_underlying e2,Result.andThen_ok]
    cases ds<;>simp[Conv.intToInt]
   ·exact h.elim
  ·cases hc
 ·-- load
  rename_i t x ho
  split at hc
  ·rename_i n d h1 h2
   simp only[Option.some.injEq]at hc
   subst hc
   simp only[zea]at h
   obtain ⟨v,ev',h⟩:=za6 h
   obtain ⟨u,k1,k2⟩:=ziT hs h1 (zaq hs h2) ev'
   exact ⟨v,u,h,k1,by simp[execOp,ho,k2]⟩
  ·cases hc
 ·-- fieldAddr
  rename_i s x f ho
  split at hc
  ·rename_i fs d e1 h1
   split at hc
   ·rename_i fd e2
    split at hc
    ·rename_i n e3
     split at hc
     ·cases hc
     ·rename_i hn
      simp only[Option.some.injEq]at hc
      subst hc
      have r1:=zaq hs h1
      have key:∀ ad:Addr,(Instr.fieldAt s (.pointer (some ad)) f).run P w=.ok (.pointer (some (ad.add fd.offset))) w:=by
       intro ad
       simp[Instr.fieldAt,run_underlying e1,e2,Instr.sureAddr,fieldPlace,zde e3,hn]
      simp only[zea]at h
      split at h
      ·rename_i l ver off et
       rw[et]at r1
       obtain ⟨hl,h⟩:=h
       obtain ⟨p,hp,hv,r2⟩:=zdr hl r1
       refine ⟨_,_,h,zdL hp hv, ?_⟩
       simp only[execOp,ho,r2,Sem.run_bind,key,Result.andThen_ok,zcu,Sem.run_pure]
      ·rename_i sz es i k et
       rw[et]at r1
       simp only[rel]at r1
       obtain ⟨ad,r2,r3,r4,r5⟩:=r1
       refine ⟨_,.pointer (some (ad.add (i*sz+(k+fd.offset)))),h,by simp only[rel];exact ⟨ad,rfl,r3,r4,r5⟩, ?_⟩
       simp only[execOp,ho,r2,Sem.run_bind,key,Result.andThen_ok,ziX,Sem.run_pure,Nat.add_assoc]
      ·exact h.elim
    ·cases hc
   ·cases hc
  ·cases hc
 ·-- indexAddr
  rename_i t x i ho
  split at hc
  ·rename_i et dx di e1 h1 h2
   obtain ⟨n,h3,rfl⟩:=Option.map_eq_some_iff.1 hc
   have r1:=zaq hs h1
   have r2:=zaq hs h2
   have key:∀ (ad:Addr) (len cap:Nat) (k:IntKind) (j:Int),0<=j->j<len->(Instr.indexAt t (.slice (some ad) len cap) (.int k j)).run P w=.ok (.pointer (some (ad.add (j.toNat*n)))) w:=by
    intro ad len cap k j h0 hlt
    have:0<=j/\j<(len:Int):=⟨h0,hlt⟩
    simp[Instr.indexAt,asIntOf,run_underlying e1,this,zde h3]
   simp only[zea]at h
   split at h
   ·rename_i k j ej
    rw[ej]at r2
    simp only[rel]at r2
    split at h
    ·rename_i sz es exx _
     rw[exx]at r1
     obtain ⟨rfl,⟨h0,hlt⟩,h⟩:=h
     simp only[rel]at r1
     obtain ⟨ad,cap,q1,q2,q3⟩:=r1
     have hne:es≠[]:=fun e=>by rw[e]at hlt;simp at hlt;omega
     obtain ⟨a',rfl,q4,q5,q6⟩:=q3 hne
     refine ⟨_,.pointer (some (a'.add (j.toNat*sz))),h,by simp only[rel];exact ⟨a',by simp,q4,q5,q6⟩, ?_⟩
     simp only[execOp,ho,q1,r2,Sem.run_bind,key a' _ cap k j h0 hlt,Result.andThen_ok,Sem.run_pure]
    ·rename_i l ver off m sz exx _
     rw[exx]at r1
     obtain ⟨rfl,hl,⟨h0,hlt⟩,h⟩:=h
     obtain ⟨p,ad,cap,hp,hv,hb,q1,hcap,hr⟩:=zdW hl r1
     have hadd:ad=some ⟨p.block,off,none⟩:=by
      cases hreal:p.real with
      |false=>rw[hreal]at hr;simp at hr;omega
      |true=>rw[hreal]at hr;simp at hr;rcases hr.1 with e|e<;>first|omega|exact e
     subst hadd
     refine ⟨_,_,h,zdL hp hv, ?_⟩
     simp only[execOp,ho,q1,r2,Sem.run_bind,key _ _ cap k j h0 hlt,Result.andThen_ok,Sem.run_pure,zcu]
    ·rename_i exx e0;cases e0
    ·rename_i exx e0;cases e0
    ·exact h.elim
   ·exact h.elim
  ·rename_i m et dx di e1 h1 h2
   obtain ⟨n,h3,rfl⟩:=Option.map_eq_some_iff.1 hc
   have r1:=zaq hs h1
   have r2:=zaq hs h2
   have key:∀ (ad:Addr) (k:IntKind) (j:Int),0<=j->j<m->(Instr.indexAt t (.pointer (some ad)) (.int k j)).run P w=.ok (.pointer (some (ad.add (j.toNat*n)))) w:=by
    intro ad k j h0 hlt
    have:0<=j/\j<(m:Int):=⟨h0,hlt⟩
    simp[Instr.indexAt,asIntOf,run_underlying e1,Instr.sureAddr,this,zde h3]
   simp only[zea]at h
   split at h
   ·rename_i k j ej
    rw[ej]at r2
    simp only[rel]at r2
    split at h
    ·rename_i e0;cases e0
    ·rename_i e0;cases e0
    ·rename_i l ver off m' exx e0
     cases e0
     rw[exx]at r1
     obtain ⟨hl,⟨h0,hlt⟩,h⟩:=h
     obtain ⟨p,hp,hv,q1⟩:=zdr hl r1
     refine ⟨_,_,h,zdL hp hv, ?_⟩
     simp only[execOp,ho,q1,r2,Sem.run_bind,key _ k j h0 hlt,Result.andThen_ok,Sem.run_pure,zcu]
    ·rename_i sz es i' k' m' exx e0
     cases e0
     rw[exx]at r1
     obtain ⟨⟨h0,hlt⟩,h⟩:=h
     simp only[rel]at r1
     obtain ⟨ad,q1,q2,q3,q4⟩:=r1
     refine ⟨_,.pointer (some (ad.add (i'*sz+(k'+j.toNat*n)))),h,by simp only[rel];exact ⟨ad,rfl,q2,q3,q4⟩, ?_⟩
     simp only[execOp,ho,q1,r2,Sem.run_bind,key _ k j h0 hlt,Result.andThen_ok,Sem.run_pure,ziX,Nat.add_assoc]
    ·exact h.elim
   ·exact h.elim
  ·cases hc
 ·-- field
  rename_i t x f ho
  split at hc
  ·rename_i fs d e1 h1
   split at hc
   ·rename_i fd e2
    obtain ⟨n,h3,rfl⟩:=Option.map_eq_some_iff.1 hc
    have r1:=zaq hs h1
    simp only[zea]at h
    split at h
    ·rename_i cs ecs
     rw[ecs]at r1
     simp only[rel]at r1
     obtain ⟨zs,q1,q2⟩:=r1
     have key:∀ v,(part fd.type zs fd.offset).run P w=.ok v w->(execOp a.eval o).run P w=.ok (.value v) w:=by
      intro v hv
      simp only[execOp,ho,Instr.field,Sem.run_bind,run_underlying e1,Result.andThen_ok,e2,q1,asAgg,Sem.run_pure,hv]
     split at h
     ·obtain ⟨v,hv,h⟩:=za6 h
      obtain ⟨y,k1,k2⟩:=zlg q2 hv
      exact ⟨v,y,h,k2,key y (zbY h3 w zs _ y k1)⟩
     ·rename_i m
      exact ⟨_,_,h,zjF _ _ q2,key _ (zfM h3 w zs _)⟩
    ·exact h.elim
   ·cases hc
  ·cases hc
 ·-- index
  rename_i t x i ho
  split at hc
  ·rename_i m et dx di e1 h1 h2
   split at hc
   ·rename_i l n h3 h4
    simp only[Option.some.injEq]at hc
    subst hc
    have r1:=zaq hs h1
    have r2:=zaq hs h2
    simp only[zea]at h
    split at h
    ·rename_i cs k j ecs ej
     rw[ecs]at r1
     rw[ej]at r2
     simp only[rel]at r1 r2
     obtain ⟨zs,q1,q2⟩:=r1
     obtain ⟨⟨h0,hlt⟩,h⟩:=h
     have hb:0<=j/\j<(m:Int):=⟨h0,hlt⟩
     have key:∀ v,(part et zs (j.toNat*n)).run P w=.ok v w->(execOp a.eval o).run P w=.ok (.value v) w:=by
      intro v hv
      simp[execOp,ho,Instr.index,asIntOf,run_underlying e1,q1,r2,hb,zde h4,hv]
     cases l with
     |none =>
      obtain ⟨v,hv,h⟩:=za6 h
      obtain ⟨y,k1,k2⟩:=zlg q2 hv
      exact ⟨v,y,h,k2,key y (zbY h3 w zs _ y k1)⟩
     |some l =>
      have hl:=zmM h3
      rw[h4]at hl
      simp only[Option.some.injEq]at hl
      subst hl
      exact ⟨_,_,h,zjF _ _ q2,key _ (zfM h3 w zs _)⟩
    ·exact h.elim
   ·cases hc
  ·cases hc
 ·-- builtin
  rename_i c ho
  exact zi8 hs ho hc h
 ·-- extract
  rename_i x i ho
  obtain ⟨d,h1,rfl⟩:=Option.map_eq_some_iff.1 hc
  have r1:=zaq hs h1
  simp only[zea]at h
  split at h
  ·rename_i vs evs
   rw[evs]at r1
   simp only[rel]at r1
   obtain ⟨xs,q1,q2⟩:=r1
   obtain ⟨v,hv,h⟩:=za6 h
   obtain ⟨y,k1,k2⟩:=zkc q2 hv
   have k1':xs[i]?=some y:=by simpa using k1
   exact ⟨v,y,h,k2,by simp[execOp,ho,q1,Instr.extract,k1']⟩
  ·exact h.elim
 ·-- makeFunc
  rename_i f first captured ho
  split at hc
  ·rename_i hf
   split at hc
   ·rename_i j l h1 h2
    simp only[Option.some.injEq]at hc
    subst hc
    simp only[zea]at h
    refine ⟨_,.func (.func f) #[] (captured.map a.eval),h, ?_, ?_⟩
    ·simp only[rel]
     refine ⟨f,_,rfl,h1, ?_⟩
     have:=ziE hs h2
     rw[List.map_map]at this
     rw[Array.toList_map]
     exact this
    ·have hf':first=#[]:=Array.isEmpty_iff.1 hf
     simp[execOp,ho,Instr.makeFunc,hf']
   ·cases hc
  ·cases hc
 ·-- build
  rename_i t parts ho
  have key:∀ (cells:Array Value) (cs:List AV),P.built t (parts.map fun (i,x)=>(i,a.eval x)).toList=some cells->(execOp a.eval o).run P w=.ok (.value (.agg cells)) w:=by
   intro cells cs hb
   simp only[execOp,ho,Sem.run_bind,run_build w t _ cells hb,Result.andThen_ok,Sem.run_pure]
  split at hc
  ·rename_i fs z e1 e2
   split at hc
   ·rename_i hall
    obtain ⟨ps,h1,rfl⟩:=Option.map_eq_some_iff.1 hc
    simp only[zea]at h
    obtain ⟨cs,ecs,h⟩:=za6 h
    ·obtain ⟨it,zv,hi,hz,hzr⟩:=zcy (c:=ctx inv M σ β w) e2
     obtain ⟨cells',k1,k2⟩:=zeX hs h1 ecs hzr
     refine ⟨_,.agg cells',h,by simp only[rel];exact ⟨_,rfl,k2⟩,key cells' cs ?_⟩
     have hplaces:∀ l:List Field,(∀ f∈l,(P.info? f.type).isSome=true)->l.mapM (fun f=>(P.info? f.type).map fun i=>(f.offset,i.size))=some (l.map fun f=>(f.offset,P.cellsOf f.type)):=by
      intro l
      induction l with
      |nil=>intro _;rfl
      |cons f l ih =>
       intro hl
       obtain ⟨i,hi⟩:=Option.isSome_iff_exists.1 (hl f (by simp))
       simp[List.mapM_cons,hi,ih (fun f hf=>hl f (by simp[hf])),Program.cellsOf]
     have hall':∀ f∈fs.toList,(P.info? f.type).isSome=true:=by unfold zog at hall;exact List.all_eq_true.1 hall
     simp only[Program.built,hi,e1,hz,hplaces fs.toList hall']
     rw[<-k1,Array.toList_map]
     congr 1
     funext i
     simp only[zhB,List.getElem?_toArray,List.getElem?_map,Array.getElem?_toList]
     cases e3:fs[i]? with
     |none=>rfl
     |some f =>
      have hm:f∈fs.toList:=by
       have:=Array.mem_of_getElem? e3
       simpa using this
      obtain ⟨ii,hii⟩:=Option.isSome_iff_exists.1 (hall' f hm)
      simp[siz,hii,Program.cellsOf]
   ·cases hc
  ·rename_i m et z e1 e2
   split at hc
   ·rename_i n e3
    obtain ⟨ps,h1,rfl⟩:=Option.map_eq_some_iff.1 hc
    simp only[zea]at h
    obtain ⟨cs,ecs,h⟩:=za6 h
    ·obtain ⟨it,zv,hi,hz,hzr⟩:=zcy (c:=ctx inv M σ β w) e2
     obtain ⟨cells',k1,k2⟩:=zeX hs h1 ecs hzr
     obtain ⟨ie,hie,hn,_⟩:=zjX e3
     refine ⟨_,.agg cells',h,by simp only[rel];exact ⟨_,rfl,k2⟩,key cells' cs ?_⟩
     simp only[Program.built,hi,e1,hz,hie]
     rw[<-k1,Array.toList_map,hn]
     rfl
   ·cases hc
  ·cases hc
 ·-- slice
  rename_i t x lo hi mx ho
  split at hc
  ·rename_i et dx dlo dhi dmx e1 h1 h2 h3 h4
   obtain ⟨n,h5,rfl⟩:=Option.map_eq_some_iff.1 hc
   simp only[zea]at h
   obtain ⟨z,r,k1,k2,k3⟩:=zjJ (F:=fun lo hi mx=>Instr.sliceAt t (a.eval x) lo hi mx) (fun A len cap hu lo hi mx l h m hm hh hl=>by rw[hu];exact zmr e1 h5 A len cap hm hh hl) (zaq hs h1) (zeZ hs h2) (zeZ hs h3) (zeZ hs h4) h
   exact ⟨z,r,k1,k2,by simp only[execOp,ho,Sem.run_bind,k3,Result.andThen_ok,Sem.run_pure]⟩
  ·rename_i m et dx dlo dhi dmx e1 h1 h2 h3 h4
   obtain ⟨n,h5,rfl⟩:=Option.map_eq_some_iff.1 hc
   have r1:=zaq hs h1
   simp only[zea]at h
   split at h
   ·rename_i l ver off ep
    rw[ep]at r1
    obtain ⟨hl,⟨h0,hle⟩,h⟩:=h
    obtain ⟨p,hp,hv,r2⟩:=zdr hl r1
    have hsm:rel (ctx inv M σ β w) (.sm l ver off m n) (.slice (some ⟨p.block,off,none⟩) m m):=zp5 hs.mem hl hp hv h0 hle
    obtain ⟨z,r,k1,k2,k3⟩:=zjJ (F:=fun lo hi mx=>Instr.sliceAt t (a.eval x) lo hi mx) (fun A len cap hu lo hi mx l h m hm hh hl=>by
     simp only[Value.slice.injEq]at hu
     obtain ⟨rfl,rfl,rfl⟩:=hu
     rw[r2]
     exact zhN e1 h5 _ hm hh hl) hsm (zeZ hs h2) (zeZ hs h3) (zeZ hs h4) h
    exact ⟨z,r,k1,k2,by simp only[execOp,ho,Sem.run_bind,k3,Result.andThen_ok,Sem.run_pure]⟩
   ·exact h.elim
  ·cases hc
 ·-- nilCheck
  rename_i x ho
  obtain ⟨d,h1,rfl⟩:=Option.map_eq_some_iff.1 hc
  have r1:=zaq hs h1
  simp only[zea]at h
  split at h
  ·rename_i l ver off et
   rw[et]at r1
   obtain ⟨hl,h⟩:=h
   obtain ⟨p,hp,hv,r2⟩:=zdr hl r1
   exact ⟨_,_,h,r1,by simp[execOp,ho,r2]⟩
  ·rename_i sz es i k et
   rw[et]at r1
   have r1':=r1
   simp only[rel]at r1
   obtain ⟨ad,r2,_⟩:=r1
   exact ⟨_,_,h,r1',by simp[execOp,ho,r2]⟩
  ·rename_i j cs et
   rw[et]at r1
   have r1':=r1
   simp only[rel]at r1
   obtain ⟨g,xs,r2,_⟩:=r1
   exact ⟨_,_,h,r1',by simp[execOp,ho,r2]⟩
  ·exact h.elim
 ·-- lookup
  rename_i t x k ho
  split at hc
  ·rename_i kt vt e1
   split at hc
   ·rename_i dx dk e2 e3 h1 h2
    simp only[Option.some.injEq]at hc
    subst hc
    have r1:=zaq hs h1
    have r2:=zaq hs h2
    simp only[zea]at h
    obtain ⟨v,ev1,h⟩:=za6 h
    unfold zl4 at ev1
    split at ev1
    ·rename_i l b em ek
     split at ev1
     ·rename_i kvs hg
      simp only[Option.some.injEq]at ev1
      subst ev1
      rw[em]at r1
      rw[ek]at r2
      simp only[rel]at r1 r2
      have hp:zan β w σ l=some ⟨β l,0,0,true⟩:=by unfold zan;rw[hg]
      have hm:=r1.2 _ hp rfl
      obtain ⟨es,clk,hh,hes⟩:=hs.mem.maps l kvs hg
      obtain ⟨i,hi,hz⟩:=Option.bind_eq_some_iff.1 e3
      refine ⟨_,.int .i64 (zgj kvs b),h,by simp only[rel], ?_⟩
      have hck:=fun e=>Go.MapKept.run_checkKey (w:=w) (k:=.int .i64 b) e2 rfl e 9999
      have hfk:(Instr.findKey kt (.int .i64 b) es.toList).run P w=.ok (ziv es.toList b 0) w:=by
       simp only[Instr.findKey,Sem.run_bind,run_underlying e2,Result.andThen_ok,zgF b es.toList kvs 0 hes,Sem.run_pure]
      have hz':(zeroValue vt).run P w=.ok (.int .i64 0) w:=by simp[zeroValue,typeInfo,hi,hz]
      have hl:(Instr.lookup t (a.eval x) (a.eval k) false).run P w=.ok (.int .i64 (zgj kvs b)) w:=by
       rw[hm,r2]
       rcases zlJ b es.toList kvs 0 hes with ⟨f1,f2⟩|⟨j,f1⟩
       ·rw[f1]at hfk
        simp only[Instr.lookup,Sem.run_bind,run_underlying e1,Result.andThen_ok,Go.MapKept.run_getObj_map hh,Sem.run_pure,hck,hfk,hz',f2]
        rfl
       ·rw[f1]at hfk
        simp only[Instr.lookup,Sem.run_bind,run_underlying e1,Result.andThen_ok,Go.MapKept.run_getObj_map hh,Sem.run_pure,hck,hfk]
        rfl
      simp only[execOp,ho,Sem.run_bind,hl,Result.andThen_ok,Sem.run_pure]
     ·cases ev1
    ·cases ev1
   ·cases hc
  ·cases hc
 ·cases hc
end
inductive AOp where
 |set (d:Nat) (e:AVal)
 |alloc (d:Nat) (zero:List (Nat×AV))
 |box (d n:Nat) (x:Opd)
 |isnil (d:Nat) (neg:Bool) (x:Opd)
 |mks0 (d sz:Nat)
 |mksl (d sz len:Nat) (zero:List (Nat×AV)) (parts:List (Nat×Nat×Opd))
 |store (n:Nat) (a x:Opd)
 |app (d:Nat) (s x:Opd) (sz:Nat)
 |make (d:Nat) (len cap:Opd) (zero:List (Nat×AV)) (sz:Nat)
 |call (d:Option Nat) (j:Nat) (args:List Opd)
 |calv (d:Option Nat) (f:Opd) (args:List Opd)
 |callp (d j:Nat) (args:List Opd)
 |gal (d back:Nat) (zero:List (Nat×AV))
 |storeA (n:Nat) (a x:Opd) (pts:List Opd)
 |bad (d:Option Nat)
 |mkmap (d:Nat)
 |mapset (m k v:Opd)
 |appz (d:Nat) (s n:Opd) (zero:List (Nat×AV)) (sz:Nat)
 |calle (d:Option Nat) (j:Nat) (args:List Opd)
 |calve (d:Option Nat) (f:Opd) (args:List Opd)
 |appe (d:Nat) (s x:Opd) (sz:Nat)
 |appA (d:Nat) (s x:Opd) (sz:Nat) (pts:List Opd)
 deriving Inhabited
def AOp.dst:AOp->Option Nat
 |.set d _=>some d|.alloc d _=>some d|.box d _ _=>some d|.isnil d _ _=>some d|.mks0 d _=>some d|.mksl d _ _ _ _=>some d|.store _ _ _=>none|.app d _ _ _=>some d|.make d _ _ _ _=>some d
 |.call d _ _=>d|.calv d _ _=>d|.callp d _ _=>some d|.gal d _ _=>some d|.storeA _ _ _ _=>none|.bad d=>d|.mkmap d=>some d|.mapset _ _ _=>none|.appz d _ _ _ _=>some d|.calle d _ _=>d|.calve d _ _=>d|.appe d _ _ _=>some d|.appA d _ _ _ _=>some d
abbrev GOp:=Option (Nat×Bool)×AOp
inductive ACode where
 |skip
 |reg (ops:List GOp)
 |regd (k:Nat) (ops:List GOp)
 |seq (x y:ACode)
 |cond (c:Opd) (x y:ACode)
 |block (id:Nat) (c:ACode)
 |loop (c:ACode)
 |exit (id:Nat)
 |ret
 |scope (c:ACode)
 |label (l:Nat)
 |goto (l:Nat)
 deriving Inhabited
inductive ARes where
 |tmp (t:Nat)
 |cell (t:Nat) (l:Option Nat)
 deriving Inhabited
structure AFn where
 ntmps:Nat
 res:List ARes
 body:ACode
 deriving Inhabited
def Opd.rd:Opd->List Nat|.t i=>[i]|.c _=>[]
def zmy:Option Opd->List Nat|some x=>x.rd|none=>[]
def zfV:List Opd->List Nat|[]=>[]|x::r=>x.rd++zfV r
def zib:List (Nat×Nat×Opd)->List Nat|[]=>[]|(_,_,x)::r=>x.rd++zib r
def AVal.rd:AVal->List Nat
 |.mov x=>x.rd|.pick c a b=>c.rd++(a.rd++b.rd)|.bin _ _ x y=>x.rd++y.rd|.not x=>x.rd|.conv _ x=>x.rd|.load _ a=>a.rd|.fadr a _=>a.rd
 |.iadr x i _ _=>x.rd++i.rd|.fld x _ _=>x.rd|.idx x i _ _ _=>x.rd++i.rd|.len x=>x.rd|.ext x _=>x.rd|.mkfn _ l=>zfV l|.build _ ps=>zib ps
 |.slc x lo hi mx _=>x.rd++(zmy lo++(zmy hi++zmy mx))|.slca x lo hi mx _ _=>x.rd++(zmy lo++(zmy hi++zmy mx))|.nilck x=>x.rd|.mnx _ x y=>x.rd++y.rd|.cap x=>x.rd|.look m k=>m.rd++k.rd
def AOp.rd:AOp->List Nat
 |.set _ e=>e.rd|.alloc _ _=>[]|.box _ _ x=>x.rd|.isnil _ _ x=>x.rd|.mks0 _ _=>[]|.mksl _ _ _ _ ps=>zib ps|.store _ a x=>a.rd++x.rd|.app _ s x _=>s.rd++x.rd|.make _ l c _ _=>l.rd++c.rd
 |.call _ _ l=>zfV l|.calv _ f l=>f.rd++zfV l|.callp _ _ l=>zfV l|.gal _ _ _=>[]|.storeA _ a x _=>a.rd++x.rd|.bad _=>[]|.mkmap _=>[]|.mapset m k v=>m.rd++(k.rd++v.rd)|.appz _ s n _ _=>s.rd++n.rd|.calle _ _ l=>zfV l|.calve _ f l=>f.rd++zfV l|.appe _ s x _=>s.rd++x.rd|.appA _ s x _ _=>s.rd++x.rd
def grd (g:GOp):List Nat:=match g.1 with|some (s,_)=>s::g.2.rd|none=>g.2.rd
def memN:List Nat->Nat->Bool
 |[],_=>false
 |x::r,i=>Nat.beq x i||memN r i
def zoW:AOp->Bool|.set _ _=>true|.callp _ _ _=>true|_=>false
def zoY:GOp->Bool|(none,.gal _ _ _)=>true|_=>false
def zex:AOp->Bool|.store _ _ _=>true|.storeA _ _ _ _=>true|.mapset _ _ _=>true|.appA _ _ _ _ _=>true|_=>false
def zmQ:AOp->Bool|.appA _ _ _ _ _=>true|_=>false
def isFree:AOp->Bool|.set _ (.mov _)=>true|_=>false
def zlz:AOp->Bool|.calle _ _ _=>true|.calve _ _ _=>true|.appe _ _ _ _=>true|_=>false
def plain:AOp->AOp|.storeA n a x _=>.store n a x|.appA d s x sz _=>.appA d s x sz []|o=>o
def zch (g:GOp):GOp:=(g.1,plain g.2)
def zi0:AOp->List Opd|.storeA _ _ _ pts=>pts|.appA _ _ _ _ pts=>pts|_=>[]
def ldPt:AOp->List Opd->Bool
 |.set _ (.load _ (.t s)),pts=>pts.any fun q=>match q with|.t s'=>Nat.beq s s'|.c _=>false
 |.set _ (.fadr (.t s) _),pts=>pts.any fun q=>match q with|.t s'=>Nat.beq s s'|.c _=>false
 |_,_=>false
def isLdS:AOp->Bool|.set _ (.load _ _)=>true|.set _ (.fadr _ _)=>true|_=>false
def isLd:AVal->Bool|.load _ _=>true|.look _ _=>true|_=>false
def isLdO:AOp->Bool|.set _ e=>isLd e|.callp _ _ _=>true|_=>false
def zhk (a b:Option Nat):Bool:=match a,b with|some a,some b=>!Nat.beq a b|_,_=>true
def zdi (l:List Nat) (d:Option Nat):Bool:=match d with|some d=>memN l d|none=>false
def zfQ (o:Oper):List Nat:=(o.after.toList.filter fun e=>Region.binds .any e).map (·.on)
def allIn (bits:Nat):List Nat->Bool
 |[]=>true
 |p::r=>bits.testBit p&&allIn bits r
def gAt (gs:List GOp) (i:Nat):GOp:=gs[i]?.getD (none,.set 0 (.mov (.c .u)))
def zqx (gs:List GOp) (prs:List (List Nat)) (bits:Nat):Bool->List Nat->Option Nat
 |_,[]=>none
 |v,i::r=>if !bits.testBit i&&allIn bits (prs[i]?.getD [])&&(!v||zoW (gAt gs i).2) then some i else zqx gs prs bits v r
def zey (gs:List GOp) (prs:List (List Nat)) (is:List Nat):Nat->Nat->List Nat
 |0,_=>[]
 |k+1,bits=>match zqx gs prs bits true is with
  |some i=>i::zey gs prs is k (bits ||| 2 ^ i)
  |none=>match zqx gs prs bits false is with
   |some i=>i::zey gs prs is k (bits ||| 2 ^ i)
   |none=>[]
def orBits:List Nat->Nat
 |[]=>0
 |x::r=>x ||| orBits r
def znE:List Nat->List Nat->Nat
 |_,[]=>0
 |acc,p::r=>(2 ^ p ||| (acc[p]?.getD 0)) ||| znE acc r
def ancGo:List Nat->List (List Nat)->List Nat
 |acc,[]=>acc
 |acc,ps::r=>ancGo (acc++[znE acc ps]) r
def zgC (anc:List Nat) (i a:Nat):Bool:=(anc[i]?.getD 0).testBit a
def zlo (gs:List GOp) (anc:List Nat) (j i:Nat):Bool :=
 !Nat.beq j i&&zhk (gAt gs j).2.dst (gAt gs i).2.dst&&(!isLdS (gAt gs j).2||!zdi (grd (gAt gs j)) (gAt gs i).2.dst) &&
  ((ldPt (gAt gs j).2 (zi0 (gAt gs i).2)&&!zlz (gAt gs i).2&&!zdi (grd (gAt gs i)) (gAt gs j).2.dst&&!zdi (grd (gAt gs j)) (gAt gs i).2.dst&&!zdi (grd (gAt gs j)) (gAt gs j).2.dst)||zgC anc i j||(zoY (gAt gs j)&&zoY (gAt gs i))||(zoW (gAt gs j).2&&!zlz (gAt gs i).2&&!(zex (gAt gs i).2&&isLdO (gAt gs j).2)&&(!zmQ (gAt gs i).2||isFree (gAt gs j).2)&&!zdi (grd (gAt gs i)) (gAt gs j).2.dst&&!zdi (grd (gAt gs j)) (gAt gs i).2.dst))
def zkj (gs:List GOp) (anc:List Nat):List Nat->Bool
 |[]=>true
 |j::r=>(r.all fun i=>zlo gs anc j i)&&zkj gs anc r
def zh6 (prs:List (List Nat)):List Nat->List Nat->Bool
 |_,[]=>true
 |pre,i::r=>((prs[i]?.getD []).all fun p=>memN pre p)&&zh6 prs (i::pre) r
def zro (ord:List Nat) (n:Nat):Bool:=(List.range n).all fun i=>memN ord i
def ancOk (prs:List (List Nat)) (anc:List Nat) (n:Nat):Bool:=(List.range n).all fun i=>(List.range n).all fun a=>!zgC anc i a||(prs[i]?.getD []).any fun p=>Nat.beq p a||zgC anc p a
def znV (ord:List Nat) (n:Nat):Bool:=ord.all fun i=>Nat.blt i n
def zlQ (gs:List GOp) (prs:List (List Nat)) (anc ord:List Nat) (n:Nat):Bool :=
 zkj gs anc ord&&zh6 prs [] ord&&zro ord n&&ancOk prs anc n&&znV ord n
section compile
variable (P:Program) (inv:Nat->Option Nat) (n:Nat)
def zru (ty:TypeId) (d:Option Nat) (c:Call):Option AOp :=
 match c.callee with
 |.value (.func g)=>match inv g,zlS P inv (c.argTypes.toList.zip c.args.toList) with
  |some j,some l=>if c.argTypes.size=c.args.size then some (.call d j l) else none
  |_,_=>none
 |.value f=>match zc9 P inv ty f,zlS P inv (c.argTypes.toList.zip c.args.toList) with
  |some f,some l=>if c.argTypes.size=c.args.size then some (.calv d f l) else none
  |_,_=>none
 |.builtin .append=>match d,c.args.toList,c.argTypes.toList with
  |some d,[s,x],[t,u]=>match P.underlying t,P.underlying u,zc9 P inv t s,zc9 P inv u x with
   |some (.slice e),some (.slice _),some s,some x=>match P.info? e with
    |some i=>match i.zero with
     |some z=>if 0<i.size/\z.cells.size=i.size/\i.bytes<=32768 then some (.app d s x i.size) else none
     |none=>none
    |none=>none
   |some (.slice e),some (.int _),some s,some x=>match P.info? e,zej P e with
    |some i,some z=>if 0<i.size/\(zeg z).length=i.size/\i.bytes<=32768 then some (.appz d s x z i.size) else none
    |_,_=>none
   |_,_,_,_=>none
  |_,_,_=>none
 |_=>none
def zdd (o:Oper):Option AOp :=
 match o.op with
 |.alloc t=>(zej P t).map (.alloc (o.dst.getD 0))
 |.box t x=>match siz P t,zc9 P inv t x with|some k,some x=>some (.box (o.dst.getD 0) k x)|_,_=>none
 |.binOp op t x (.const (.slice none 0 0)) _=>match P.underlying t with
  |some (.slice _)=>match op,zc9 P inv t x with
   |.eql,some x=>some (.isnil (o.dst.getD 0) false x)
   |.neq,some x=>some (.isnil (o.dst.getD 0) true x)
   |_,_=>none
  |_=>none
 |.buildSlice t len parts=>if len=0/\parts.isEmpty=true then (match P.underlying t with
  |some (.slice e)=>(siz P e).map (.mks0 (o.dst.getD 0))
  |_=>none) else match P.underlying t with
  |some (.slice e)=>match siz P e,zej P e with
   |some k,some z=>match zfb P inv (fun i=>some (i*k,k,e)) parts.toList with
    |some ps=>if 0<k/\0<len/\len*k<=16777216/\(zeg z).length=k then some (.mksl (o.dst.getD 0) k len z ps) else none
    |none=>none
   |_,_=>none
  |_=>none
 |.store t a x=>match siz P t,zc9 P inv o.type a,zc9 P inv t x with|some k,some a,some x=>some (.store k a x)|_,_,_=>none
 |.makeSlice t l c=>match P.underlying t with
  |some (.slice e)=>match P.info? e,zej P e,zc9 P inv o.type l,zc9 P inv o.type c with
   |some i,some z,some l,some c=>if 0<i.size/\(zeg z).length=i.size/\i.bytes<=32768 then some (.make (o.dst.getD 0) l c z i.size) else none
   |_,_,_,_=>none
  |_=>none
 |.call c=>zru P inv o.type o.dst c
 |.makeMap _ none=>some (.mkmap (o.dst.getD 0))
 |.mapUpdate t m k v=>match P.underlying t with
  |some (.map kt vt)=>match P.underlying kt,zc9 P inv t m,zc9 P inv kt k,zc9 P inv vt v with
   |some (.int .i64),some m,some k,some v=>some (.mapset m k v)
   |_,_,_,_=>none
  |_=>none
 |_=>none
def zlP:Option Nat->Bool
 |some d=>decide (d<n)
 |none=>true
def zbB (o:Oper):Option AOp :=
 match zgH P inv o with
 |some e=>match o.dst with
  |some d=>if d<n then some (.set d e) else none
  |none=>none
 |none=>match zdd P inv o with
  |some op=>if op.dst=o.dst/\zlP n o.dst=true then some op else none
  |none=>if zlP n o.dst=true then some (.bad o.dst) else none
def zfd (ops:Array Oper):Option (Nat×Bool)->Option (Option (Nat×Bool))
 |none=>some none
 |some (j,want)=>match (ops[j]?).bind (·.dst) with
  |some s=>if s<n then some (some (s,want)) else none
  |none=>none
def zbw (ops:Array Oper):List Oper->Option (List GOp)
 |[]=>some []
 |o::r=>match zfd n ops o.guard,zbB P inv n o,zbw ops r with
  |some g,some x,some l=>some ((g,x)::l)
  |_,_,_=>none
def zih:List GOp->Nat
 |[]=>0
 |(none,.alloc _ _)::r=>zih r+1
 |_::r=>zih r
def ptsAt (gs:List GOp) (anc:List Nat) (i:Nat):List Nat->List Opd
 |[]=>[]
 |j::r=>if Nat.beq j i=true then [] else match (gAt gs j).2 with
  |.set _ (.load _ p)=>if zgC anc i j=true then ptsAt gs anc i r else p::ptsAt gs anc i r
  |_=>ptsAt gs anc i r
def zoG (gs:List GOp) (anc:List Nat) (i:Nat):List Nat->List Opd
 |[]=>[]
 |j::r=>if Nat.beq j i=true then [] else match (gAt gs j).2 with
  |.set _ (.load _ p)=>if zgC anc i j=true then zoG gs anc i r else p::zoG gs anc i r
  |.set _ (.fadr p _)=>if zgC anc i j=true then zoG gs anc i r else p::zoG gs anc i r
  |_=>zoG gs anc i r
def addPt (gs:List GOp) (anc ord:List Nat) (i:Nat):GOp:=match gAt gs i with
 |(g,.store n a x)=>(g,.storeA n a x (ptsAt gs anc i ord))
 |g=>g
def ziY (gs:List GOp) (anc ord:List Nat):List GOp:=(List.range gs.length).map (addPt gs anc ord)
def anchored (anc:List Nat) (i:Nat) (ord:List Nat):Bool:=ord.all fun k=>Nat.beq k i||zgC anc i k||zgC anc k i
def effOp (gs:List GOp) (anc ord:List Nat) (i:Nat) (g:GOp):GOp:=match anchored anc i ord,g with
 |true,(gd,.call d j l)=>(gd,.calle d j l)
 |true,(gd,.calv d f l)=>(gd,.calve d f l)
 |true,(gd,.app d s x sz)=>(gd,.appe d s x sz)
 |false,(gd,.app d (.t s) x sz)=>(gd,.appA d (.t s) x sz (zoG gs anc i ord))
 |_,g=>g
def zm0 (gs:List GOp) (anc ord:List Nat):List GOp:=(List.range gs.length).map fun i=>effOp gs anc ord i (gAt gs i)
def zkf (k:Nat):Nat->List GOp->List GOp
 |_,[]=>[]
 |c,(none,.alloc d z)::r=>(none,.gal d (k-c) z)::zkf k (c+1) r
 |c,(g,.call (some d) j l)::r=>(g,.callp d j l)::zkf k c r
 |c,g::r=>g::zkf k c r
def drawn (prs:List (List Nat)) (gs:List GOp) (k:Nat):Option ACode :=
 let anc:=ancGo [] prs
 let ord:=zey gs prs (List.range gs.length) gs.length 0
 if zlQ (zm0 gs anc ord) prs anc ord gs.length then some (.regd k (ord.map (gAt (zm0 gs anc ord))))
 else if zlQ (ziY (zm0 gs anc ord) anc ord) prs anc ord gs.length then some (.regd k (ord.map (gAt (ziY (zm0 gs anc ord) anc ord))))
 else none
def zgb (ops:Array Oper):Option ACode :=
 match zbw P inv n ops ops.toList with
 |some gs=>match drawn (ops.toList.map zfQ) gs 0 with
  |some c=>some c
  |none=>drawn (ops.toList.map zfQ) (zkf (zih gs) 0 gs) (zih gs)
 |none=>none
def zap:Code->Option ACode
 |.skip=>some .skip
 |.region _ ops false=>(zbw P inv n ops ops.toList).map .reg
 |.region _ ops true=>zgb P inv n ops
 |.seq x y=>match zap x,zap y with|some x,some y=>some (.seq x y)|_,_=>none
 |.cond c x y=>match zc9 P inv 0 c,zap x,zap y with|some c,some x,some y=>some (.cond c x y)|_,_,_=>none
 |.block id c=>(zap c).map (.block id)
 |.loop c=>(zap c).map .loop
 |.exit id=>some (.exit id)
 |.ret=>some .ret
 |.scope c=>(zap c).map .scope
 |.label l=>some (.label l)
 |.goto l=>some (.goto l)
 |_=>none
def cres:List ResultVar->Option (List ARes)
 |[]=>some []
 |.tmp t::r=>(cres r).map (.tmp t::·)
 |.cell t ty::r=>match lay P ty,cres r with|some l,some r=>some (.cell t l::r)|_,_=>none
def zlU (fn:Func):Option AFn :=
 match fn.body,cres P fn.results.toList with
 |some c,some r=>(zap P inv fn.ntmps c).map fun c=>⟨fn.ntmps,r,c⟩
 |_,_=>none
end compile
def zca (P:Program) (inv:Nat->Option Nat):Prop:=P.follows .mixedOrders=true/\∀ g j,inv g=some j->∃ fn,P.funcs[g]?=some fn/\fn.body.isNone=false/\(fn.name == "runtime.NumGoroutine")=false
def Has (P:Program) (inv:Nat->Option Nat) (j:Nat) (F:AFn):Prop:=∀ g,inv g=some j->∃ fn,P.funcs[g]?=some fn/\zlU P inv fn=some F
section
variable (P:Program) (inv:Nat->Option Nat) (w0:World) (M:Nat->Prop)
def AC (N:Nat) (j:Nat) (args:List AV) (σ:AS) (R:AV->AS->Prop):Prop :=
 ∀ g,inv g=some j->∀ (β:Nat->Nat) (w:World) (vs:Array Value),Mem inv w0 M σ β w->zbZ (ctx inv M σ β w) args vs.toList ->
  Calls P g vs w fun e w'=>∃ v r σ' β',e=.returned v/\R r σ'/\Mem inv w0 M σ' β' w'/\Ext N (ctx inv M σ β w) (ctx inv M σ' β' w')/\rel (ctx inv M σ' β' w') r v
def CallK (N:Nat) (φ:AF) (σ:AS) (j:Nat) (args:List AV) (R:AV->AS->Prop) (_:Tok R:=.mk):Prop:=∃ N',N<=N'/\zaS φ<=N'/\AC P inv w0 M N' j args σ R
def zcS (φ:AF) (d:Option Nat) (x:AV):AF:=match d with|some d=>zbE φ d x|none=>φ
def asrc (σ:AS) (sz:Nat):AV->(Nat->List AV->Prop)->Prop
 |.s0 _,K=>K 0 []
 |.sl sz' es,K=>ob (sz'=sz) (K es.length es.flatten)
 |.sm l ver off n sz',K=>ob (sz'=sz) (match zaF σ l with
  |some (.cells cs _)=>ob (cs.length=ver) (K n (seg cs off (n*sz)))
  |_=>False)
 |_,_=>False
def zpl (φ:AF) (σ:AS) (l:Nat) (d sz:Nat) (dest:AV) (m:Nat) (new:List AV) (K:AF->AS->Prop):Prop :=
 match dest with
 |.s0 _=>ob (m<=2147483648) <| K (zbE φ d (.sm l (m*sz) 0 m sz)) (za8 σ l (.cells new (decide (0<m))))
 |.sm l ver off n sz'=>ob (sz'=sz) <| ob (off=0) <| ob (n*sz=ver) <| ob (n+m<=2147483648) (match zaF σ l with
  |some (.cells cs r)=>ob (cs.length=ver) <| K (zbE φ d (.sm l ((n+m)*sz) 0 (n+m) sz)) (za8 σ l (.cells (cs++new) (r||decide (0<m))))
  |_=>False)
 |_=>False
def SLe (σ σ':List (Nat×AO)):Prop:=∀ l o,zaF σ l=some o->o≠.rsv->zaF σ' l=some o
def PureK (σ:AS) (j:Nat) (args:List AV) (K:AV->Prop) (_:Tok K:=.mk):Prop:=∃ r,(∀ N' φ' σ',SLe σ σ'->CallK P inv w0 M N' φ' σ' j args fun r' σ''=>r'=r/\σ''=σ')/\K r
def zcn (b:Nat):Nat->List (Nat×AO)->List (Nat×AO)
 |0,σ=>σ
 |k+1,σ=>za8 (zcn b k σ) (b+k) .rsv
def zoP (n:Nat) (neg:Bool) (K:Bool->Prop) (_:Tok K:=.mk):Prop:=(n=0->K (!neg))/\K neg
def zhm (l:Nat):AV->Bool|.ptr l' _ _=>!Nat.beq l' l|_=>true
def zrG (φ:AF) (dest:AV) (pts:List Opd):Bool:=match dest with|.sm l _ _ _ _=>pts.all fun p=>zhm l (ev φ p)|_=>true
def zm5 (φ:AF) (l:Nat) (pts:List Opd):Bool:=pts.all fun p=>zhm l (ev φ p)
def aop (N:Nat) (o:AOp) (φ:AF) (σ:AS) (K:AF->AS->Prop):Prop :=
 match o with
 |.set d e=>zea φ σ e fun x=>K (zbE φ d x) σ
 |.alloc d zero=>K (zbE φ d (.ptr (zaB N φ σ) (zeg zero).length 0)) (za8 σ (zaB N φ σ) (.cells (zeg zero) true))
 |.box d n x=>ob ((ev φ x).sound=true) <| ob ((ev φ x).cells.length=n) <| K (zbE φ d (.ptr (zaB N φ σ) n 0)) (za8 σ (zaB N φ σ) (.cells (ev φ x).cells true))
 |.isnil d neg x=>match ev φ x with
  |.sl _ es=>zoP es.length neg fun t=>K (zbE φ d (.b t)) σ
  |.s0 _=>zoP 0 neg fun t=>K (zbE φ d (.b t)) σ
  |.sm l ver _ n _=>ob (zb9 σ l ver) <| zoP n neg fun t=>K (zbE φ d (.b t)) σ
  |_=>False
 |.mks0 d sz=>K (zbE φ d (.s0 sz)) σ
 |.mksl d sz len zero parts=>zcT (zee φ (List.replicate len (zeg zero)).flatten parts) fun cs =>
  match zag cs with
  |true=>K (zbE φ d (.sl sz (zb2 sz len cs))) σ
  |false=>K (zbE φ d (.sm (zaB N φ σ) (len*sz) 0 len sz)) (za8 σ (zaB N φ σ) (.cells cs true))
 |.store n a x=>match ev φ a with
  |.ptr l ver off=>match zaF σ l with
   |some (.cells cs r)=>ob (cs.length=ver) <| ob ((ev φ x).sound=true) <| ob ((ev φ x).cells.length=n) <| ob (0<n/\off+n<=ver) <| K φ (za8 σ l (.cells (ovl cs off (ev φ x).cells) r))
   |_=>False
  |_=>False
 |.app d s x sz=>asrc σ sz (ev φ x) fun m new=>zpl φ σ (zaB N φ σ) d sz (ev φ s) m new K
 |.make d len cap zero sz=>match ev φ len,ev φ cap with
  |.i _ a,.i _ c=>ob (0<=a/\a<=c/\c<=2147483648) <| K (zbE φ d (.sm (zaB N φ σ) (a.toNat*sz) 0 a.toNat sz)) (za8 σ (zaB N φ σ) (.cells (List.replicate a.toNat (zeg zero)).flatten true))
  |_,_=>False
 |.call d j args=>CallK P inv w0 M N φ σ j (args.map (ev φ)) fun r σ'=>K (zcS φ d r) σ'
 |.calv d f args=>match ev φ f with
  |.fn j caps=>CallK P inv w0 M N φ σ j (args.map (ev φ)++caps) fun r σ'=>K (zcS φ d r) σ'
  |_=>False
 |.callp d j args=>PureK P inv w0 M σ j (args.map (ev φ)) fun r=>K (zbE φ d r) σ
 |.gal d back zero=>match zaF σ (N-back) with
  |some .rsv=>ob (0<(zeg zero).length) <| K (zbE φ d (.ptr (N-back) (zeg zero).length 0)) (za8 σ (N-back) (.cells (zeg zero) true))
  |_=>False
 |.storeA n a x pts=>match ev φ a with
  |.ptr l ver off=>ob (zm5 φ l pts=true) (match zaF σ l with
   |some (.cells cs r)=>ob (cs.length=ver) <| ob ((ev φ x).sound=true) <| ob ((ev φ x).cells.length=n) <| ob (0<n/\off+n<=ver) <| K φ (za8 σ l (.cells (ovl cs off (ev φ x).cells) r))
   |_=>False)
  |_=>False
 |.bad _=>False
 |.calle d j args=>CallK P inv w0 M N φ σ j (args.map (ev φ)) fun r σ'=>K (zcS φ d r) σ'
 |.calve d f args=>match ev φ f with
  |.fn j caps=>CallK P inv w0 M N φ σ j (args.map (ev φ)++caps) fun r σ'=>K (zcS φ d r) σ'
  |_=>False
 |.appe d s x sz=>asrc σ sz (ev φ x) fun m new=>zpl φ σ (zaB N φ σ) d sz (ev φ s) m new K
 |.appA d s x sz pts=>asrc σ sz (ev φ x) fun m new=>ob (zrG φ (ev φ s) pts=true) (zpl φ σ (zaB N φ σ) d sz (ev φ s) m new K)
 |.mkmap d=>K (zbE φ d (.mp (zaB N φ σ))) (za8 σ (zaB N φ σ) (.imap []))
 |.mapset m k v=>match ev φ m,ev φ k,ev φ v with
  |.mp l,.i .i64 a,.i .i64 b=>(match zaF σ l with
   |some (.imap kvs)=>K φ (za8 σ l (.imap (zmA kvs a b)))
   |_=>False)
  |_,_,_=>False
 |.appz d s n zero sz=>match ev φ s,ev φ n with
  |.s0 _,.i .i64 a=>ob (0<=a/\a<=2147483648) <| K (zbE φ d (.sm (zaB N φ σ) (a.toNat*sz) 0 a.toNat sz)) (za8 σ (zaB N φ σ) (.cells (List.replicate a.toNat (zeg zero)).flatten (decide (0<a.toNat))))
  |_,_=>False
def zbL (N:Nat):List GOp->(AF->AS->Prop)->AF->AS->Prop
 |[],K,φ,σ=>K φ σ
 |(none,o)::r,K,φ,σ=>aop P inv w0 M N o φ σ (zbL N r K)
 |(some (s,true),o)::r,K,φ,σ=>match zbs φ s with
  |.b t=>zfk t (aop P inv w0 M N o (zjw φ s (.b true)) σ (zbL N r K)) (zbL N r K (zcS (zjw φ s (.b false)) o.dst .u) σ)
  |.u=>zbL N r K (zcS φ o.dst .u) σ
  |_=>False
 |(some (s,false),o)::r,K,φ,σ=>match zbs φ s with
  |.b t=>zfk t (zbL N r K (zcS (zjw φ s (.b true)) o.dst .u) σ) (aop P inv w0 M N o (zjw φ s (.b false)) σ (zbL N r K))
  |.u=>zbL N r K (zcS φ o.dst .u) σ
  |_=>False
def zbp (N:Nat) (o:AOp) (φ:AF) (σ:AS) (K:AF->AS->Prop):Prop :=
 match o with
 |.call d j args=>CallK P inv w0 M N φ σ j (args.map (ev φ)) fun r σ'=>ob (SLe σ σ') (K (zcS φ d r) σ')
 |.calv d f args=>match ev φ f with
  |.fn j caps=>CallK P inv w0 M N φ σ j (args.map (ev φ)++caps) fun r σ'=>ob (SLe σ σ') (K (zcS φ d r) σ')
  |_=>False
 |.app d s x sz=>aop P inv w0 M N (.app d s x sz) φ σ fun φ' σ'=>ob (SLe σ σ') (K φ' σ')
 |o=>aop P inv w0 M N o φ σ K
def zbu (N:Nat):List GOp->(AF->AS->Prop)->AF->AS->Prop
 |[],K,φ,σ=>K φ σ
 |(none,o)::r,K,φ,σ=>zbp P inv w0 M N o φ σ (zbu N r K)
 |(some (s,true),o)::r,K,φ,σ=>match zbs φ s with
  |.b t=>zfk t (zbp P inv w0 M N o (zjw φ s (.b true)) σ (zbu N r K)) (zbu N r K (zcS (zjw φ s (.b false)) o.dst .u) σ)
  |.u=>zbu N r K (zcS φ o.dst .u) σ
  |_=>False
 |(some (s,false),o)::r,K,φ,σ=>match zbs φ s with
  |.b t=>zfk t (zbu N r K (zcS (zjw φ s (.b true)) o.dst .u) σ) (zbp P inv w0 M N o (zjw φ s (.b false)) σ (zbu N r K))
  |.u=>zbu N r K (zcS φ o.dst .u) σ
  |_=>False
structure St (n:Nat) (φ:AF) (σ:AS) (β:Nat->Nat) (a:Act) (w:World):Prop extends Knows inv w0 M φ σ β a w where
 size:a.tmps.size=n
 defers:a.defers=[]
def AWp (N n:Nat) (c:ACode) (Q:Exit->AF->AS->Prop) (φ:AF) (σ:AS):Prop :=
 ∀ c₀,zap P inv n c₀=some c->∀ β a w,St inv w0 M n φ σ β a w ->
  c₀.wp P (fun e a' w'=>∃ φ' σ' β',Q e φ' σ'/\St inv w0 M n φ' σ' β' a' w'/\Ext N (ctx inv M σ β w) (ctx inv M σ' β' w')) a w
end
def ares (φ:AF) (σ:AS):ARes->Option AV
 |.tmp t=>some (zbs φ t)
 |.cell t l=>zdC σ l (zbs φ t)
def ziQ (φ:AF) (σ:AS):List ARes->Option (List AV)
 |[]=>some []
 |r::rs=>match ares φ σ r,ziQ φ σ rs with|some x,some l=>some (x::l)|_,_=>none
def zed (φ:AF) (σ:AS) (rs:List ARes):Option AV :=
 match ziQ φ σ rs with
 |some [x]=>some x
 |some l=>some (.tup l)
 |none=>none
def zm8:Nat->List AV->List (Nat×AV)
 |_,[]=>[]
 |k,x::xs=>(k,x)::zm8 (k+1) xs
section
variable {P:Program} {inv:Nat->Option Nat} {w0:World} {M:Nat->Prop} {n N:Nat} {φ:AF} {σ:AS} {β:Nat->Nat} {a:Act} {w:World}
theorem getD_put (a:Act) (d i:Nat) (y:Value) (hd:d<a.tmps.size):(a.put (some d) y).tmps.getD i undef=if i=d then y else a.tmps.getD i undef:=by
 simp only[Act.put,Array.getD_eq_getD_getElem?,Array.getElem?_setIfInBounds]
 by_cases h:i=d
 ·subst h;simp[hd]
 ·rw[if_neg (fun e=>h e.symm),if_neg h]
theorem St.put {σ':AS} {β':Nat->Nat} {w':World} {N1:Nat} (hs:St inv w0 M n φ σ β a w) (hm:Mem inv w0 M σ' β' w') (he:Ext N1 (ctx inv M σ β w) (ctx inv M σ' β' w')) (hN:zaS φ<=N1) {d:Nat} (hd:d<n) {x:AV} {y:Value}
  (hr:rel (ctx inv M σ' β' w') x y):St inv w0 M n (zbE φ d x) σ' β' (a.put (some d) y) w':=by
 refine ⟨⟨fun i=>?_,hm⟩,by simp[Act.put,hs.size],hs.defers⟩
 rw[zbV,getD_put a d i y (by rw[hs.size];exact hd)]
 split
 ·exact hr
 ·exact he.rel (zaO _ (Nat.le_trans (zbQ φ i) hN)) (hs.slots i)
theorem St.keep {σ':AS} {β':Nat->Nat} {w':World} {N1:Nat} (hs:St inv w0 M n φ σ β a w) (hm:Mem inv w0 M σ' β' w') (he:Ext N1 (ctx inv M σ β w) (ctx inv M σ' β' w')) (hN:zaS φ<=N1) :
  St inv w0 M n φ σ' β' a w' :=
 ⟨⟨fun i=>he.rel (zaO _ (Nat.le_trans (zbQ φ i) hN)) (hs.slots i),hm⟩,hs.size,hs.defers⟩
theorem St.set (hs:St inv w0 M n φ σ β a w) {d:Nat} (hd:d<n) {x:AV} {y:Value} (hr:rel (ctx inv M σ β w) x y):St inv w0 M n (zbE φ d x) σ β (a.put (some d) y) w :=
 hs.put hs.mem (.refl (zaS φ) _) (Nat.le_refl _) hd hr
theorem zbG (N:Nat) (φ:AF) (σ:AS):N<=zaB N φ σ/\zaS φ<=zaB N φ σ/\zbe σ<=zaB N φ σ:=by
 have h1:=za2 N (mx (zaS φ) (zbe σ))
 have h2:=zaz N (mx (zaS φ) (zbe σ))
 have h3:=za2 (zaS φ) (zbe σ)
 have h4:=zaz (zaS φ) (zbe σ)
 unfold zaB
 omega
theorem zkD (d:Opd) (h:∀ x,d=.c x->x.bound=0):(ev φ d).bound<=zaS φ:=by
 cases d with
 |t i=>exact zbQ φ i
 |c x=>simp only[ev,h x rfl];omega
theorem zgG {t:TypeId} {x:Operand} {d:Opd} (h:zc9 P inv t x=some d):∀ y,d=.c y->y.bound=0:=by
 intro y hy
 subst hy
 unfold zc9 at h
 split at h
 ·cases h
 ·rename_i v
  obtain ⟨z,h1,h2⟩:=Option.map_eq_some_iff.1 h
  cases h2
  unfold cav at h1
  repeat' split at h1
  all_goals first|(cases h1;done)|(simp only[Option.some.injEq]at h1;subst h1;simp[AV.bound])
 ·obtain ⟨z,h1,h2⟩:=Option.map_eq_some_iff.1 h
  cases h2
  simp[AV.bound,zae]
 ·cases h
theorem zfq (x:AV):zae x.cells<=x.bound:=by
 cases x<;>simp[AV.cells,zae,AV.bound,mx]
 all_goals (split<;>omega)
theorem Mem.fresh_put {l:Nat} {cs:List AV} {xs:Array Value} {ty:TypeId} {w':World} (h:Mem inv w0 M σ β w) (hl:zbe σ<=l) (hcb:zae cs<=l) (hheap:w'.heap=w.heap.push (.cells xs ty)) (hos:w'.os=w.os) (htape:w'.tape=w.tape) (hout:w'.output=w.output)
  (hlen:cs.length<=xs.size) (hrel:relCs (ctx inv M σ β w) cs (xs.toList.take cs.length)) :
  Mem inv w0 M (za8 σ l (.cells cs true)) (upd β l w.heap.size) w'/\Ext l (ctx inv M σ β w) (ctx inv M (za8 σ l (.cells cs true)) (upd β l w.heap.size) w') /\
   zan (upd β l w.heap.size) w' (za8 σ l (.cells cs true)) l=some ⟨w.heap.size,cs.length,xs.size,true⟩:=by
 have hold:∀ b,b<w.heap.size->w'.heap[b]?=w.heap[b]?:=fun b hb=>by rw[hheap,Array.getElem?_push,if_neg (by omega)]
 have hnew:w'.heap[w.heap.size]?=some (.cells xs ty (0,0)):=by rw[hheap];simp
 have hsz:w.heap.size<=w'.heap.size:=by rw[hheap];simp
 have hbel:Below w0.heap.size w0 w':=h.below.trans ⟨hos,htape,hout,hsz,fun b hb=>hold b (Nat.lt_of_lt_of_le hb h.below.size)⟩
 have hno:∀ o,zaF σ l≠some o:=fun o e=>by have:=(zaG σ l o e).1;omega
 have:=Mem.put (l:=l) (b':=w.heap.size) (N:=l) h hbel hsz (fun b hb _=>hold b hb) hnew hlen h.below.size (fun l' o' _ e hr=>Nat.ne_of_lt (h.own l' o' e hr).2) (.inl (Nat.le_refl _))
  (fun l' o' e _=>Nat.le_trans (zaG σ l' o' e).2 hl) hcb (fun hlt=>absurd hlt (Nat.lt_irrefl _)) hrel
 refine ⟨this.1,this.2, ?_⟩
 unfold zan
 rw[zal,if_pos rfl]
 simp[zba,zaY,hnew]
theorem zhM:∀ {r:List (Nat×AV)} {zs:List Value},zmL (zeg r) zs=true->zae (zeg r)=0:=by
 intro r zs h
 generalize zeg r=xs at h
 induction xs generalizing zs with
 |nil=>rfl
 |cons x xs ih =>
  cases zs with
  |nil=>simp[zmL]at h
  |cons z zs =>
   simp only[zmL,Bool.and_eq_true]at h
   have h2:=ih h.2
   have h1:x.bound=0:=by
    have:=h.1
    unfold zmC at this
    split at this<;>first|(simp[AV.bound];done)|cases this
   simp[zae,h1,h2,mx]
theorem zcN {t:TypeId} {r:List (Nat×AV)} (h:zej P t=some r):zae (zeg r)=0:=by
 unfold zej at h
 split at h
 ·split at h
  ·split at h
   ·rename_i e4
    cases h
    exact zhM e4
   ·cases h
  ·cases h
 ·cases h
theorem zhT {l ver off m sz cap:Nat} {p:Place} (hp:zan β w σ l=some p) (hv:p.len=ver) (h1:off+m*sz<=ver) (hcap:m<=cap) (hreal:p.real=true) (hsz:off+cap*sz<=p.size) :
  rel (ctx inv M σ β w) (.sm l ver off m sz) (.slice (some ⟨p.block,off,none⟩) m cap):=by
 simp only[rel]
 refine ⟨rfl,fun p' hp'=>?_⟩
 have:p'=p:=by have:=(show zan β w σ l=some p' from hp').symm.trans hp;simpa using this
 subst this
 exact ⟨by omega,fun _=>⟨h1,_,cap,rfl,hcap,by rw[hreal];exact ⟨.inr rfl,hsz⟩⟩⟩
theorem zgf:∀ (xs ys:List AV),zae (xs++ys)<=mx (zae xs) (zae ys)
 |[],ys=>by simp only[List.nil_append];exact zaz _ _
 |x::xs,ys=>by
  have:=zgf xs ys
  simp only[List.cons_append,zae]
  unfold mx at this |-
  repeat' split
  all_goals (repeat' split at this)<;>omega
theorem zd9 {N:Nat} {xs ys:List AV} (h1:zae xs<=N) (h2:zae ys<=N):zae (xs++ys)<=N:=by
 have:=zgf xs ys
 unfold mx at this
 split at this<;>omega
theorem zdQ {N:Nat}:∀ {xs:List AV},zae xs<=N->∀ x∈xs,x.bound<=N
 |[],_,x,h=>by cases h
 |y::ys,h,x,hx=>by
  simp only[zae]at h
  have h1:=za2 y.bound (zae ys)
  have h2:=zaz y.bound (zae ys)
  rcases List.mem_cons.1 hx with rfl|hx
  ·omega
  ·exact zdQ (by omega) x hx
theorem zez {N:Nat}:∀ {xs:List AV},(∀ x∈xs,x.bound<=N)->zae xs<=N
 |[],_=>by simp[zae]
 |y::ys,h=>by
  have h1:=h y (by simp)
  have h2:=zez (fun x hx=>h x (by simp[hx]):∀ x∈ys,x.bound<=N)
  simp only[zae,mx]
  split<;>omega
theorem zgK {N:Nat}:∀ (xs cs:List AV) (off:Nat),zae cs<=N->zae xs<=N->zae (ovl cs off xs)<=N
 |[],_,_,h,_=>h
 |x::xs,cs,off,h,hx=>by
  simp only[zae]at hx
  have h1:=za2 x.bound (zae xs)
  have h2:=zaz x.bound (zae xs)
  refine zgK xs _ _ (zez fun y hy=>?_) (by omega)
  rcases List.mem_or_eq_of_mem_set hy with hy|rfl
  ·exact zdQ h y hy
  ·omega
theorem ziw:∀ {ps:List (Nat×Nat×Opd)} {cs cs':List AV},zee φ cs ps=some cs'->(∀ p∈ps,∀ y,p.2.2=.c y->y.bound=0)->∀ N,zaS φ<=N->zae cs<=N->zae cs'<=N
 |[],_,_,h,_,_,_,hb=>by simp only[zee,Option.some.injEq]at h;subst h;exact hb
 |(off,n,x)::ps,cs,_,h,hp,N,hN,hb=>by
  simp only[zee]at h
  split at h
  ·refine ziw h (fun p hp'=>hp p (by simp[hp'])) N hN (zgK _ _ _ hb ?_)
   exact Nat.le_trans (zfq _) (Nat.le_trans (zkD x (hp (off,n,x) (by simp))) hN)
  ·cases h
theorem zg3 {zan:Nat->Option (Nat×Nat×TypeId)}:∀ {l:List (Nat×Operand)} {ps:List (Nat×Nat×Opd)},zfb P inv zan l=some ps->∀ p∈ps,∀ y,p.2.2=.c y->y.bound=0
 |[],_,h,p,hp=>by simp only[zfb,Option.some.injEq]at h;subst h;cases hp
 |(i,x)::l,_,h,p,hp=>by
  simp only[zfb]at h
  split at h
  ·split at h
   ·rename_i off n t _ _ _ d ps e1 e2
    simp only[Option.some.injEq]at h
    subst h
    rcases List.mem_cons.1 hp with rfl|hp
    ·exact zgG e1
    ·exact zg3 e2 p hp
   ·cases h
  ·cases h
theorem zfa {t:TypeId} {i:TypeInfo} {z:Value} (hi:P.info? t=some i) (hz:i.zero=some z) (w:World):(Instr.alloc t true (.tuple #[])).run P w=.ok (.pointer (some ⟨w.heap.size,0,none⟩)) (w.alloc (.cells z.cells t)):=by
 simp[Instr.alloc,zeroValue,typeInfo,hi,hz,newVar,newRow]
theorem St.new_ptr (hs:St inv w0 M n φ σ β a w) {d:Nat} (hd:d<n) {cs:List AV} {xs:Array Value} {ty:TypeId} (hcb:zae cs<=zaB N φ σ) (hlen:cs.length=xs.size) (hrel:relCs (ctx inv M σ β w) cs xs.toList) :
  St inv w0 M n (zbE φ d (.ptr (zaB N φ σ) cs.length 0)) (za8 σ (zaB N φ σ) (.cells cs true)) (upd β (zaB N φ σ) w.heap.size) (a.put (some d) (.pointer (some ⟨w.heap.size,0,none⟩))) (w.alloc (.cells xs ty)) /\
  Ext N (ctx inv M σ β w) (ctx inv M (za8 σ (zaB N φ σ) (.cells cs true)) (upd β (zaB N φ σ) w.heap.size) (w.alloc (.cells xs ty))):=by
 obtain ⟨f1,f2,f3⟩:=zbG N φ σ
 have h:=hs.mem.fresh_put (l:=zaB N φ σ) (cs:=cs) (xs:=xs) (ty:=ty) (w':=w.alloc (.cells xs ty)) f3 hcb rfl rfl rfl rfl (by omega) (by rw[hlen,<-Array.length_toList,List.take_length];exact hrel)
 refine ⟨hs.put h.1 h.2.1 f2 hd ?_,h.2.1.mono f1⟩
 exact zdL h.2.2 rfl
theorem St.new_sm (hs:St inv w0 M n φ σ β a w) {d:Nat} (hd:d<n) {cs:List AV} {xs:Array Value} {ty:TypeId} {sz m cap:Nat} {w':World} (hheap:w'.heap=w.heap.push (.cells xs ty)) (hos:w'.os=w.os) (htape:w'.tape=w.tape) (hout:w'.output=w.output)
  (hcb:zae cs<=zaB N φ σ) (hl:cs.length=m*sz) (hcap:m<=cap) (hsz:cap*sz<=xs.size) (hrel:relCs (ctx inv M σ β w) cs (xs.toList.take cs.length)) :
  St inv w0 M n (zbE φ d (.sm (zaB N φ σ) (m*sz) 0 m sz)) (za8 σ (zaB N φ σ) (.cells cs true)) (upd β (zaB N φ σ) w.heap.size) (a.put (some d) (.slice (some ⟨w.heap.size,0,none⟩) m cap)) w' /\
  Ext N (ctx inv M σ β w) (ctx inv M (za8 σ (zaB N φ σ) (.cells cs true)) (upd β (zaB N φ σ) w.heap.size) w'):=by
 obtain ⟨f1,f2,f3⟩:=zbG N φ σ
 have hle:m*sz<=cap*sz:=Nat.mul_le_mul_right _ hcap
 have h:=hs.mem.fresh_put (l:=zaB N φ σ) (cs:=cs) (xs:=xs) (ty:=ty) (w':=w') f3 hcb hheap hos htape hout (by omega) hrel
 refine ⟨hs.put h.1 h.2.1 f2 hd ?_,h.2.1.mono f1⟩
 exact zhT h.2.2 (by simp[hl]) (by simp) hcap rfl (by simpa using hsz)
theorem St.new_map (hs:St inv w0 M n φ σ β a w) {d:Nat} (hd:d<n) :
  St inv w0 M n (zbE φ d (.mp (zaB N φ σ))) (za8 σ (zaB N φ σ) (.imap [])) (upd β (zaB N φ σ) w.heap.size) (a.put (some d) (.map (some w.heap.size))) (w.alloc (.map #[] 0)) /\
  Ext N (ctx inv M σ β w) (ctx inv M (za8 σ (zaB N φ σ) (.imap [])) (upd β (zaB N φ σ) w.heap.size) (w.alloc (.map #[] 0))):=by
 obtain ⟨f1,f2,f3⟩:=zbG N φ σ
 have h:=hs.mem.put_imap (l:=zaB N φ σ) (b':=w.heap.size) (kvs:=[]) (es:=#[]) (clk:=0) (w':=w.alloc (.map #[] 0)) (N:=zaB N φ σ) (hs.mem.below.alloc hs.mem.below.size _) (by simp)
  (fun b hb _=>Below.heap_alloc _ _ _ hb) (heap_alloc_new w _) hs.mem.below.size (fun l' o' _ e hr=>by have:=(hs.mem.own l' o' e hr).2;omega) (.inl (Nat.le_refl _)) (fun _=>f3) f3 (fun _=>Nat.le_refl _) rfl
 refine ⟨hs.put h.1 h.2.1 f2 hd ?_,h.2.1.mono f1⟩
 simp only[rel]
 refine ⟨rfl,fun p' hp' _=>?_⟩
 have:p'=⟨w.heap.size,0,0,true⟩:=by have:=(show zan _ _ _ _=some p' from hp').symm.trans h.2.2;simpa using this
 subst this
 rfl
theorem zlI (b v:Int):∀ (l:List MapEntry) (kvs:List (Int×Int)) (i:Nat),l.map (fun e=>(e.key,e.val))=kvs.map (fun p=>(Value.int .i64 p.1,Value.int .i64 p.2)) ->
  (ziv l b i=none/\zmA kvs b v=kvs++[(b,v)])\/∃ j x e,ziv l b i=some (i+j,x)/\l[j]?=some e/\e.key=.int .i64 b /\
   (l.modify j fun e=>{ e with key:=.int .i64 b,val:=.int .i64 v }).map (fun e=>(e.key,e.val))=(zmA kvs b v).map (fun p=>(Value.int .i64 p.1,Value.int .i64 p.2))
 |[],kvs,i,h=>by
  cases kvs with
  |nil=>exact .inl ⟨rfl,rfl⟩
  |cons p kvs=>simp at h
 |e::l,kvs,i,h=>by
  cases kvs with
  |nil=>simp at h
  |cons p kvs =>
   simp only[List.map_cons,List.cons.injEq,Prod.mk.injEq]at h
   simp only[ziv,zmA,h.1.1,keyI]
   by_cases hb:p.1=b
   ·rw[if_pos (by rw[hb]),if_pos hb.symm]
    refine .inr ⟨0,e.val,e,rfl,rfl,by rw[h.1.1,hb], ?_⟩
    simp[h.2,hb]
   ·rw[if_neg (by simpa using hb),if_neg (fun e=>hb e.symm)]
    rcases zlI b v l kvs (i+1) h.2 with ⟨h1,h2⟩|⟨j,x,e',h1,h2,h3,h4⟩
    ·exact .inl ⟨h1,by rw[h2];rfl⟩
    ·refine .inr ⟨j+1,x,e',by rw[h1];congr 2;omega,h2,h3, ?_⟩
     simp only[List.modify_succ_cons,List.map_cons,h.1.1,h.1.2,h4]
theorem zkb {c:Ctx} {zs:List AV} {z:Array Value} (hz:relCs c zs z.toList):∀ (m:Nat),relCs c (List.replicate m zs).flatten (List.replicate m z.toList).flatten
 |0=>by simpa using zbk
 |m+1=>by simp only[List.replicate_succ,List.flatten_cons];exact zbx hz (zkb hz m)
theorem zcf {α:Type} (l:List α):∀ (m:Nat),(List.replicate m l).flatten.length=m*l.length
 |0=>by simp
 |m+1=>by simp only[List.replicate_succ,List.flatten_cons,List.length_append,zcf l m,Nat.add_mul];omega
theorem zhS {zs:List AV} {N:Nat} (h:zae zs<=N) (m:Nat):zae (List.replicate m zs).flatten<=N:=by
 refine zez fun x hx=>?_
 obtain ⟨l,hl,hx⟩:=List.mem_flatten.1 hx
 rw[List.eq_of_mem_replicate hl]at hx
 exact zdQ h x hx
theorem zew (z:Array Value) (m:Nat):(madeCells z (m*z.size)).toList=(List.replicate m z.toList).flatten:=by
 induction m with
 |zero=>simp[madeCells]
 |succ m ih =>
  have h1:(madeCells z ((m+1)*z.size)).toList=(madeCells z (m*z.size)).toList++z.toList:=by
   unfold madeCells
   simp only[Array.toList_map,Array.toList_range]
   rw[Nat.add_mul,Nat.one_mul,List.range_add,List.map_append,List.map_map]
   congr 1
   apply List.ext_getElem?
   intro j
   by_cases hj:j<z.size
   ·simp[hj,Nat.mul_comm m z.size,Nat.mod_eq_of_lt hj]
   ·simp[hj]
  rw[h1,ih,List.replicate_succ',List.flatten_append]
  simp
theorem zi1 (z:Array Value) (m c:Nat) (h:m<=c):((madeCells z (c*z.size)).toList.take (m*z.size))=(List.replicate m z.toList).flatten:=by
 rw[zew]
 have:List.replicate c z.toList=List.replicate m z.toList++List.replicate (c-m) z.toList:=by rw[List.replicate_append_replicate];congr 1;omega
 rw[this,List.flatten_append,List.take_left' (by rw[zcf];simp)]
theorem znH:∀ (xs cs:List AV) (off:Nat),off+xs.length<=cs.length->ovl cs off xs=cs.take off++xs++cs.drop (off+xs.length)
 |[],cs,off,_=>by simp[ovl]
 |x::xs,cs,off,h=>by
  simp only[List.length_cons]at h
  rw[ovl,znH xs _ _ (by simp;omega)]
  rw[List.take_set,List.drop_set,if_pos (by omega)]
  have h1:(cs.take (off+1)).set off x=cs.take off++[x]:=by
   rw[List.take_succ_eq_append_getElem (by omega),List.set_append_right _ _ (by simp;omega)]
   simp[Nat.min_eq_left (show off<=cs.length by omega)]
  rw[h1]
  simp[Nat.add_assoc,Nat.add_comm 1]
end
section
variable {P:Program} {inv:Nat->Option Nat} {w0:World} {M:Nat->Prop} {n N:Nat} {φ:AF} {σ:AS} {β:Nat->Nat} {a:Act} {w:World}
theorem zmp (w:World) (g:Nat) (cs:Array Value):(w.setRow g cs).os=w.os/\(w.setRow g cs).tape=w.tape/\(w.setRow g cs).output=w.output/\(w.setRow g cs).heap.size=w.heap.size:=⟨rfl,rfl,rfl,by simp[World.setRow]⟩
theorem Mem.write {l:Nat} {cs cs':List AV} {xs xs':Array Value} {ty:TypeId} {N2:Nat} (h:Mem inv w0 M σ β w) (hg:zaF σ l=some (.cells cs true)) (hxs:w.heap[β l]?=some (.cells xs ty (0,0))) (hN:zbe σ<=N2) (hcb:zae cs'<=N2)
  (hlen':cs'.length<=xs'.size) (hsize:xs'.size=xs.size) (hgrow:cs.length<=cs'.length) (hrel:relCs (ctx inv M σ β w) cs' (xs'.toList.take cs'.length)) :
  Mem inv w0 M (za8 σ l (.cells cs' true)) β (w.setRow (β l) xs')/\Ext N2 (ctx inv M σ β w) (ctx inv M (za8 σ l (.cells cs' true)) β (w.setRow (β l) xs')) /\
   zan β (w.setRow (β l) xs') (za8 σ l (.cells cs' true)) l=some ⟨β l,cs'.length,xs.size,true⟩:=by
 have hu:upd β l (β l)=β:=by funext k;unfold upd;split<;>simp_all
 have hown:=h.own l _ hg rfl
 obtain ⟨s1,s2,s3,s4⟩:=zmp w (β l) xs'
 have hbel:Below w0.heap.size w0 (w.setRow (β l) xs'):=h.below.trans ⟨s1,s2,s3,by omega,fun b hb=>setRow_other w (β l) b xs' (by omega)⟩
 have hnew:=setRow_heap w (β l) xs xs' ty (0,0) hxs
 have hp:zan β w σ l=some ⟨β l,cs.length,xs.size,true⟩:=by unfold zan;rw[hg];simp[zaY,hxs]
 have:=Mem.put (l:=l) (b':=β l) (N:=N2) h hbel (by omega) (fun b hb hne=>setRow_other w (β l) b xs' hne) hnew hlen' hown.1
  (fun l' o' hne e hr he=>hne (h.inj l' l o' _ e hg hr rfl he)) (.inr ⟨_,hg,rfl,rfl⟩) (fun l' o' e _=>Nat.le_trans (zaG σ l' o' e).2 hN) hcb
  (fun _ p' hp'=>⟨_,hp,by simp at hp';subst hp';exact hgrow,fun e=>by simp at hp';subst hp';simp at e;simp[e,hsize]⟩) hrel
 rw[hu]at this
 refine ⟨this.1,this.2, ?_⟩
 unfold zan
 rw[zal,if_pos rfl]
 simp[zaY,hnew,hsize]
theorem take_mid {α:Type} (l us:List α) (off m:Nat) (h1:off+us.length<=m) (h2:m<=l.length) :
  (l.take off++us++l.drop (off+us.length)).take m=(l.take m).take off++us++(l.take m).drop (off+us.length):=by
 rw[List.append_assoc,List.append_assoc,List.take_append,List.take_append,List.length_take,List.take_take,Nat.min_eq_left (show off<=l.length by omega),List.take_take,Nat.min_eq_left (show off<=m by omega),Nat.min_eq_right (show off<=m by omega),
  List.take_of_length_le (show us.length<=m-off by omega),List.drop_take]
 congr 3
 omega
theorem zmh (hs:St inv w0 M n φ σ β a w) {t:TypeId} {k:Nat} (ht:siz P t=some k) {l ver off:Nat} {x:AV} {u v:Value} (hu:rel (ctx inv M σ β w) (.ptr l ver off) u) (hv:rel (ctx inv M σ β w) x v) (hxb:x.bound<=zaS φ)
  {cs:List AV} {r:Bool} (hg:zaF σ l=some (.cells cs r)) (hver:cs.length=ver) (h1:x.sound=true) (h2:x.cells.length=k) (h3:0<k) (h4:off+k<=ver) :
  ∃ w',(Instr.storeAt t u v).run P w=.ok () w'/\St inv w0 M n φ (za8 σ l (.cells (ovl cs off x.cells) r)) β a w'/\Ext N (ctx inv M σ β w) (ctx inv M (za8 σ l (.cells (ovl cs off x.cells) r)) β w'):=by
 have hr:r=true:=by
  cases r with
  |true=>rfl
  |false=>have:=hs.mem.ghost l cs hg;subst this;simp at hver;omega
 subst hr
 have hlive:zb9 σ l ver:=by unfold zb9;rw[hg];exact hver
 obtain ⟨p,hp,_,rfl⟩:=zdr hlive hu
 obtain ⟨xs,ty,e1,e2,e3⟩:=hs.mem.cells l cs hg
 have hpb:p.block=β l:=by unfold zan at hp;rw[hg]at hp;cases hp;rfl
 rw[hpb]
 have hxc:=ziH h1 hv
 have hxl:=zaM hxc
 have hsz:v.cells.size=k:=by rw[<-Array.length_toList,<-hxl];exact h2
 have hst:=run_storeCells_at P (β l) off ty v.cells.toList 0 xs w e1 (by simp[hsz];omega) (zh1 hxc)
 simp only[Nat.add_zero,Array.length_toList,hsz]at hst
 obtain ⟨f1,f2,f3⟩:=zbG N φ σ
 have hl2:=zaM e3
 have hcsl:cs.length<=xs.toList.length:=by simpa using e2
 have hw:=hs.mem.write (cs':=ovl cs off x.cells) (xs':=(xs.toList.take off++v.cells.toList++xs.toList.drop (off+k)).toArray) (N2:=zaB N φ σ) hg e1 f3
  (zgK _ _ _ (Nat.le_trans (zaG σ l _ hg).2 f3) (Nat.le_trans (zfq x) (by omega)))
  (by rw[zdb];simp[hsz];omega) (by simp[hsz];omega) (by rw[zdb];exact Nat.le_refl _)
  (by
   rw[zdb,znH _ _ _ (by omega)]
   have hk:v.cells.toList.length=k:=by simpa using hsz
   have:=take_mid xs.toList v.cells.toList off cs.length (by omega) hcsl
   rw[hk]at this
   rw[this,<-h2]
   exact zbx (zbx (zcA off e3) hxc) (zcB _ e3))
 refine ⟨_, ?_,hs.keep hw.1 hw.2.1 f2,hw.2.1.mono f1⟩
 simp[Instr.storeAt,Instr.sureAddr,storeVar,zde ht,hsz,hst]
theorem zgS {t u ty e d:TypeId} {i:TypeInfo} {z:Value} (w:World) (ht:P.underlying t=some (.slice e)) (hu:P.underlying u=some (.slice d)) (hi:P.info? e=some i) (hz:i.zero=some z)
  (base:Option Addr) (sLen sCap:Nat) (olds news:List Value) (A:Option Addr) (m c:Nat)
  (ho:(Builtin.firstCells i.size sLen (.slice base sLen sCap)).run P w.drew=.ok olds.toArray w.drew) (hn:(Builtin.firstCells i.size m (.slice A m c)).run P w.drew=.ok news.toArray w.drew)
  (hg:sCap<sLen+m) (h63:((sLen+m:Nat):Int)<=9223372036854775807) (hfit:Builtin.nextslicecap (sLen+m) sCap*i.bytes<=281474976710656) :
  (Builtin.append_ #[t,u] ty #[.slice base sLen sCap,.slice A m c]).run P w =
   .ok (.slice (some ⟨w.heap.size,0,none⟩) (sLen+m) (grownCap w (sLen+m) sCap e))
    (w.drew.alloc (.cells (olds.toArray++news.toArray++Builtin.zeroCells z.cells (grownCap w (sLen+m) sCap e-(sLen+m))) e)):=by
 have hn':¬(sLen+m<=sCap):=by omega
 have h63':¬(9223372036854775807<((sLen:Int)+(m:Int))):=by omega
 have h48':¬(281474976710656<Builtin.nextslicecap (sLen+m) sCap*i.bytes):=by omega
 simp[Builtin.append_,run_underlying ht,run_underlying hu,sizeOf,typeInfo,zeroValue,hi,hz,Builtin.lenOf,hn',h63',h48',Question.forced,ho,hn,newRow,grownCap]
 congr 2
 apply Array.ext'
 simp[List.append_assoc]
theorem zk8 {t u ty e d:TypeId} {i:TypeInfo} (w:World) (ht:P.underlying t=some (.slice e)) (hu:P.underlying u=some (.slice d)) (hi:P.info? e=some i)
  (g sLen sCap:Nat) (cur:Array Value) (te:TypeId) (hgr:w.heap[g]?=some (.cells cur te (0,0))) (A:Option Addr) (m c:Nat) (news:List Value)
  (hn:(Builtin.firstCells i.size m (.slice A m c)).run P w=.ok news.toArray w) (h1:∀ u∈news,u.oneCell'=true) (hroom:sLen+m<=sCap) (hfit:sLen*i.size+news.length<=cur.size) :
  (Builtin.append_ #[t,u] ty #[.slice (some ⟨g,0,none⟩) sLen sCap,.slice A m c]).run P w =
   .ok (.slice (some ⟨g,0,none⟩) (sLen+m) sCap) (w.setRow g (cur.toList.take (sLen*i.size)++news++cur.toList.drop (sLen*i.size+news.length)).toArray):=by
 have hst:=run_storeCells_at P g (sLen*i.size) te news 0 cur w hgr (by simpa using hfit) h1
 simp only[Nat.add_zero]at hst
 simp[Builtin.append_,run_underlying ht,run_underlying hu,sizeOf,typeInfo,hi,Builtin.lenOf,hroom,hn,Addr.add_lit,hst]
theorem zgR {t u ty e d:TypeId} {i:TypeInfo} (w:World) (ht:P.underlying t=some (.slice e)) (hu:P.underlying u=some (.slice d)) (hi:P.info? e=some i)
  (base:Option Addr) (sLen sCap:Nat) (hcap:sLen<=sCap) (A:Option Addr) (c:Nat) :
  (Builtin.append_ #[t,u] ty #[.slice base sLen sCap,.slice A 0 c]).run P w=.ok (.slice base sLen sCap) w:=by
 have hf:(Builtin.firstCells i.size 0 (.slice A 0 c)).run P w=.ok #[] w:=by
  cases A<;>simp[Builtin.firstCells,loadCells,loadCellsFrom]
 cases base<;>simp[Builtin.append_,run_underlying ht,run_underlying hu,sizeOf,typeInfo,hi,Builtin.lenOf,hcap,hf,storeCells]
end
section
variable {P:Program} {inv:Nat->Option Nat} {w0:World} {M:Nat->Prop} {n N:Nat} {φ:AF} {σ:AS} {β:Nat->Nat} {a:Act} {w:World}
theorem zlX {w w':World} (h:w'.heap=w.heap) (p:Addr):w'.cell? p=w.cell? p:=by simp[World.cell?,h]
theorem zo8 {N:Nat} {cs:List AV} (h:zae cs<=N) (off m:Nat):zae (seg cs off m)<=N :=
 zez fun x hx=>zdQ h x (List.mem_of_mem_drop (List.mem_of_mem_take hx))
theorem zpb {sz:Nat} {x:AV} {u:Value} {K:Nat->List AV->Prop} (hm:Mem inv w0 M σ β w) (hx:rel (ctx inv M σ β w) x u) (h:asrc σ sz x K) :
  ∃ m new A c news,K m new/\u=.slice A m c/\relCs (ctx inv M σ β w) new news/\news.length=m*sz/\zae new<=zbe σ /\
   ∀ w',w'.heap=w.heap->(Builtin.firstCells sz m (.slice A m c)).run P w'=.ok news.toArray w':=by
 unfold asrc at h
 split at h
 ·simp only[rel]at hx
  obtain ⟨ad,rfl⟩:=hx
  refine ⟨0,[],ad,0,[],h,rfl,zbk,by simp,by simp[zae],fun w' _=>?_⟩
  cases ad<;>simp[Builtin.firstCells,loadCells,loadCellsFrom]
 ·rename_i sz' es
  obtain ⟨rfl,h⟩:=h
  simp only[rel]at hx
  obtain ⟨ad,cap,rfl,hcap,hr⟩:=hx
  by_cases hne:es=[]
  ·subst hne
   refine ⟨_,_,ad,cap,[],h,rfl,by simpa using zbk,by simp,by simp[zae],fun w' _=>?_⟩
   cases ad<;>simp[Builtin.firstCells,loadCells,loadCellsFrom]
  ·obtain ⟨a',rfl,_,_,hrows⟩:=hr hne
   obtain ⟨hl,hb,ys,hys,hc⟩:=zgU hrows
   have hyl:=zaM hys
   refine ⟨_,_,_,cap,ys,h,rfl,zdM (S:=(ctx inv M σ β w).S) _ _ hb hys,by rw[<-hyl,hl],by rw[zbn _ hb];omega,fun w' hw'=>?_⟩
   exact run_firstCells_some w' sz' es.length a' es.length cap ys (by rw[<-hyl,hl]) fun j v hv=>by
    rw[zlX hw'];have:=hc j v hv;simp only[Nat.zero_add]at this;exact this
 ·rename_i l ver off m sz'
  obtain ⟨rfl,h⟩:=h
  split at h
  ·rename_i cs r hg
   obtain ⟨hv,h⟩:=h
   have hlive:zb9 σ l ver:=by unfold zb9;rw[hg];exact hv
   obtain ⟨p,ad,cap,hp,hpv,hb,rfl,hcap,hr⟩:=zdW hlive hx
   have hbd:=zo8 (zaG σ l _ hg).2 off (m*sz')
   have hsegl:(seg cs off (m*sz')).length=m*sz':=by simp[seg];omega
   by_cases h0:m=0
   ·subst h0
    refine ⟨0,_,ad,cap,[],h,rfl,by simpa [seg] using zbk,by simp,hbd,fun w' _=>?_⟩
    cases ad<;>simp[Builtin.firstCells,loadCells,loadCellsFrom]
   ·have hreal:r=true:=by
     cases r with
     |true=>rfl
     |false =>
      unfold zan at hp
      rw[hg]at hp
      cases hp
      simp at hr
      omega
    subst hreal
    have hpe:p=⟨β l,cs.length,zaY w (β l),true⟩:=by unfold zan at hp;rw[hg]at hp;cases hp;rfl
    subst hpe
    simp only[if_true]at hr
    obtain ⟨hr1,hr2⟩:=hr
    have had:ad=some ⟨β l,off,none⟩:=hr1.resolve_left (by omega)
    subst had
    obtain ⟨ys,hyl,hyr,hyc⟩:=hm.cell hg
    refine ⟨m,_,_,cap,(ys.drop off).take (m*sz'),h,rfl,zcA _ (zcB _ hyr),by simp[hyl];omega,hbd,fun w' hw'=>?_⟩
    exact run_firstCells_some w' sz' m _ m cap _ (by simp[hyl];omega) fun j v hv=>by
     rw[zlX hw',zcu]
     rw[List.getElem?_take]at hv
     split at hv
     ·rw[List.getElem?_drop]at hv;exact hyc _ _ hv
     ·cases hv
  ·exact h.elim
 ·exact h.elim
theorem Mem.ghost_put {l:Nat} (h:Mem inv w0 M σ β w) (hl:zbe σ<=l):Mem inv w0 M (za8 σ l (.cells [] false)) β w/\Ext l (ctx inv M σ β w) (ctx inv M (za8 σ l (.cells [] false)) β w)/\zan β w (za8 σ l (.cells [] false)) l=some ⟨0,0,0,false⟩:=by
 have hno:∀ o,zaF σ l≠some o:=fun o e=>by have:=(zaG σ l o e).1;omega
 have hget:∀ k o,zaF (za8 σ l (.cells [] false)) k=some o->o.real=true->zaF σ k=some o:=by
  intro k o e hr
  rw[zal]at e
  split at e
  ·simp at e;subst e;cases hr
  ·exact e
 have hpl:∀ k,k≠l->zan β w (za8 σ l (.cells [] false)) k=zan β w σ k:=by
  intro k hk
  unfold zan
  rw[zal,if_neg hk]
 have hx:Ext l (ctx inv M σ β w) (ctx inv M (za8 σ l (.cells [] false)) β w):=by
  refine ⟨⟨rfl,Nat.le_refl _,fun _ _ _=>rfl,fun b _ hA=>?_⟩,fun k hk p' hp'=>?_⟩
  ·rcases hA with hm|⟨k,o,e,hr,hb⟩
   ·exact .inl hm
   ·exact .inr ⟨k,o,hget k o e hr,hr,hb⟩
  ·exact ⟨p',(hpl k (by omega)).symm.trans hp',Nat.le_refl _,fun _=>rfl⟩
 refine ⟨⟨h.below,fun l1 l2 o1 o2 e1 e2 r1 r2=>h.inj l1 l2 o1 o2 (hget _ _ e1 r1) (hget _ _ e2 r2) r1 r2,fun l1 o1 e1 r1=>h.own l1 o1 (hget _ _ e1 r1) r1,fun l1 cs e1=>?_,fun l1 cs e1=>?_,fun l1 kvs e1=>h.maps l1 kvs (hget _ _ e1 rfl)⟩,hx, ?_⟩
 ·have e2:=hget _ _ e1 rfl
  obtain ⟨xs,ty,q1,q2,q3⟩:=h.cells l1 cs e2
  exact ⟨xs,ty,q1,q2,hx.relCs (zau _ (Nat.le_trans (zaG σ l1 _ e2).2 hl)) q3⟩
 ·rw[zal]at e1
  split at e1
  ·simp at e1;exact e1
  ·exact h.ghost l1 cs e1
 ·unfold zan
  rw[zal,if_pos rfl]
  rfl
theorem Mem.alike {σ':AS} (h:Mem inv w0 M σ β w) (he:∀ l,zaF σ' l=zaF σ l) (N1:Nat):Mem inv w0 M σ' β w/\Ext N1 (ctx inv M σ β w) (ctx inv M σ' β w):=h.drop (fun l o e=>by rw[<-he l];exact e) N1
theorem zrO {t u ty e d':TypeId} {i:TypeInfo} {z:Value} (hs:St inv w0 M n φ σ β a w) (ht:P.underlying t=some (.slice e)) (hu:P.underlying u=some (.slice d')) (hi:P.info? e=some i) (hz:i.zero=some z) (hzs:z.cells.size=i.size) (hpos:0<i.size) (hby:i.bytes<=32768)
  {d:Nat} (hd:d<n) {s x:AV} {vs vx:Value} (hs1:rel (ctx inv M σ β w) s vs) (hx1:rel (ctx inv M σ β w) x vx) {K:AF->AS->Prop}
  (hh:asrc σ i.size x fun m new=>zpl φ σ (zaB N φ σ) d i.size s m new K) :
  ∃ v w' φ' σ' β',K φ' σ'/\(Builtin.append_ #[t,u] ty #[vs,vx]).run P w=.ok v w'/\St inv w0 M n φ' σ' β' (a.put (some d) v) w'/\Ext N (ctx inv M σ β w) (ctx inv M σ' β' w'):=by
 obtain ⟨m,new,A,c,news,h,rfl,hnr,hnl,hnb,hfc⟩:=zpb (P:=P) hs.mem hx1 hh
 clear hh
 have hnewl:=zaM hnr
 obtain ⟨f1,f2,f3⟩:=zbG N φ σ
 have hones:=zh1 hnr
 unfold zpl at h
 split at h
 ·-- nothing lies zb5
  rename_i sz0
  obtain ⟨hsize,h⟩:=h
  simp only[rel]at hs1
  obtain ⟨ad,rfl⟩:=hs1
  by_cases h0:m=0
  ·subst h0
   have hn0:new=[]:=List.eq_nil_of_length_eq_zero (by rw[hnewl,hnl];simp)
   subst hn0
   have hg:=hs.mem.ghost_put f3
   refine ⟨.slice ad 0 0,w,_,_,β,h,zgR w ht hu hi ad 0 0 (Nat.le_refl _) A c, ?_,hg.2.1.mono f1⟩
   simp only[Nat.lt_irrefl,decide_false]
   refine hs.put hg.1 hg.2.1 f2 hd ?_
   simp only[rel]
   refine ⟨rfl,fun p' hp'=>?_⟩
   have:p'=⟨0,0,0,false⟩:=by have:=(show zan β w _ _=some p' from hp').symm.trans hg.2.2;simpa using this
   subst this
   exact ⟨by simp,fun _=>⟨by simp,ad,0,rfl,Nat.le_refl _,by simp⟩⟩
  ·have hfo:(Builtin.firstCells i.size 0 (.slice ad 0 0)).run P w.drew=.ok #[] w.drew:=by cases ad<;>simp[Builtin.firstCells,loadCells,loadCellsFrom]
   have hrun:=zgS (P:=P) (ty:=ty) w ht hu hi hz ad 0 0 [] news A m c hfo (hfc w.drew rfl) (by omega) (by omega)
    (growslice_fits (by omega) (Nat.le_trans (Nat.mul_le_mul_left _ hby) (by omega)))
   simp only[Nat.zero_add]at hrun
   have hge:=grownCap_ge w m 0 e
   have hnew:=hs.new_sm (N:=N) (d:=d) hd (cs:=new) (m:=m) (sz:=i.size) (cap:=grownCap w m 0 e) (w':=w.drew.alloc (.cells ([].toArray++news.toArray++Builtin.zeroCells z.cells (grownCap w m 0 e-m)) e))
    rfl rfl rfl rfl (Nat.le_trans hnb f3) (by rw[hnewl,hnl]) hge
    (by simp[size_zeroCells,hzs,hnl];rw[<-Nat.add_mul];exact Nat.mul_le_mul_right _ (by omega))
    (by simp[hnewl];exact hnr)
   rw[show decide (0<m)=true by simp;omega]at h
   exact ⟨_,_,_,_,_,h,hrun,hnew.1,hnew.2⟩
 ·-- a named row
  rename_i l ver off k sz'
  obtain ⟨e1,e2,hkv,hsize,h⟩:=h
  subst e1 e2
  split at h
  ·rename_i cs r hg
   obtain ⟨hv,h⟩:=h
   have hlive:zb9 σ l ver:=by unfold zb9;rw[hg];exact hv
   obtain ⟨p,ad,cap,hp,hpv,hb,rfl,hcap,hr⟩:=zdW hlive hs1
   by_cases h0:m=0
   ·subst h0
    have hn0:new=[]:=List.eq_nil_of_length_eq_zero (by rw[hnewl,hnl];simp)
    subst hn0
    have hal:=hs.mem.alike (σ':=za8 σ l (.cells (cs++[]) (r||decide (0<0)))) (fun l'=>by rw[zal];split<;>simp_all) (zaB N φ σ)
    refine ⟨.slice ad k cap,w,_,_,β,h,zgR w ht hu hi ad k cap hcap A c, ?_,hal.2.mono f1⟩
    refine hs.put hal.1 hal.2 f2 hd ?_
    have:rel (ctx inv M σ β w) (.sm l ((k+0)*i.size) 0 (k+0) i.size) (.slice ad k cap):=by rw[Nat.add_zero,hkv];exact hs1
    refine hal.2.rel ?_ this
    simp only[AV.under,Nat.blt_eq]
    have:=(zaG σ l _ hg).1
    omega
   ·have hrb:(r||decide (0<m))=true:=by simp;omega
    rw[hrb]at h
    by_cases hroom:k+m<=cap
    ·-- zb5 is room
     have hreal:r=true:=by
      cases r with
      |true=>rfl
      |false=>unfold zan at hp;rw[hg]at hp;cases hp;simp at hr;omega
     subst hreal
     have hpe:p=⟨β l,cs.length,zaY w (β l),true⟩:=by unfold zan at hp;rw[hg]at hp;cases hp;rfl
     subst hpe
     simp only[if_true]at hr
     obtain ⟨hr1,hr2⟩:=hr
     have had:ad=some ⟨β l,0,none⟩:=hr1.resolve_left (by omega)
     subst had
     obtain ⟨xs,te,e1,e2,e3⟩:=hs.mem.cells l cs hg
     have hbs:zaY w (β l)=xs.size:=by simp[zaY,e1]
     rw[hbs]at hr2
     have hfit:k*i.size+news.length<=xs.size:=by rw[hnl,<-Nat.add_mul];exact Nat.le_trans (Nat.mul_le_mul_right _ hroom) (by omega)
     have hrun:=zk8 (P:=P) (ty:=ty) w ht hu hi (β l) k cap xs te e1 A m c news (hfc w rfl) hones hroom hfit
     have hcl:cs.length=k*i.size:=by omega
     have hxl:cs.length<=xs.toList.length:=by simpa using e2
     have hw:=hs.mem.write (cs':=cs++new) (xs':=(xs.toList.take (k*i.size)++news++xs.toList.drop (k*i.size+news.length)).toArray) (N2:=zaB N φ σ) hg e1 f3
      (zd9 (Nat.le_trans (zaG σ l _ hg).2 f3) (Nat.le_trans hnb f3))
      (by simp[hnewl];omega) (by simp;omega) (by simp)
      (by
       have hlen:(xs.toList.take (k*i.size)++news).length=(cs++new).length:=by simp[hnewl];omega
       simp only
       rw[List.take_append_of_le_length (by rw[hlen];exact Nat.le_refl _),<-hlen,List.take_length,<-hcl]
       exact zbx e3 hnr)
     refine ⟨_,_,_,_,β,h,hrun,hs.put hw.1 hw.2.1 f2 hd ?_,hw.2.1.mono f1⟩
     have:=zhT (inv:=inv) (M:=M) (off:=0) (m:=k+m) (sz:=i.size) (cap:=cap) (ver:=(k+m)*i.size) hw.2.2 (by simp[hnewl,hnl,Nat.add_mul];omega) (by simp) hroom rfl (by simpa using hr2)
     exact this
    ·-- a new row
     have holds:∃ olds:List Value,olds.length=k*i.size/\relCs (ctx inv M σ β w) cs olds/\(Builtin.firstCells i.size k (.slice ad k cap)).run P w.drew=.ok olds.toArray w.drew:=by
      cases r with
      |false =>
       have hc0:=hs.mem.ghost l cs hg
       subst hc0
       have hk0:k=0:=by
        rcases Nat.eq_zero_or_pos k with e|e
        ·exact e
        ·have:0<k*i.size:=Nat.mul_pos e hpos
         simp at hv;omega
       subst hk0
       refine ⟨[],by simp,zbk, ?_⟩
       cases ad<;>simp[Builtin.firstCells,loadCells,loadCellsFrom]
      |true =>
       have hpe:p=⟨β l,cs.length,zaY w (β l),true⟩:=by unfold zan at hp;rw[hg]at hp;cases hp;rfl
       subst hpe
       simp only[if_true]at hr
       obtain ⟨ys,hyl,hyr,hyc⟩:=hs.mem.cell hg
       refine ⟨ys,by omega,hyr, ?_⟩
       by_cases hk:k=0
       ·subst hk
        have:ys=[]:=List.eq_nil_of_length_eq_zero (by omega)
        subst this
        cases ad<;>simp[Builtin.firstCells,loadCells,loadCellsFrom]
       ·have had:ad=some ⟨β l,0,none⟩:=hr.1.resolve_left (by omega)
        subst had
        exact run_firstCells_some w.drew i.size k _ k cap ys (by omega) fun j v hv'=>by rw[zcu];simpa using hyc j v hv'
     obtain ⟨olds,hol,hor,hof⟩:=holds
     have hrun:=zgS (P:=P) (ty:=ty) w ht hu hi hz ad k cap olds news A m c hof (hfc w.drew rfl) (by omega) (by omega)
      (growslice_fits (by omega) (Nat.le_trans (Nat.mul_le_mul_left _ hby) (by omega)))
     have hge:=grownCap_ge w (k+m) cap e
     have hcl:cs.length=k*i.size:=by omega
     generalize hblk:olds.toArray++news.toArray++Builtin.zeroCells z.cells (grownCap w (k+m) cap e-(k+m))=blk at hrun
     have hbl:blk.size=grownCap w (k+m) cap e*i.size:=by
      rw[<-hblk]
      simp only[Array.size_append,List.size_toArray,size_zeroCells,hzs,hol,hnl,<-Nat.add_mul]
      congr 1
      omega
     have hbt:blk.toList.take (cs++new).length=olds++news:=by
      rw[<-hblk]
      have:(cs++new).length=(olds++news).length:=by simp[hnewl,hol];omega
      rw[this]
      simp only[Array.toList_append]
      rw[List.take_left']
      rfl
     have hheap:∀ b,b<w.heap.size->(w.drew.alloc (.cells blk e)).heap[b]?=w.heap[b]?:=fun b hb=>Below.heap_alloc w.drew _ b hb
     have hlen':(cs++new).length<=blk.size:=by
      rw[hbl]
      simp only[List.length_append,hnewl,hnl,hcl,<-Nat.add_mul]
      exact Nat.mul_le_mul_right _ hge
     have hsizep:0<m*i.size:=Nat.mul_pos (by omega) hpos
     have hput:=Mem.put (l:=l) (b':=w.heap.size) (cs':=cs++new) (xs':=blk) (ty:=e) (N:=zaB N φ σ) (w':=w.drew.alloc (.cells blk e)) hs.mem
      (hs.mem.below.trans ⟨rfl,rfl,rfl,by simp,fun b hb=>hheap b (Nat.lt_of_lt_of_le hb hs.mem.below.size)⟩) (by simp) (fun b hb _=>hheap b hb) (heap_alloc_new w.drew _) hlen' hs.mem.below.size
      (fun l' o' _ e' hr'=>Nat.ne_of_lt (hs.mem.own l' o' e' hr').2) (.inl (Nat.le_refl _)) (fun l' o' e' _=>Nat.le_trans (zaG σ l' o' e').2 f3)
      (zd9 (Nat.le_trans (zaG σ l _ hg).2 f3) (Nat.le_trans hnb f3))
      (fun _ p' hp'=>⟨p,hp,by simp at hp';subst hp';simp[hpv,hnewl,hnl];omega,fun ee=>by simp at hp';subst hp';simp[hpv,hnewl,hnl]at ee;omega⟩)
      (by rw[hbt];exact zbx hor hnr)
     have hpl:zan (upd β l w.heap.size) (w.drew.alloc (.cells blk e)) (za8 σ l (.cells (cs++new) true)) l=some ⟨w.heap.size,(cs++new).length,blk.size,true⟩:=by
      unfold zan
      rw[zal,if_pos rfl]
      have:(w.drew.alloc (.cells blk e)).heap[w.heap.size]?=some (.cells blk e (0,0)):=heap_alloc_new w.drew _
      simp only[zba,zaY,this]
     refine ⟨_,_,_,_,_,h,hrun,hs.put hput.1 hput.2 f2 hd ?_,hput.2.mono f1⟩
     exact zhT (inv:=inv) (M:=M) (off:=0) (m:=k+m) (sz:=i.size) (cap:=grownCap w (k+m) cap e) (ver:=(k+m)*i.size) hpl (by simp[hnewl,hnl,Nat.add_mul];omega) (by simp) hge rfl (by show 0+_<=blk.size;rw[hbl];omega)
  ·exact h.elim
 ·exact h.elim
end
end Go.Eng
