/-
  A part of the engine that walks the functions' codes, and of the functions' contracts. Conditions: those that each theorem names.
-/
import Derived.Test.YtjfongdncghjmaaGreatK1
import Derived.Below
import Derived.Calls
import Derived.ChangeKeysEq
import Derived.DataReads
import Derived.Deep.LoopGhost
import Derived.Laws.AppendOwn
import Derived.Laws.Cells
import Derived.Laws.CopyRow
import Derived.Laws.Entries
import Derived.Laws.MakeOwn
import Derived.Laws.Rows
import Derived.Laws.StructEq
import Derived.Laws.Tables
import Derived.Lib.AppendZerosOnto
import Derived.MapKept
import Derived.Orders
import Derived.ProofKit
import Derived.ScopeJumps
import Derived.Tactics2
import Derived.WalkSpells
set_option linter.unusedSimpArgs false
set_option linter.unusedVariables false
set_option linter.unusedSectionVars false
namespace Go.Eng
open Go.RowKit
section
variable {P:Program} {inv:Nat->Option Nat} {w0:World} {M:Nat->Prop} {φ:AF} {σ:AS} {β:Nat->Nat} {a:Act} {w:World}
theorem zbm (k:IntKind) (i:Nat) (y:Nat) (code:BoundsCode) (h:i<=y):(Instr.sliceBound (.int k i) y code).run P w=.ok i w:=by
 have:0<=(i:Int)/\(i:Int)<=(y:Int):=⟨by omega,by omega⟩
 simp[Instr.sliceBound,asIntOf,this]
theorem zjq (b:Bool) {len cap:Nat} {lo hi mx:Option Value} {l h m:Nat}
  (hm:mx=none/\m=cap\/∃ k,mx=some (.int k m)/\m<=cap) (hh:hi=none/\h=len/\mx=none\/∃ k,hi=some (.int k h)/\h<=m) (hl:lo=none/\l=0\/∃ k,lo=some (.int k l)/\l<=h) :
  (Instr.sliceBounds b len cap lo hi mx).run P w=.ok (l,h,m) w:=by
 unfold Instr.sliceBounds;rcases hm with ⟨rfl,rfl⟩|⟨k,rfl,hm⟩
 ·rcases hh with ⟨rfl,rfl,_⟩|⟨k,rfl,hh⟩
  ·rcases hl with ⟨rfl,rfl⟩|⟨k',rfl,hl⟩
   ·rfl
   ·simp only[Sem.run_bind,Sem.run_pure,Result.andThen_ok,zbm k' l h _ hl]
  ·rcases hl with ⟨rfl,rfl⟩|⟨k',rfl,hl⟩
   ·simp only[Sem.run_bind,Sem.run_pure,Result.andThen_ok,zbm k h m _ hh]
   ·simp only[Sem.run_bind,Sem.run_pure,Result.andThen_ok,zbm k h m _ hh,zbm k' l h _ hl]
 ·rcases hh with ⟨rfl,rfl,h0⟩|⟨k',rfl,hh⟩
  ·cases h0
  ·rcases hl with ⟨rfl,rfl⟩|⟨k'',rfl,hl⟩
   ·simp only[Sem.run_bind,Sem.run_pure,Result.andThen_ok,zbm k m cap _ hm,zbm k' h m _ hh]
   ·simp only[Sem.run_bind,Sem.run_pure,Result.andThen_ok,zbm k m cap _ hm,zbm k' h m _ hh,zbm k'' l h _ hl]
theorem zh4 {t e:TypeId} {n sz:Nat} (hu:P.underlying t=some (.array n e)) (hsz:siz P e=some sz) (A:Addr) {lo hi mx:Option Value} {l h m:Nat}
  (hm:mx=none/\m=n\/∃ k,mx=some (.int k m)/\m<=n) (hh:hi=none/\h=n/\mx=none\/∃ k,hi=some (.int k h)/\h<=m) (hl:lo=none/\l=0\/∃ k,lo=some (.int k l)/\l<=h) :
  (Instr.sliceAt t (.pointer (some A)) lo hi mx).run P w=.ok (.slice (if m=l then some A else (some A).map (·.add (l*sz))) (h-l) (m-l)) w:=by
 unfold Instr.sliceAt;rw[Sem.run_bind,run_underlying hu];simp only[Result.andThen_ok,Sem.run_bind,Instr.sureAddr,Sem.run_pure,zjq false hm hh hl,zc4 hsz];split<;>simp
theorem zmI {t e:TypeId} {sz:Nat} (hu:P.underlying t=some (.slice e)) (hsz:siz P e=some sz) (A:Option Addr) (len cap:Nat) {lo hi mx:Option Value} {l h m:Nat}
  (hm:mx=none/\m=cap\/∃ k,mx=some (.int k m)/\m<=cap) (hh:hi=none/\h=len/\mx=none\/∃ k,hi=some (.int k h)/\h<=m) (hl:lo=none/\l=0\/∃ k,lo=some (.int k l)/\l<=h) :
  (Instr.sliceAt t (.slice A len cap) lo hi mx).run P w=.ok (.slice (if m=l then A else A.map (·.add (l*sz))) (h-l) (m-l)) w:=by
 have hb:=zjq (P:=P) (w:=w) true hm hh hl;unfold Instr.sliceAt;rw[Sem.run_bind,run_underlying hu];simp only[Result.andThen_ok];unfold Instr.slice;rw[Sem.run_bind,run_underlying hu];simp only[Result.andThen_ok,Sem.run_bind,hb,zc4 hsz,Sem.run_pure]
theorem zo3 {c:Ctx} {k:IntKind} {n:Int} {v:Value} (h:rel c (.i k n) v) (h0:0<=n):v=.int k (n.toNat:Nat):=by
 simp only[rel]at h;rw[h,Int.toNat_of_nonneg h0]
def relO (c:Ctx):Option AV->Option Value->Prop
 |none,none=>True
 |some x,some y=>rel c x y
 |_,_=>False
theorem znM {c:Ctx} {sz:Nat} {es:List (List AV)} {ad:Option Addr} {cap:Nat} (hcap:es.length<=cap) (hr:es≠[]->∃ a:Addr,ad=some a/\¬c.A a.block/\a.block<c.w.heap.size/\zaS c sz a 0 es) (l h:Nat) (hl:l<=h) (hh:h<=es.length) :
  rel c (.sl sz ((es.take h).drop l)) (.slice (if cap=l then ad else ad.map (·.add (l*sz))) (h-l) (cap-l)):=by
 simp only[rel];refine ⟨_,_,by rw[List.length_drop,List.length_take,Nat.min_eq_left hh],by rw[List.length_drop,List.length_take,Nat.min_eq_left hh];omega,fun hne=>?_⟩
 have hlt:l<h:=by
  rcases Nat.lt_or_ge l h with hlt|hge
  ·exact hlt
  ·exact absurd (List.eq_nil_of_length_eq_zero (by rw[List.length_drop,List.length_take,Nat.min_eq_left hh];omega)) hne
 have hes:es≠[]:=fun e=>by rw[e]at hh;simp at hh;omega
 obtain ⟨a,rfl,hA,hb,hrows⟩:=hr hes;rw[if_neg (by omega)]
 refine ⟨a.add (l*sz),rfl,by rw[zeW];exact hA,by rw[zeW];exact hb,zei (l*sz) ?_⟩
 have:=zhf l (zhd h hrows)
 rwa [show l*sz+0=0+l*sz by omega]
theorem znL {l ver off n sz:Nat} {p:Place} {ad:Option Addr} {cap:Nat} (hp:zai β w σ l=some p) (hv:p.len=ver) (h1:off+n*sz<=ver) (hcap:n<=cap)
  (hr:if p.real then (cap=0\/ad=some ⟨p.block,off,none⟩)/\off+cap*sz<=p.size else cap=0) (lo h:Nat) (hl:lo<=h) (hh:h<=n) :
  rel (ctx inv M σ β w) (.sm l ver (off+lo*sz) (h-lo) sz) (.slice (if cap=lo then ad else ad.map (·.add (lo*sz))) (h-lo) (cap-lo)):=by
 simp only[rel];refine ⟨rfl,fun p' hp'=>?_⟩
 have:p'=p:=by have:=(show zai β w σ l=some p' from hp').symm.trans hp;simpa using this
 subst this;have hb:lo*sz+(h-lo)*sz<=n*sz:=by rw[<-Nat.add_mul];exact Nat.mul_le_mul_right _ (by omega)
 have hc2:lo*sz+(cap-lo)*sz=cap*sz:=by rw[<-Nat.add_mul];congr 1;omega
 refine ⟨by omega,fun _=>⟨by omega,_,_,rfl,by omega, ?_⟩⟩
 cases hreal:p'.real with
 |false=>rw[hreal]at hr;simp only[Bool.false_eq_true,if_false]at hr |-;omega
 |true =>
  rw[hreal]at hr;simp only[if_true]at hr |-
  obtain ⟨h2,h3⟩:=hr;refine ⟨?_,by omega⟩
  by_cases hcl:cap=lo
  ·exact .inl (by omega)
  ·rw[if_neg hcl]
   rcases h2 with h2|h2
   ·exact .inl (by omega)
   ·rw[h2];exact .inr (by simp[zbZ])
theorem zqA (hm:Mem inv w0 M σ β w) {l ver off m sz:Nat} {p:Place} (hl:zcd σ l ver) (hp:zai β w σ l=some p) (hv:p.len=ver) (h0:0<ver) (hle:off+m*sz<=ver) :
  rel (ctx inv M σ β w) (.sm l ver off m sz) (.slice (some ⟨p.block,off,none⟩) m m):=by
 have hreal:p.real=true/\ver<=p.size:=by
  unfold zcd at hl;unfold zai at hp;split at hl
  ·rename_i cs r e
   rw[e]at hp;cases r with
   |false=>have:=hm.ghost l cs e;subst this;simp at hl;omega
   |true =>
    simp only[Option.some.injEq]at hp;subst hp;refine ⟨rfl, ?_⟩;obtain ⟨xs,ty,q1,q2,_⟩:=hm.cells l cs e;simp only[zaN,q1];omega
  ·cases hl
 simp only[rel];refine ⟨rfl,fun p' hp'=>?_⟩
 have:p'=p:=by have:=(show zai β w σ l=some p' from hp').symm.trans hp;simpa using this
 subst this;refine ⟨by omega,fun _=>⟨hle,_,m,rfl,Nat.le_refl _, ?_⟩⟩
 rw[hreal.1];exact ⟨.inr rfl,by omega⟩
def Slicer (P:Program) (w:World) (sz:Nat) (u:Value) (F:Option Value->Option Value->Option Value->Sem Value):Prop :=
 ∀ (A:Option Addr) (len cap:Nat),u=.slice A len cap->∀ (lo hi mx:Option Value) (l h m:Nat),(mx=none/\m=cap\/∃ k,mx=some (.int k m)/\m<=cap)->(hi=none/\h=len/\mx=none\/∃ k,hi=some (.int k h)/\h<=m) ->
  (lo=none/\l=0\/∃ k,lo=some (.int k l)/\l<=h)->(F lo hi mx).run P w=.ok (.slice (if m=l then A else A.map (·.add (l*sz))) (h-l) (m-l)) w
theorem zjO {sz:Nat} {x:AV} {u:Value} {F:Option Value->Option Value->Option Value->Sem Value} (hF:Slicer P w sz u F) {lo hi mx:Option AV} {lo' hi' mx':Option Value} {K:AV->Prop}
  (hx:rel (ctx inv M σ β w) x u) (hlo:relO (ctx inv M σ β w) lo lo') (hhi:relO (ctx inv M σ β w) hi hi') (hmx:relO (ctx inv M σ β w) mx mx') (h:aslc σ x lo hi mx sz K) :
  ∃ z r,K z/\rel (ctx inv M σ β w) z r/\(F lo' hi' mx').run P w=.ok r w:=by
 have rn:∀ {v:Option Value},relO (ctx inv M σ β w) none v->v=none:=by intro v hv;cases v<;>first|rfl|exact hv.elim
 have rs:∀ {v:Option Value} {k:IntKind} {n:Int},relO (ctx inv M σ β w) (some (.i k n)) v->0<=n->v=some (.int k (n.toNat:Nat)):=by
  intro v k n hv h0;cases v with
  |none=>exact hv.elim
  |some v=>rw[zo3 (c:=ctx inv M σ β w) hv h0]
 unfold aslc at h;split at h
 ·-- three bounds,all 0
  rename_i k m;obtain ⟨rfl,rfl,rfl,h⟩:=h;have e1:=rn hlo;subst e1;have e2:=rs hhi (Int.le_refl 0);subst e2;have e3:=rs hmx (Int.le_refl 0);subst e3;have key:∀ (A:Option Addr) (len cap:Nat),u=.slice A len cap->∃ r,rel (ctx inv M σ β w) (.s0 sz) r/\(F none (some (.int .i64 ((0:Int).toNat:Nat))) (some (.int k ((0:Int).toNat:Nat)))).run P w=.ok r w:=fun A len cap hu =>
   ⟨_,by simp only[rel];exact ⟨_,rfl⟩,hF A len cap hu _ _ _ 0 0 0 (.inr ⟨k,rfl,by omega⟩) (.inr ⟨.i64,rfl,by omega⟩) (.inl ⟨rfl,rfl⟩)⟩
  split at h
  ·simp only[rel]at hx
   obtain ⟨ad,cap,eu,_⟩:=hx;obtain ⟨r,h1,h2⟩:=key ad _ cap eu;exact ⟨_,r,h,h1,h2⟩
  ·simp only[rel]at hx
   obtain ⟨ad,eu⟩:=hx;obtain ⟨r,h1,h2⟩:=key ad _ _ eu;exact ⟨_,r,h,h1,h2⟩
  ·obtain ⟨p,ad,cap,_,_,_,eu,_⟩:=zcP h.1 hx
   obtain ⟨r,h1,h2⟩:=key ad _ cap eu;exact ⟨_,r,h.2,h1,h2⟩
  ·exact h.elim
 ·exact h.elim
 ·have e3:=rn hmx;subst e3
  split at h
  ·-- a slice that nobody writes
   rename_i sz' es;obtain ⟨rfl,h⟩:=h;simp only[rel]at hx;obtain ⟨ad,cap,eu,hcap,hr⟩:=hx;split at h
   ·have e1:=rn hlo;subst e1
    have e2:=rn hhi;subst e2;refine ⟨_,_,h, ?_,hF ad es.length cap eu _ _ _ (0) (es.length) cap (.inl ⟨rfl,rfl⟩) (.inl ⟨rfl,rfl,rfl⟩) (.inl ⟨rfl,rfl⟩)⟩
    simpa using znM hcap hr 0 es.length (by omega) (by omega)
   ·rename_i k hh
    obtain ⟨⟨h0,h1⟩,h⟩:=h;have e1:=rn hlo;subst e1;have e2:=rs hhi h0;subst e2;refine ⟨_,_,h, ?_,hF ad es.length cap eu _ _ _ (0) (hh.toNat) cap (.inl ⟨rfl,rfl⟩) (.inr ⟨k,rfl,by omega⟩) (.inl ⟨rfl,rfl⟩)⟩
    simpa using znM hcap hr 0 hh.toNat (by omega) (by omega)
   ·rename_i k l
    obtain ⟨⟨h0,h1⟩,h⟩:=h;have e1:=rs hlo h0;subst e1;have e2:=rn hhi;subst e2;refine ⟨_,_,h, ?_,hF ad es.length cap eu _ _ _ (l.toNat) (es.length) cap (.inl ⟨rfl,rfl⟩) (.inl ⟨rfl,rfl,rfl⟩) (.inr ⟨k,rfl,by omega⟩)⟩
    have:=znM hcap hr l.toNat es.length (by omega) (by omega)
    rwa [List.take_length]at this
   ·rename_i k l k' hh
    obtain ⟨⟨h0,h1,h2⟩,h⟩:=h;have e1:=rs hlo h0;subst e1;have e2:=rs hhi (by omega);subst e2
    exact ⟨_,_,h,znM hcap hr l.toNat hh.toNat (by omega) (by omega),hF ad es.length cap eu _ _ _ (l.toNat) (hh.toNat) cap (.inl ⟨rfl,rfl⟩) (.inr ⟨k',rfl,by omega⟩) (.inr ⟨k,rfl,by omega⟩)⟩
   ·exact h.elim
  ·-- a named row
   rename_i l ver off n sz';obtain ⟨rfl,hlive,h⟩:=h;obtain ⟨p,ad,cap,hp,hv,hb,eu,hcap,hr⟩:=zcP hlive hx;split at h
   ·have e1:=rn hlo;subst e1
    have e2:=rn hhi;subst e2;refine ⟨_,_,h, ?_,hF ad n cap eu _ _ _ (0) (n) cap (.inl ⟨rfl,rfl⟩) (.inl ⟨rfl,rfl,rfl⟩) (.inl ⟨rfl,rfl⟩)⟩
    simpa using znL (M:=M) (inv:=inv) hp hv hb hcap hr 0 n (by omega) (by omega)
   ·rename_i k hh
    obtain ⟨⟨h0,h1⟩,h⟩:=h;have e1:=rn hlo;subst e1;have e2:=rs hhi h0;subst e2;refine ⟨_,_,h, ?_,hF ad n cap eu _ _ _ (0) (hh.toNat) cap (.inl ⟨rfl,rfl⟩) (.inr ⟨k,rfl,by omega⟩) (.inl ⟨rfl,rfl⟩)⟩
    simpa using znL (M:=M) (inv:=inv) hp hv hb hcap hr 0 hh.toNat (by omega) (by omega)
   ·rename_i k lo
    obtain ⟨⟨h0,h1⟩,h⟩:=h;have e1:=rs hlo h0;subst e1;have e2:=rn hhi;subst e2;exact ⟨_,_,h,znL (M:=M) (inv:=inv) hp hv hb hcap hr lo.toNat n (by omega) (by omega),hF ad n cap eu _ _ _ (lo.toNat) (n) cap (.inl ⟨rfl,rfl⟩) (.inl ⟨rfl,rfl,rfl⟩) (.inr ⟨k,rfl,by omega⟩)⟩
   ·rename_i k lo k' hh
    obtain ⟨⟨h0,h1,h2⟩,h⟩:=h;have e1:=rs hlo h0;subst e1;have e2:=rs hhi (by omega);subst e2
    exact ⟨_,_,h,znL (M:=M) (inv:=inv) hp hv hb hcap hr lo.toNat hh.toNat (by omega) (by omega),hF ad n cap eu _ _ _ (lo.toNat) (hh.toNat) cap (.inl ⟨rfl,rfl⟩) (.inr ⟨k',rfl,by omega⟩) (.inr ⟨k,rfl,by omega⟩)⟩
   ·exact h.elim
  ·-- a slice without room
   simp only[rel]at hx;obtain ⟨ad,eu⟩:=hx;have fin:∀ (lo'' hi'':Option Value),(hi''=none/\(0:Nat)=0/\(none:Option Value)=none\/∃ k,hi''=some (.int k (0:Nat))/\0<=0)->(lo''=none/\(0:Nat)=0\/∃ k,lo''=some (.int k (0:Nat))/\0<=0)->∃ r,rel (ctx inv M σ β w) (.s0 sz) r/\(F lo'' hi'' none).run P w=.ok r w:=by
    intro lo'' hi'' h1 h2;exact ⟨_,by simp only[rel];exact ⟨_,rfl⟩,hF ad 0 0 eu lo'' hi'' none 0 0 0 (.inl ⟨rfl,rfl⟩) h1 h2⟩
   split at h
   ·have e1:=rn hlo;subst e1
    have e2:=rn hhi;subst e2;obtain ⟨r,k1,k2⟩:=fin none none (.inl ⟨rfl,rfl,rfl⟩) (.inl ⟨rfl,rfl⟩);exact ⟨_,r,h,k1,k2⟩
   ·rename_i k hh
    obtain ⟨rfl,h⟩:=h;have e1:=rn hlo;subst e1;have e2:=rs hhi (Int.le_refl 0);subst e2;obtain ⟨r,k1,k2⟩:=fin none _ (.inr ⟨k,rfl,Nat.le_refl _⟩) (.inl ⟨rfl,rfl⟩);exact ⟨_,r,h,k1,k2⟩
   ·rename_i k ll
    obtain ⟨rfl,h⟩:=h;have e1:=rs hlo (Int.le_refl 0);subst e1;have e2:=rn hhi;subst e2;obtain ⟨r,k1,k2⟩:=fin _ none (.inl ⟨rfl,rfl,rfl⟩) (.inr ⟨k,rfl,Nat.le_refl _⟩);exact ⟨_,r,h,k1,k2⟩
   ·rename_i k ll k' hh
    obtain ⟨⟨rfl,rfl⟩,h⟩:=h;have e1:=rs hlo (Int.le_refl 0);subst e1;have e2:=rs hhi (Int.le_refl 0);subst e2;obtain ⟨r,k1,k2⟩:=fin _ _ (.inr ⟨k',rfl,Nat.le_refl _⟩) (.inr ⟨k,rfl,Nat.le_refl _⟩);exact ⟨_,r,h,k1,k2⟩
   ·exact h.elim
  ·exact h.elim
theorem one_rel {c:Ctx} {x:AV} {v:Value} (h1:x.one=true) (h:rel c x v):v.oneCell'=true:=by
 cases x<;>simp only[AV.one,Bool.false_eq_true]at h1<;>simp only[rel]at h
 ·subst h;rfl
 ·subst h;rfl
 ·subst h;exact h1
 ·obtain ⟨_,rfl⟩:=h;rfl
 ·obtain ⟨_,_,rfl,_⟩:=h;rfl
 ·obtain ⟨_,rfl,_⟩:=h;rfl
 ·exact h.1
 ·exact h.1
 ·obtain ⟨_,_,rfl,_⟩:=h;rfl
 ·exact h.1
theorem zsg {v:Value} (h:v.oneCell'=true):v.cells=#[v]:=by cases v<;>first|rfl|(simp[Value.oneCell']at h)
theorem ziW {c:Ctx} {x:AV} {v:Value} (h1:x.sound=true) (h:rel c x v):relCs c x.cells v.cells.toList:=by
 have:(∃ cs,x=.agg cs)\/(x.cells=[x]/\x.one=true):=by
  cases x<;>first|exact .inl ⟨_,rfl⟩|exact .inr ⟨rfl,h1⟩
 rcases this with ⟨cs,rfl⟩|⟨e,h2⟩
 ·simp only[rel]at h
  obtain ⟨xs,rfl,h⟩:=h;exact h
 ·have ho:=one_rel h2 h
  rw[e,zsg ho];exact zcQ ho h zbs
theorem zb3:∀ (xs:List AV) (cs:List AV) (off:Nat),(ovl cs off xs).length=cs.length
 |[],_,_=>rfl
 |x::xs,cs,off=>by simp[ovl,zb3 xs]
theorem zqQ {c:Ctx} (off:Nat):∀ (xs:List AV) (us:List Value) (j:Nat) (cs:List AV) (cells:Array Value),relCs c xs us->relCs c cs cells.toList ->
  relCs c (ovl cs (off+j) xs) ((us.zipIdx j).foldl (fun cs p=>cs.setIfInBounds (off+p.2) p.1) cells).toList/\((us.zipIdx j).foldl (fun cs p=>cs.setIfInBounds (off+p.2) p.1) cells).size=cells.size
 |[],us,j,cs,cells,h,h'=>by
  simp only[relCs]at h;subst h;exact ⟨h',rfl⟩
 |x::xs,us,j,cs,cells,h,h'=>by
  simp only[relCs]at h;obtain ⟨u,us',rfl,h1,h2,h⟩:=h;have h3:relCs c (cs.set (off+j) x) (cells.setIfInBounds (off+j) u).toList:=by rw[Array.toList_setIfInBounds];exact zlt _ h' h1 h2
  have:=zqQ off xs us' (j+1) _ _ h h3;simp only[ovl,List.zipIdx_cons,List.foldl_cons];exact ⟨this.1,this.2.trans (by simp)⟩
theorem zd7 (hs:Knows inv w0 M φ σ β a w) {zai:Nat->Option (Nat×Nat×TypeId)}:∀ {l:List (Nat×Operand)} {ps:List (Nat×Nat×Opd)} {cs cs':List AV} {cells:Array Value},
  zfy P inv zai l=some ps->zdn φ cs ps=some cs'->relCs (ctx inv M σ β w) cs cells.toList ->
  ∃ cells',Instr.fill (fun i=>(zai i).map fun p=>(p.1,p.2.1)) cells (l.map fun p=>(p.1,a.eval p.2))=some cells'/\relCs (ctx inv M σ β w) cs' cells'.toList
 |[],_,_,_,cells,h,hf,hr=>by
  simp only[zfy,Option.some.injEq]at h;subst h;simp only[zdn,Option.some.injEq]at hf;subst hf;exact ⟨cells,rfl,hr⟩
 |(i,x)::l,_,cs,_,cells,h,hf,hr=>by
  simp only[zfy]at h;split at h
  ·rename_i off n t e
   split at h
   ·rename_i d ps e1 e2
    simp only[Option.some.injEq]at h;subst h;simp only[zdn]at hf;split at hf
    ·rename_i hc
     obtain ⟨c1,c2,c3⟩:=hc;have hx:=zap hs e1;have hxc:=ziW c1 hx;have hl:=zaB hxc;have hl2:=zaB hr;have:=zqQ off _ _ 0 _ _ hxc hr;obtain ⟨cells',h1,h2⟩:=zd7 hs e2 hf this.1;refine ⟨cells', ?_,h2⟩;simp only[List.map_cons,Instr.fill,e,Option.map_some];have hsz:(a.eval x).cells.size=n:=by rw[<-Array.length_toList,<-hl];exact c2
     rw[if_neg (by rw[hsz];simp;rw[<-Array.length_toList,<-hl2];omega)]
     rw[<-h1]
     congr 1
     rw[<-Array.foldl_toList,Array.toList_zipIdx]
    ·cases hf
   ·cases h
  ·cases h
end
section
variable {P:Program} {inv:Nat->Option Nat} {w0:World} {M:Nat->Prop} {φ:AF} {σ:AS} {β:Nat->Nat} {a:Act} {w:World}
theorem zjK {c:Ctx} {cs:List AV} {zs:Array Value} (off n:Nat) (h:relCs c cs zs.toList):rel c (.agg (seg cs off n)) (.agg (zs.extract off (off+n))):=by
 simp only[rel];refine ⟨_,rfl, ?_⟩;rw[Array.toList_extract];simp only[seg,List.extract];rw[show off+n-off=n by omega]
 exact zcg n (zch off h)
theorem zlu {c:Ctx} {cs:List AV} {zs:Array Value} {i:Nat} {x:AV} (h:relCs c cs zs.toList) (e:cs[i]?=some x):∃ y,zs[i]?=some y/\rel c x y:=by
 obtain ⟨y,h1,_,h2⟩:=zih h e;exact ⟨y,by simpa using h1,h2⟩
def keyI:Value->Option Int|.int .i64 k=>some k|_=>none
def ziL:List MapEntry->Int->Nat->Option (Nat×Value)
 |[],_,_=>none
 |e::es,b,i=>if keyI e.key=some b then some (i,e.val) else ziL es b (i+1)
theorem zg0 (b:Int):∀ (l:List MapEntry) (kvs:List (Int×Int)) (i:Nat),l.map (fun e=>(e.key,e.val))=kvs.map (fun p=>(Value.int .i64 p.1,Value.int .i64 p.2))->Instr.findNow (.int .i64) (.int .i64 b) l i=some (ziL l b i)
 |[],_,_,_=>rfl
 |e::l,kvs,i,h=>by
  cases kvs with
  |nil=>simp at h
  |cons p kvs =>
   simp only[List.map_cons,List.cons.injEq,Prod.mk.injEq]at h;have ih:=zg0 b l kvs (i+1) h.2;simp only[Instr.findNow,h.1.1,Instr.sameNow,if_true,ziL,keyI];by_cases hb:p.1=b
   ·rw[hb];simp
   ·have:(b == p.1)=false:=by simp;exact fun e=>hb e.symm
    rw[this];simp only[ih];rw[if_neg (by simpa using hb)]
theorem zl0 (b:Int):∀ (l:List MapEntry) (kvs:List (Int×Int)) (i:Nat),l.map (fun e=>(e.key,e.val))=kvs.map (fun p=>(Value.int .i64 p.1,Value.int .i64 p.2)) ->
  (ziL l b i=none/\zhl kvs b=0)\/∃ j,ziL l b i=some (j,.int .i64 (zhl kvs b))
 |[],kvs,i,h=>by
  cases kvs with
  |nil=>exact .inl ⟨rfl,rfl⟩
  |cons p kvs=>simp at h
 |e::l,kvs,i,h=>by
  cases kvs with
  |nil=>simp at h
  |cons p kvs =>
   simp only[List.map_cons,List.cons.injEq,Prod.mk.injEq]at h;simp only[ziL,zhl,h.1.1,keyI];by_cases hb:p.1=b
   ·rw[if_pos (by rw[hb]),if_pos hb.symm];exact .inr ⟨i,by rw[h.1.2]⟩
   ·rw[if_neg (by simpa using hb),if_neg (fun e=>hb e.symm)];exact zl0 b l kvs (i+1) h.2
theorem zfk (hs:Knows inv w0 M φ σ β a w) {t:TypeId} {x:Option Operand} {d:Option Opd} (h:copt P inv t x=some d):relO (ctx inv M σ β w) (d.map (ev φ)) (x.map a.eval):=by
 cases x with
 |none=>simp only[copt,Option.some.injEq]at h;subst h;exact trivial
 |some x =>
  simp only[copt]at h;obtain ⟨y,h1,h2⟩:=Option.map_eq_some_iff.1 h;subst h2;exact zap hs h1
theorem zji (hs:Knows inv w0 M φ σ β a w) {o:Oper} {c:Call} {e:AVal} (ho:o.op=.call c) (hc:zk1 P inv o.type c=some e) {K:AV->Prop} (h:zdN φ σ e K) :
  ∃ x y,K x/\rel (ctx inv M σ β w) x y/\(execOp a.eval o).run P w=.ok (.value y) w:=by
 obtain ⟨callee,⟨args⟩,⟨ts⟩⟩:=c;unfold zk1 at hc;split at hc
 ·-- len
  rename_i x t e0 e1 e2;simp only at e0 e1 e2;subst e0 e1 e2;split at hc
  ·rename_i et d e1 h1
   simp only[Option.some.injEq]at hc;subst hc;have r1:=zap hs h1;have key:∀ (ad:Option Addr) (n cap:Nat),a.eval x=.slice ad n cap->(execOp a.eval o).run P w=.ok (.value (.int .i64 n)) w:=by
    intro ad n cap hv;simp[execOp,ho,resolve,invoke,builtin,Builtin.len_,run_underlying e1,hv,goInt]
   simp only[zdN]at h;split at h
   ·rename_i sz es ees
    rw[ees]at r1;simp only[rel]at r1;obtain ⟨ad,cap,q1,_⟩:=r1;exact ⟨_,_,h,by simp only[rel],key _ _ _ q1⟩
   ·rename_i sz ees
    rw[ees]at r1;simp only[rel]at r1;obtain ⟨ad,q1⟩:=r1;exact ⟨_,_,h,by simp only[rel];rfl,key _ _ _ q1⟩
   ·rename_i l ver off n sz ees
    rw[ees]at r1;obtain ⟨p,ad,cap,_,_,_,q1,_⟩:=zcP h.1 r1;exact ⟨_,_,h.2,by simp only[rel],key _ _ _ q1⟩
   ·exact h.elim
  ·rename_i n et d e1 h1
   simp only[Option.some.injEq]at hc;subst hc;refine ⟨_,.int .i64 n,h,by simp only[ev,rel], ?_⟩
   simp[execOp,ho,resolve,invoke,builtin,Builtin.len_,run_underlying e1,goInt]
  ·cases hc
 ·-- cap
  rename_i x t e0 e1 e2;simp only at e0 e1 e2;subst e0 e1 e2;split at hc
  ·rename_i et d e1 h1
   simp only[Option.some.injEq]at hc;subst hc;have r1:=zap hs h1;simp only[zdN]at h;split at h
   ·rename_i sz ees
    rw[ees]at r1;simp only[rel]at r1;obtain ⟨ad,q1⟩:=r1;refine ⟨_,.int .i64 0,h,by simp only[rel], ?_⟩
    simp[execOp,ho,resolve,invoke,builtin,Builtin.cap_,run_underlying e1,q1,goInt]
   ·exact h.elim
  ·cases hc
 ·-- min
  rename_i x y e0 e1;simp only at e0 e1;subst e0 e1;split at hc
  ·rename_i dx dy h1 h2
   simp only[Option.some.injEq]at hc;subst hc;have r1:=zap hs h1;have r2:=zap hs h2;simp only[zdN]at h;split at h
   ·rename_i k p k' q ep eq
    rw[ep]at r1;rw[eq]at r2;simp only[rel]at r1 r2;obtain ⟨rfl,h⟩:=h;refine ⟨_,.int k (if q<p then q else p),h,by simp only[rel,if_true], ?_⟩
    simp[execOp,ho,resolve,invoke,builtin,Builtin.min_,Builtin.min2,r1,r2,List.foldlM]
   ·exact h.elim
  ·cases hc
 ·-- max
  rename_i x y e0 e1;simp only at e0 e1;subst e0 e1;split at hc
  ·rename_i dx dy h1 h2
   simp only[Option.some.injEq]at hc;subst hc;have r1:=zap hs h1;have r2:=zap hs h2;simp only[zdN]at h;split at h
   ·rename_i k p k' q ep eq
    rw[ep]at r1;rw[eq]at r2;simp only[rel]at r1 r2;obtain ⟨rfl,h⟩:=h;refine ⟨_,.int k (if p<q then q else p),h,by simp only[rel,Bool.false_eq_true,if_false], ?_⟩
    simp[execOp,ho,resolve,invoke,builtin,Builtin.max_,Builtin.max2,r1,r2,List.foldlM]
   ·exact h.elim
  ·cases hc
 ·cases hc
set_option maxHeartbeats 1000000 in
theorem zpC (hs:Knows inv w0 M φ σ β a w) {o:Oper} {e:AVal} (hc:zg2 P inv o=some e) {K:AV->Prop} (h:zdN φ σ e K) :
  ∃ x y,K x/\rel (ctx inv M σ β w) x y/\(execOp a.eval o).run P w=.ok (.value y) w:=by
 unfold zg2 at hc;split at hc
 ·-- move
  rename_i x ho;obtain ⟨d,h1,rfl⟩:=Option.map_eq_some_iff.1 hc;refine ⟨_,_,h,zap hs h1, ?_⟩;simp only[execOp,ho,Sem.run_pure]
 ·rename_i x ho
  obtain ⟨d,h1,rfl⟩:=Option.map_eq_some_iff.1 hc;refine ⟨_,_,h,zap hs h1, ?_⟩;simp only[execOp,ho,Sem.run_pure]
 ·-- pick
  rename_i oc oa ob ho;split at hc
  ·rename_i dc da db h1 h2 h3
   simp only[Option.some.injEq]at hc;subst hc;have r1:=zap hs h1;have r2:=zap hs h2;have r3:=zap hs h3;simp only[zdN]at h;split at h
   ·rename_i t et
    rw[et]at r1;simp only[rel]at r1;cases t with
    |true=>exact ⟨_,_,h.1 rfl,r2,by simp[execOp,ho,r1,asBool]⟩
    |false=>exact ⟨_,_,h.2 rfl,r3,by simp[execOp,ho,r1,asBool]⟩
   ·exact h.elim
  ·cases hc
 ·-- binOp
  rename_i op t x y _ ho;split at hc
  ·rename_i ty dx dy h1 h2 h3
   simp only[Option.some.injEq]at hc;subst hc;simp only[zdN]at h;obtain ⟨z,r,k1,k2,k3⟩:=zpG (ox:=x) (oy:=y) h1 (zap hs h2) (zap hs h3) h;refine ⟨z,r,k1,k2, ?_⟩;simp only[execOp,ho,Sem.run_bind,Sem.run_pure]at k3 |-
   rw[k3];rfl
  ·cases hc
 ·-- not
  rename_i x ho;obtain ⟨d,h1,rfl⟩:=Option.map_eq_some_iff.1 hc;have r1:=zap hs h1;simp only[zdN]at h;split at h
  ·rename_i t et
   rw[et]at r1;simp only[rel]at r1;exact ⟨_,.bool (!t),h,by simp only[rel],by simp[execOp,ho,r1,Op.unary]⟩
  ·exact h.elim
 ·-- convert
  rename_i src dst x ho;split at hc
  ·rename_i ds k d e1 e2 h1
   simp only[Option.some.injEq]at hc;subst hc;have r1:=zap hs h1;simp only[zdN]at h;split at h
   ·rename_i k' n et
    rw[et]at r1;simp only[rel]at r1;refine ⟨_,.int k (k.wrap n),h,by simp only[rel], ?_⟩
    simp only[execOp,ho,r1,convert,Sem.run_bind,run_underlying e1,run_underlying e2,Result.andThen_ok];cases ds<;>simp[Conv.intToInt]
   ·exact h.elim
  ·cases hc
 ·-- load
  rename_i t x ho;split at hc
  ·rename_i n d h1 h2
   simp only[Option.some.injEq]at hc;subst hc;simp only[zdN]at h;obtain ⟨v,ev',h⟩:=za2 h;obtain ⟨u,k1,k2⟩:=zi4 hs h1 (zap hs h2) ev';exact ⟨v,u,h,k1,by simp[execOp,ho,k2]⟩
  ·cases hc
 ·-- fieldAddr
  rename_i s x f ho;split at hc
  ·rename_i fs d e1 h1
   split at hc
   ·rename_i fd e2
    split at hc
    ·rename_i n e3
     split at hc
     ·cases hc
     ·rename_i hn
      simp only[Option.some.injEq]at hc;subst hc;have r1:=zap hs h1;have key:∀ ad:Addr,(Instr.fieldAt s (.pointer (some ad)) f).run P w=.ok (.pointer (some (ad.add fd.offset))) w:=by
       intro ad;simp[Instr.fieldAt,run_underlying e1,e2,Instr.sureAddr,fieldPlace,zc4 e3,hn]
      simp only[zdN]at h;split at h
      ·rename_i l ver off et
       rw[et]at r1;obtain ⟨hl,h⟩:=h;obtain ⟨p,hp,hv,r2⟩:=zdB hl r1;refine ⟨_,_,h,zdW hp hv, ?_⟩;simp only[execOp,ho,r2,Sem.run_bind,key,Result.andThen_ok,zbZ,Sem.run_pure]
      ·rename_i sz es i k et
       rw[et]at r1;simp only[rel]at r1;obtain ⟨ad,r2,r3,r4,r5⟩:=r1;refine ⟨_,.pointer (some (ad.add (i*sz+(k+fd.offset)))),h,by simp only[rel];exact ⟨ad,rfl,r3,r4,r5⟩, ?_⟩
       simp only[execOp,ho,r2,Sem.run_bind,key,Result.andThen_ok,zi6,Sem.run_pure,Nat.add_assoc]
      ·exact h.elim
    ·cases hc
   ·cases hc
  ·cases hc
 ·-- indexAddr
  rename_i t x i ho;split at hc
  ·rename_i et dx di e1 h1 h2
   obtain ⟨n,h3,rfl⟩:=Option.map_eq_some_iff.1 hc;have r1:=zap hs h1;have r2:=zap hs h2;have key:∀ (ad:Addr) (len cap:Nat) (k:IntKind) (j:Int),0<=j->j<len->(Instr.indexAt t (.slice (some ad) len cap) (.int k j)).run P w=.ok (.pointer (some (ad.add (j.toNat*n)))) w:=by
    intro ad len cap k j h0 hlt;have:0<=j/\j<(len:Int):=⟨h0,hlt⟩;simp[Instr.indexAt,asIntOf,run_underlying e1,this,zc4 h3]
   simp only[zdN]at h;split at h
   ·rename_i k j ej
    rw[ej]at r2;simp only[rel]at r2;split at h
    ·rename_i sz es exx _
     rw[exx]at r1;obtain ⟨rfl,⟨h0,hlt⟩,h⟩:=h;simp only[rel]at r1;obtain ⟨ad,cap,q1,q2,q3⟩:=r1;have hne:es≠[]:=fun e=>by rw[e]at hlt;simp at hlt;omega
     obtain ⟨a',rfl,q4,q5,q6⟩:=q3 hne;refine ⟨_,.pointer (some (a'.add (j.toNat*sz))),h,by simp only[rel];exact ⟨a',by simp,q4,q5,q6⟩, ?_⟩
     simp only[execOp,ho,q1,r2,Sem.run_bind,key a' _ cap k j h0 hlt,Result.andThen_ok,Sem.run_pure]
    ·rename_i l ver off m sz exx _
     rw[exx]at r1;obtain ⟨rfl,hl,⟨h0,hlt⟩,h⟩:=h;obtain ⟨p,ad,cap,hp,hv,hb,q1,hcap,hr⟩:=zcP hl r1;have hadd:ad=some ⟨p.block,off,none⟩:=by
      cases hreal:p.real with
      |false=>rw[hreal]at hr;simp at hr;omega
      |true=>rw[hreal]at hr;simp at hr;rcases hr.1 with e|e<;>first|omega|exact e
     subst hadd;refine ⟨_,_,h,zdW hp hv, ?_⟩;simp only[execOp,ho,q1,r2,Sem.run_bind,key _ _ cap k j h0 hlt,Result.andThen_ok,Sem.run_pure,zbZ]
    ·rename_i exx e0;cases e0
    ·rename_i exx e0;cases e0
    ·exact h.elim
   ·exact h.elim
  ·rename_i m et dx di e1 h1 h2
   obtain ⟨n,h3,rfl⟩:=Option.map_eq_some_iff.1 hc;have r1:=zap hs h1;have r2:=zap hs h2;have key:∀ (ad:Addr) (k:IntKind) (j:Int),0<=j->j<m->(Instr.indexAt t (.pointer (some ad)) (.int k j)).run P w=.ok (.pointer (some (ad.add (j.toNat*n)))) w:=by
    intro ad k j h0 hlt;have:0<=j/\j<(m:Int):=⟨h0,hlt⟩;simp[Instr.indexAt,asIntOf,run_underlying e1,Instr.sureAddr,this,zc4 h3]
   simp only[zdN]at h;split at h
   ·rename_i k j ej
    rw[ej]at r2;simp only[rel]at r2;split at h
    ·rename_i e0;cases e0
    ·rename_i e0;cases e0
    ·rename_i l ver off m' exx e0
     cases e0
     rw[exx]at r1;obtain ⟨hl,⟨h0,hlt⟩,h⟩:=h;obtain ⟨p,hp,hv,q1⟩:=zdB hl r1;refine ⟨_,_,h,zdW hp hv, ?_⟩;simp only[execOp,ho,q1,r2,Sem.run_bind,key _ k j h0 hlt,Result.andThen_ok,Sem.run_pure,zbZ]
    ·rename_i sz es i' k' m' exx e0
     cases e0
     rw[exx]at r1;obtain ⟨⟨h0,hlt⟩,h⟩:=h;simp only[rel]at r1;obtain ⟨ad,q1,q2,q3,q4⟩:=r1;refine ⟨_,.pointer (some (ad.add (i'*sz+(k'+j.toNat*n)))),h,by simp only[rel];exact ⟨ad,rfl,q2,q3,q4⟩, ?_⟩
     simp only[execOp,ho,q1,r2,Sem.run_bind,key _ k j h0 hlt,Result.andThen_ok,Sem.run_pure,zi6,Nat.add_assoc]
    ·exact h.elim
   ·exact h.elim
  ·cases hc
 ·-- field
  rename_i t x f ho;split at hc
  ·rename_i fs d e1 h1
   split at hc
   ·rename_i fd e2
    obtain ⟨n,h3,rfl⟩:=Option.map_eq_some_iff.1 hc;have r1:=zap hs h1;simp only[zdN]at h;split at h
    ·rename_i cs ecs
     rw[ecs]at r1;simp only[rel]at r1;obtain ⟨zs,q1,q2⟩:=r1;have key:∀ v,(part fd.type zs fd.offset).run P w=.ok v w->(execOp a.eval o).run P w=.ok (.value v) w:=by
      intro v hv;simp only[execOp,ho,Instr.field,Sem.run_bind,run_underlying e1,Result.andThen_ok,e2,q1,asAgg,Sem.run_pure,hv]
     split at h
     ·obtain ⟨v,hv,h⟩:=za2 h
      obtain ⟨y,k1,k2⟩:=zlu q2 hv;exact ⟨v,y,h,k2,key y (zcf h3 w zs _ y k1)⟩
     ·rename_i m
      exact ⟨_,_,h,zjK _ _ q2,key _ (zf7 h3 w zs _)⟩
    ·exact h.elim
   ·cases hc
  ·cases hc
 ·-- index
  rename_i t x i ho;split at hc
  ·rename_i m et dx di e1 h1 h2
   split at hc
   ·rename_i l n h3 h4
    simp only[Option.some.injEq]at hc;subst hc;have r1:=zap hs h1;have r2:=zap hs h2;simp only[zdN]at h;split at h
    ·rename_i cs k j ecs ej
     rw[ecs]at r1;rw[ej]at r2;simp only[rel]at r1 r2;obtain ⟨zs,q1,q2⟩:=r1;obtain ⟨⟨h0,hlt⟩,h⟩:=h;have hb:0<=j/\j<(m:Int):=⟨h0,hlt⟩;have key:∀ v,(part et zs (j.toNat*n)).run P w=.ok v w->(execOp a.eval o).run P w=.ok (.value v) w:=by
      intro v hv;simp[execOp,ho,Instr.index,asIntOf,run_underlying e1,q1,r2,hb,zc4 h4,hv]
     cases l with
     |none =>
      obtain ⟨v,hv,h⟩:=za2 h;obtain ⟨y,k1,k2⟩:=zlu q2 hv;exact ⟨v,y,h,k2,key y (zcf h3 w zs _ y k1)⟩
     |some l =>
      have hl:=zm2 h3;rw[h4]at hl;simp only[Option.some.injEq]at hl;subst hl;exact ⟨_,_,h,zjK _ _ q2,key _ (zf7 h3 w zs _)⟩
    ·exact h.elim
   ·cases hc
  ·cases hc
 ·-- builtin
  rename_i c ho;exact zji hs ho hc h
 ·-- extract
  rename_i x i ho;obtain ⟨d,h1,rfl⟩:=Option.map_eq_some_iff.1 hc;have r1:=zap hs h1;simp only[zdN]at h;split at h
  ·rename_i vs evs
   rw[evs]at r1;simp only[rel]at r1;obtain ⟨xs,q1,q2⟩:=r1;obtain ⟨v,hv,h⟩:=za2 h;obtain ⟨y,k1,k2⟩:=zki q2 hv;have k1':xs[i]?=some y:=by simpa using k1
   exact ⟨v,y,h,k2,by simp[execOp,ho,q1,Instr.extract,k1']⟩
  ·exact h.elim
 ·-- makeFunc
  rename_i f first captured ho;split at hc
  ·rename_i hf
   split at hc
   ·rename_i j l h1 h2
    simp only[Option.some.injEq]at hc;subst hc;simp only[zdN]at h;refine ⟨_,.func (.func f) #[] (captured.map a.eval),h, ?_, ?_⟩
    ·simp only[rel]
     refine ⟨f,_,rfl,h1, ?_⟩;have:=ziT hs h2;rw[List.map_map]at this;rw[Array.toList_map];exact this
    ·have hf':first=#[]:=Array.isEmpty_iff.1 hf
     simp[execOp,ho,Instr.makeFunc,hf']
   ·cases hc
  ·cases hc
 ·-- build
  rename_i t parts ho;have key:∀ (cells:Array Value) (cs:List AV),P.built t (parts.map fun (i,x)=>(i,a.eval x)).toList=some cells->(execOp a.eval o).run P w=.ok (.value (.agg cells)) w:=by
   intro cells cs hb;simp only[execOp,ho,Sem.run_bind,run_build w t _ cells hb,Result.andThen_ok,Sem.run_pure]
  split at hc
  ·rename_i fs z e1 e2
   split at hc
   ·rename_i hall
    obtain ⟨ps,h1,rfl⟩:=Option.map_eq_some_iff.1 hc;simp only[zdN]at h;obtain ⟨cs,ecs,h⟩:=za2 h
    ·obtain ⟨it,zv,hi,hz,hzr⟩:=zce (c:=ctx inv M σ β w) e2
     obtain ⟨cells',k1,k2⟩:=zd7 hs h1 ecs hzr;refine ⟨_,.agg cells',h,by simp only[rel];exact ⟨_,rfl,k2⟩,key cells' cs ?_⟩
     have hplaces:∀ l:List Field,(∀ f∈l,(P.info? f.type).isSome=true)->l.mapM (fun f=>(P.info? f.type).map fun i=>(f.offset,i.size))=some (l.map fun f=>(f.offset,P.cellsOf f.type)):=by
      intro l
      induction l with
      |nil=>intro _;rfl
      |cons f l ih =>
       intro hl;obtain ⟨i,hi⟩:=Option.isSome_iff_exists.1 (hl f (by simp))
       simp[List.mapM_cons,hi,ih (fun f hf=>hl f (by simp[hf])),Program.cellsOf]
     have hall':∀ f∈fs.toList,(P.info? f.type).isSome=true:=by unfold zoI at hall;exact List.all_eq_true.1 hall
     simp only[Program.built,hi,e1,hz,hplaces fs.toList hall'];rw[<-k1,Array.toList_map]
     congr 1
     funext i
     simp only[zhP,List.getElem?_toArray,List.getElem?_map,Array.getElem?_toList];cases e3:fs[i]? with
     |none=>rfl
     |some f =>
      have hm:f∈fs.toList:=by
       have:=Array.mem_of_getElem? e3
       simpa using this
      obtain ⟨ii,hii⟩:=Option.isSome_iff_exists.1 (hall' f hm);simp[siz,hii,Program.cellsOf]
   ·cases hc
  ·rename_i m et z e1 e2
   split at hc
   ·rename_i n e3
    obtain ⟨ps,h1,rfl⟩:=Option.map_eq_some_iff.1 hc;simp only[zdN]at h;obtain ⟨cs,ecs,h⟩:=za2 h
    ·obtain ⟨it,zv,hi,hz,hzr⟩:=zce (c:=ctx inv M σ β w) e2
     obtain ⟨cells',k1,k2⟩:=zd7 hs h1 ecs hzr;obtain ⟨ie,hie,hn,_⟩:=zj5 e3;refine ⟨_,.agg cells',h,by simp only[rel];exact ⟨_,rfl,k2⟩,key cells' cs ?_⟩
     simp only[Program.built,hi,e1,hz,hie];rw[<-k1,Array.toList_map,hn];rfl
   ·cases hc
  ·cases hc
 ·-- slice
  rename_i t x lo hi mx ho;split at hc
  ·rename_i et dx dlo dhi dmx e1 h1 h2 h3 h4
   obtain ⟨n,h5,rfl⟩:=Option.map_eq_some_iff.1 hc;simp only[zdN]at h;obtain ⟨z,r,k1,k2,k3⟩:=zjO (F:=fun lo hi mx=>Instr.sliceAt t (a.eval x) lo hi mx) (fun A len cap hu lo hi mx l h m hm hh hl=>by rw[hu];exact zmI e1 h5 A len cap hm hh hl) (zap hs h1) (zfk hs h2) (zfk hs h3) (zfk hs h4) h
   exact ⟨z,r,k1,k2,by simp only[execOp,ho,Sem.run_bind,k3,Result.andThen_ok,Sem.run_pure]⟩
  ·rename_i m et dx dlo dhi dmx e1 h1 h2 h3 h4
   obtain ⟨n,h5,rfl⟩:=Option.map_eq_some_iff.1 hc;have r1:=zap hs h1;simp only[zdN]at h;split at h
   ·rename_i l ver off ep
    rw[ep]at r1;obtain ⟨hl,⟨h0,hle⟩,h⟩:=h;obtain ⟨p,hp,hv,r2⟩:=zdB hl r1;have hsm:rel (ctx inv M σ β w) (.sm l ver off m n) (.slice (some ⟨p.block,off,none⟩) m m):=zqA hs.mem hl hp hv h0 hle;obtain ⟨z,r,k1,k2,k3⟩:=zjO (F:=fun lo hi mx=>Instr.sliceAt t (a.eval x) lo hi mx) (fun A len cap hu lo hi mx l h m hm hh hl=>by
     simp only[Value.slice.injEq]at hu;obtain ⟨rfl,rfl,rfl⟩:=hu;rw[r2];exact zh4 e1 h5 _ hm hh hl) hsm (zfk hs h2) (zfk hs h3) (zfk hs h4) h
    exact ⟨z,r,k1,k2,by simp only[execOp,ho,Sem.run_bind,k3,Result.andThen_ok,Sem.run_pure]⟩
   ·exact h.elim
  ·cases hc
 ·-- nilCheck
  rename_i x ho;obtain ⟨d,h1,rfl⟩:=Option.map_eq_some_iff.1 hc;have r1:=zap hs h1;simp only[zdN]at h;split at h
  ·rename_i l ver off et
   rw[et]at r1;obtain ⟨hl,h⟩:=h;obtain ⟨p,hp,hv,r2⟩:=zdB hl r1;exact ⟨_,_,h,r1,by simp[execOp,ho,r2]⟩
  ·rename_i sz es i k et
   rw[et]at r1;have r1':=r1;simp only[rel]at r1;obtain ⟨ad,r2,_⟩:=r1;exact ⟨_,_,h,r1',by simp[execOp,ho,r2]⟩
  ·rename_i j cs et
   rw[et]at r1;have r1':=r1;simp only[rel]at r1;obtain ⟨g,xs,r2,_⟩:=r1;exact ⟨_,_,h,r1',by simp[execOp,ho,r2]⟩
  ·exact h.elim
 ·-- lookup
  rename_i t x k ho;split at hc
  ·rename_i kt vt e1
   split at hc
   ·rename_i dx dk e2 e3 h1 h2
    simp only[Option.some.injEq]at hc;subst hc;have r1:=zap hs h1;have r2:=zap hs h2;simp only[zdN]at h;obtain ⟨v,ev1,h⟩:=za2 h;unfold zmi at ev1;split at ev1
    ·rename_i l b em ek
     split at ev1
     ·rename_i kvs hg
      simp only[Option.some.injEq]at ev1;subst ev1;rw[em]at r1;rw[ek]at r2;simp only[rel]at r1 r2;have hp:zai β w σ l=some ⟨β l,0,0,true⟩:=by unfold zai;rw[hg]
      have hm:=r1.2 _ hp rfl;obtain ⟨es,clk,hh,hes⟩:=hs.mem.maps l kvs hg;obtain ⟨i,hi,hz⟩:=Option.bind_eq_some_iff.1 e3;refine ⟨_,.int .i64 (zhl kvs b),h,by simp only[rel], ?_⟩
      have hck:=fun e=>Go.MapKept.run_checkKey (w:=w) (k:=.int .i64 b) e2 rfl e 9999
      have hfk:(Instr.findKey kt (.int .i64 b) es.toList).run P w=.ok (ziL es.toList b 0) w:=by
       simp only[Instr.findKey,Sem.run_bind,run_underlying e2,Result.andThen_ok,zg0 b es.toList kvs 0 hes,Sem.run_pure]
      have hz':(zeroValue vt).run P w=.ok (.int .i64 0) w:=by simp[zeroValue,typeInfo,hi,hz]
      have hl:(Instr.lookup t (a.eval x) (a.eval k) false).run P w=.ok (.int .i64 (zhl kvs b)) w:=by
       rw[hm,r2];rcases zl0 b es.toList kvs 0 hes with ⟨f1,f2⟩|⟨j,f1⟩
       ·rw[f1]at hfk
        simp only[Instr.lookup,Sem.run_bind,run_underlying e1,Result.andThen_ok,Go.MapKept.run_getObj_map hh,Sem.run_pure,hck,hfk,hz',f2];rfl
       ·rw[f1]at hfk
        simp only[Instr.lookup,Sem.run_bind,run_underlying e1,Result.andThen_ok,Go.MapKept.run_getObj_map hh,Sem.run_pure,hck,hfk];rfl
      simp only[execOp,ho,Sem.run_bind,hl,Result.andThen_ok,Sem.run_pure]
     ·cases ev1
    ·cases ev1
   ·cases hc
  ·cases hc
 ·cases hc
end
inductive AOp where
 |set (d:Nat) (e:AVal)
 |alloc (d:Nat) (zero:List (Nat×AV))
 |box (d n:Nat) (x:Opd)
 |isnil (d:Nat) (neg:Bool) (x:Opd)
 |mks0 (d sz:Nat)
 |mksl (d sz len:Nat) (zero:List (Nat×AV)) (parts:List (Nat×Nat×Opd))
 |store (n:Nat) (a x:Opd)
 |app (d:Nat) (s x:Opd) (sz:Nat)
 |make (d:Nat) (len cap:Opd) (zero:List (Nat×AV)) (sz:Nat)
 |call (d:Option Nat) (j:Nat) (args:List Opd)
 |calv (d:Option Nat) (f:Opd) (args:List Opd)
 |callp (d j:Nat) (args:List Opd)
 |gal (d back:Nat) (zero:List (Nat×AV))
 |storeA (n:Nat) (a x:Opd) (pts:List Opd)
 |bad (d:Option Nat)
 |mkmap (d:Nat)
 |mapset (m k v:Opd)
 |appz (d:Nat) (s n:Opd) (zero:List (Nat×AV)) (sz:Nat)
 |calle (d:Option Nat) (j:Nat) (args:List Opd)
 |calve (d:Option Nat) (f:Opd) (args:List Opd)
 |appe (d:Nat) (s x:Opd) (sz:Nat)
 |appA (d:Nat) (s x:Opd) (sz:Nat) (pts:List Opd)
 |mksr (d sz len:Nat) (zero:List (Nat×AV)) (parts:List (Nat×Nat×Opd))
 |callA (d:Option Nat) (j:Nat) (args:List Opd) (pts:List Opd)
 |clr (s:Opd) (zero:List (Nat×AV)) (sz:Nat)
 deriving Inhabited
def AOp.dst:AOp->Option Nat
 |.set d _=>some d|.alloc d _=>some d|.box d _ _=>some d|.isnil d _ _=>some d|.mks0 d _=>some d|.mksl d _ _ _ _=>some d|.store _ _ _=>none|.app d _ _ _=>some d|.make d _ _ _ _=>some d
 |.call d _ _=>d|.calv d _ _=>d|.callp d _ _=>some d|.gal d _ _=>some d|.storeA _ _ _ _=>none|.bad d=>d|.mkmap d=>some d|.mapset _ _ _=>none|.appz d _ _ _ _=>some d|.calle d _ _=>d|.calve d _ _=>d|.appe d _ _ _=>some d|.appA d _ _ _ _=>some d|.mksr d _ _ _ _=>some d|.callA d _ _ _=>d|.clr _ _ _=>none
abbrev GOp:=Option (Nat×Bool)×AOp
inductive ACode where
 |skip
 |reg (ops:List GOp)
 |regd (k:Nat) (ops:List GOp)
 |seq (x y:ACode)
 |cond (c:Opd) (x y:ACode)
 |block (id:Nat) (c:ACode)
 |loop (c:ACode)
 |exit (id:Nat)
 |ret
 |scope (c:ACode)
 |label (l:Nat)
 |goto (l:Nat)
 deriving Inhabited
inductive ARes where
 |tmp (t:Nat)
 |cell (t:Nat) (l:Option Nat)
 deriving Inhabited
structure AFn where
 ntmps:Nat
 res:List ARes
 body:ACode
 deriving Inhabited
def Opd.rd:Opd->List Nat|.t i=>[i]|.c _=>[]
def zmT:Option Opd->List Nat|some x=>x.rd|none=>[]
def zdj:List Opd->List Nat|[]=>[]|x::r=>x.rd++zdj r
def zgW:List (Nat×Nat×Opd)->List Nat|[]=>[]|(_,_,x)::r=>x.rd++zgW r
def AVal.rd:AVal->List Nat
 |.mov x=>x.rd|.pick c a b=>c.rd++(a.rd++b.rd)|.bin _ _ x y=>x.rd++y.rd|.not x=>x.rd|.conv _ x=>x.rd|.load _ a=>a.rd|.fadr a _=>a.rd
 |.iadr x i _ _=>x.rd++i.rd|.fld x _ _=>x.rd|.idx x i _ _ _=>x.rd++i.rd|.len x=>x.rd|.ext x _=>x.rd|.mkfn _ l=>zdj l|.build _ ps=>zgW ps
 |.slc x lo hi mx _=>x.rd++(zmT lo++(zmT hi++zmT mx))|.slca x lo hi mx _ _=>x.rd++(zmT lo++(zmT hi++zmT mx))|.nilck x=>x.rd|.mnx _ x y=>x.rd++y.rd|.cap x=>x.rd|.look m k=>m.rd++k.rd
def AOp.rd:AOp->List Nat
 |.set _ e=>e.rd|.alloc _ _=>[]|.box _ _ x=>x.rd|.isnil _ _ x=>x.rd|.mks0 _ _=>[]|.mksl _ _ _ _ ps=>zgW ps|.store _ a x=>a.rd++x.rd|.app _ s x _=>s.rd++x.rd|.make _ l c _ _=>l.rd++c.rd
 |.call _ _ l=>zdj l|.calv _ f l=>f.rd++zdj l|.callp _ _ l=>zdj l|.gal _ _ _=>[]|.storeA _ a x _=>a.rd++x.rd|.bad _=>[]|.mkmap _=>[]|.mapset m k v=>m.rd++(k.rd++v.rd)|.appz _ s n _ _=>s.rd++n.rd|.calle _ _ l=>zdj l|.calve _ f l=>f.rd++zdj l|.appe _ s x _=>s.rd++x.rd|.appA _ s x _ _=>s.rd++x.rd|.mksr _ _ _ _ ps=>zgW ps|.callA _ _ l _=>zdj l|.clr s _ _=>s.rd
def grd (g:GOp):List Nat:=match g.1 with|some (s,_)=>s::g.2.rd|none=>g.2.rd
def memN:List Nat->Nat->Bool
 |[],_=>false
 |x::r,i=>Nat.beq x i||memN r i
def zpn:AOp->Bool|.set _ _=>true|.callp _ _ _=>true|_=>false
def zpo:GOp->Bool|(none,.gal _ _ _)=>true|_=>false
def zem:AOp->Bool|.store _ _ _=>true|.storeA _ _ _ _=>true|.mapset _ _ _=>true|.appA _ _ _ _ _=>true|.callA _ _ _ _=>true|.clr _ _ _=>true|_=>false
def zm6:AOp->Bool|.appA _ _ _ _ _=>true|.callA _ _ _ _=>true|_=>false
def isFree:AOp->Bool|.set _ (.mov _)=>true|_=>false
def zjd:AOp->Bool|.calle _ _ _=>true|.calve _ _ _=>true|.appe _ _ _ _=>true|_=>false
def plain:AOp->AOp|.storeA n a x _=>.store n a x|.appA d s x sz _=>.appA d s x sz []|.callA d j l _=>.callA d j l []|o=>o
def zck (g:GOp):GOp:=(g.1,plain g.2)
def zgU:AOp->List Opd|.storeA _ _ _ pts=>pts|.appA _ _ _ _ pts=>pts|.callA _ _ _ pts=>pts|_=>[]
def ldPt:AOp->List Opd->Bool
 |.set _ (.load _ (.t s)),pts=>pts.any fun q=>match q with|.t s'=>Nat.beq s s'|.c _=>false
 |.set _ (.fadr (.t s) _),pts=>pts.any fun q=>match q with|.t s'=>Nat.beq s s'|.c _=>false
 |.set _ (.nilck (.t s)),pts=>pts.any fun q=>match q with|.t s'=>Nat.beq s s'|.c _=>false
 |_,_=>false
def isMk0:AOp->Bool|.mks0 _ _=>true|_=>false
def zrm:GOp->Bool|(none,.app _ _ _ _)=>true|(none,.appA _ _ _ _ _)=>true|_=>false
def zrl:GOp->Bool|(none,.gal _ _ z)=>zaf (zc3 z)|_=>false
def isLdS:AOp->Bool|.set _ (.load _ _)=>true|.set _ (.fadr _ _)=>true|.set _ (.nilck _)=>true|_=>false
def isLd:AVal->Bool|.load _ _=>true|.look _ _=>true|_=>false
def isLdO:AOp->Bool|.set _ e=>isLd e|.callp _ _ _=>true|_=>false
def zgv (a b:Option Nat):Bool:=match a,b with|some a,some b=>!Nat.beq a b|_,_=>true
def zcx (l:List Nat) (d:Option Nat):Bool:=match d with|some d=>memN l d|none=>false
def zgg (o:Oper):List Nat:=(o.after.toList.filter fun e=>Region.binds .any e).map (·.on)
def allIn (bits:Nat):List Nat->Bool
 |[]=>true
 |p::r=>bits.testBit p&&allIn bits r
def gAt (gs:List GOp) (i:Nat):GOp:=gs[i]?.getD (none,.set 0 (.mov (.c .u)))
def zq3 (gs:List GOp) (prs:List (List Nat)) (bits:Nat):Bool->List Nat->Option Nat
 |_,[]=>none
 |v,i::r=>if !bits.testBit i&&allIn bits (prs[i]?.getD [])&&(!v||zpn (gAt gs i).2) then some i else zq3 gs prs bits v r
def zeV (gs:List GOp) (prs:List (List Nat)) (is:List Nat):Nat->Nat->List Nat
 |0,_=>[]
 |k+1,bits=>match zq3 gs prs bits true is with
  |some i=>i::zeV gs prs is k (bits ||| 2 ^ i)
  |none=>match zq3 gs prs bits false is with
   |some i=>i::zeV gs prs is k (bits ||| 2 ^ i)
   |none=>[]
def znZ:List Nat->List Nat->Nat
 |_,[]=>0
 |acc,p::r=>(2 ^ p ||| (acc[p]?.getD 0)) ||| znZ acc r
def ancGo:List Nat->List (List Nat)->List Nat
 |acc,[]=>acc
 |acc,ps::r=>ancGo (acc++[znZ acc ps]) r
def zgl (anc:List Nat) (i a:Nat):Bool:=(anc[i]?.getD 0).testBit a
def zlA (gs:List GOp) (anc:List Nat) (j i:Nat):Bool :=
 !Nat.beq j i&&zgv (gAt gs j).2.dst (gAt gs i).2.dst&&(!isLdS (gAt gs j).2||!zcx (grd (gAt gs j)) (gAt gs i).2.dst) &&
  ((ldPt (gAt gs j).2 (zgU (gAt gs i).2)&&!zjd (gAt gs i).2&&!zcx (grd (gAt gs i)) (gAt gs j).2.dst&&!zcx (grd (gAt gs j)) (gAt gs i).2.dst&&!zcx (grd (gAt gs j)) (gAt gs j).2.dst)||zgl anc i j||(zpo (gAt gs j)&&zpo (gAt gs i))||(zpn (gAt gs j).2&&!zjd (gAt gs i).2&&!(zem (gAt gs i).2&&isLdO (gAt gs j).2)&&(!zm6 (gAt gs i).2||isFree (gAt gs j).2)&&!zcx (grd (gAt gs i)) (gAt gs j).2.dst&&!zcx (grd (gAt gs j)) (gAt gs i).2.dst) ||
   (isMk0 (gAt gs j).2&&!zjd (gAt gs i).2&&!zcx (grd (gAt gs i)) (gAt gs j).2.dst&&!zcx (grd (gAt gs j)) (gAt gs i).2.dst)||(zrm (gAt gs j)&&zrl (gAt gs i)&&!zcx (grd (gAt gs j)) (gAt gs i).2.dst&&!zcx (zdj (zgU (gAt gs j).2)) (gAt gs i).2.dst))
def zkw (gs:List GOp) (anc:List Nat):List Nat->Bool
 |[]=>true
 |j::r=>(r.all fun i=>zlA gs anc j i)&&zkw gs anc r
def zil (prs:List (List Nat)):List Nat->List Nat->Bool
 |_,[]=>true
 |pre,i::r=>((prs[i]?.getD []).all fun p=>memN pre p)&&zil prs (i::pre) r
def zr7 (ord:List Nat) (n:Nat):Bool:=(List.range n).all fun i=>memN ord i
def ancOk (prs:List (List Nat)) (anc:List Nat) (n:Nat):Bool:=(List.range n).all fun i=>(List.range n).all fun a=>!zgl anc i a||(prs[i]?.getD []).any fun p=>Nat.beq p a||zgl anc p a
def zoe (ord:List Nat) (n:Nat):Bool:=ord.all fun i=>Nat.blt i n
def zl5 (gs:List GOp) (prs:List (List Nat)) (anc ord:List Nat) (n:Nat):Bool :=
 zkw gs anc ord&&zil prs [] ord&&zr7 ord n&&ancOk prs anc n&&zoe ord n
section compile
variable (P:Program) (inv:Nat->Option Nat) (n:Nat)
def znn (ty:TypeId) (d:Option Nat) (c:Call):Option AOp :=
 match c.callee with
 |.value (.func g)=>match inv g,zl7 P inv (c.argTypes.toList.zip c.args.toList) with
  |some j,some l=>if c.argTypes.size=c.args.size then some (.call d j l) else none
  |_,_=>none
 |.value f=>match zc5 P inv ty f,zl7 P inv (c.argTypes.toList.zip c.args.toList) with
  |some f,some l=>if c.argTypes.size=c.args.size then some (.calv d f l) else none
  |_,_=>none
 |.builtin .clear=>match d,c.args.toList,c.argTypes.toList with
  |none,[s],[t]=>match P.underlying t,zc5 P inv t s with
   |some (.slice e),some s=>match P.info? e,zdO P e with
    |some i,some z=>if 0<i.size/\(zc3 z).length=i.size then some (.clr s z i.size) else none
    |_,_=>none
   |_,_=>none
  |_,_,_=>none
 |.builtin .append=>match d,c.args.toList,c.argTypes.toList with
  |some d,[s,x],[t,u]=>match P.underlying t,P.underlying u,zc5 P inv t s,zc5 P inv u x with
   |some (.slice e),some (.slice _),some s,some x=>match P.info? e with
    |some i=>match i.zero with
     |some z=>if 0<i.size/\z.cells.size=i.size/\i.bytes<=32768 then some (.app d s x i.size) else none
     |none=>none
    |none=>none
   |some (.slice e),some (.int _),some s,some x=>match P.info? e,zdO P e with
    |some i,some z=>if 0<i.size/\(zc3 z).length=i.size/\i.bytes<=32768 then some (.appz d s x z i.size) else none
    |_,_=>none
   |_,_,_,_=>none
  |_,_,_=>none
 |_=>none
def zbP (o:Oper):Option AOp :=
 match o.op with
 |.alloc t=>(zdO P t).map (.alloc (o.dst.getD 0))
 |.box t x=>match siz P t,zc5 P inv t x with|some k,some x=>some (.box (o.dst.getD 0) k x)|_,_=>none
 |.binOp op t x (.const (.slice none 0 0)) _=>match P.underlying t with
  |some (.slice _)=>match op,zc5 P inv t x with
   |.eql,some x=>some (.isnil (o.dst.getD 0) false x)
   |.neq,some x=>some (.isnil (o.dst.getD 0) true x)
   |_,_=>none
  |_=>none
 |.buildSlice t len parts=>if len=0/\parts.isEmpty=true then (match P.underlying t with
  |some (.slice e)=>(siz P e).map (.mks0 (o.dst.getD 0))
  |_=>none) else match P.underlying t with
  |some (.slice e)=>match siz P e,zdO P e with
   |some k,some z=>match zfy P inv (fun i=>some (i*k,k,e)) parts.toList with
    |some ps=>if 0<k/\0<len/\len*k<=16777216/\(zc3 z).length=k then some (.mksl (o.dst.getD 0) k len z ps) else none
    |none=>none
   |_,_=>none
  |_=>none
 |.store t a x=>match siz P t,zc5 P inv o.type a,zc5 P inv t x with|some k,some a,some x=>some (.store k a x)|_,_,_=>none
 |.makeSlice t l c=>match P.underlying t with
  |some (.slice e)=>match P.info? e,zdO P e,zc5 P inv o.type l,zc5 P inv o.type c with
   |some i,some z,some l,some c=>if 0<i.size/\(zc3 z).length=i.size/\i.bytes<=32768 then some (.make (o.dst.getD 0) l c z i.size) else none
   |_,_,_,_=>none
  |_=>none
 |.call c=>znn P inv o.type o.dst c
 |.makeMap _ none=>some (.mkmap (o.dst.getD 0))
 |.mapUpdate t m k v=>match P.underlying t with
  |some (.map kt vt)=>match P.underlying kt,zc5 P inv t m,zc5 P inv kt k,zc5 P inv vt v with
   |some (.int .i64),some m,some k,some v=>some (.mapset m k v)
   |_,_,_,_=>none
  |_=>none
 |_=>none
def zjg:Option Nat->Bool
 |some d=>decide (d<n)
 |none=>true
def zbt (o:Oper):Option AOp :=
 match zg2 P inv o with
 |some e=>match o.dst with
  |some d=>if d<n then some (.set d e) else none
  |none=>none
 |none=>match zbP P inv o with
  |some op=>if op.dst=o.dst/\zjg n o.dst=true then some op else none
  |none=>if zjg n o.dst=true then some (.bad o.dst) else none
def zeU (ops:Array Oper):Option (Nat×Bool)->Option (Option (Nat×Bool))
 |none=>some none
 |some (j,want)=>match (ops[j]?).bind (·.dst) with
  |some s=>if s<n then some (some (s,want)) else none
  |none=>none
def zbD (ops:Array Oper):List Oper->Option (List GOp)
 |[]=>some []
 |o::r=>match zeU n ops o.guard,zbt P inv n o,zbD ops r with
  |some g,some x,some l=>some ((g,x)::l)
  |_,_,_=>none
def zix:List GOp->Nat
 |[]=>0
 |(none,.alloc _ _)::r=>zix r+1
 |_::r=>zix r
def ptsAt (gs:List GOp) (anc:List Nat) (i:Nat):List Nat->List Opd
 |[]=>[]
 |j::r=>if Nat.beq j i=true then [] else match (gAt gs j).2 with
  |.set _ (.load _ p)=>if zgl anc i j=true then ptsAt gs anc i r else p::ptsAt gs anc i r
  |_=>ptsAt gs anc i r
def zkp (gs:List GOp) (anc:List Nat) (i:Nat):List Nat->List Opd
 |[]=>[]
 |j::r=>if Nat.beq j i=true then [] else match (gAt gs j).2 with
  |.set _ (.load _ p)=>if zgl anc i j=true then zkp gs anc i r else p::zkp gs anc i r
  |.set _ (.fadr p _)=>if zgl anc i j=true then zkp gs anc i r else p::zkp gs anc i r
  |.set _ (.nilck p)=>if zgl anc i j=true then zkp gs anc i r else p::zkp gs anc i r
  |_=>zkp gs anc i r
def addPt (gs:List GOp) (anc ord:List Nat) (i:Nat):GOp:=match gAt gs i with
 |(g,.store n a x)=>(g,.storeA n a x (ptsAt gs anc i ord))
 |g=>g
def zi7 (gs:List GOp) (anc ord:List Nat):List GOp:=(List.range gs.length).map (addPt gs anc ord)
def anchored (anc:List Nat) (i:Nat) (ord:List Nat):Bool:=ord.all fun k=>Nat.beq k i||zgl anc i k||zgl anc k i
def isIns (j:Nat):Bool:=Nat.beq j 258||Nat.beq j 262
def opdIs (d:Nat):Opd->Bool|.t s=>Nat.beq s d|.c _=>false
def rowed1 (gs:List GOp) (d:Nat):Bool:=gs.any fun g=>match g.2 with|.call _ j l=>isIns j&&l.any (opdIs d)|.app _ s _ _=>opdIs d s|_=>false
def rowed (gs:List GOp) (d:Nat):Bool:=rowed1 gs d||gs.any fun g=>match g.2 with
 |.set b (.build _ ps)=>ps.any (fun p=>opdIs d p.2.2)&&gs.any (fun h=>match h.2 with|.mksl e _ _ _ qs=>qs.any (fun q=>opdIs b q.2.2)&&rowed1 gs e|_=>false)
 |_=>false
def effOp (gs:List GOp) (anc ord:List Nat) (i:Nat) (g:GOp):GOp:=match anchored anc i ord,g with
 |true,(gd,.call d j l)=>(gd,.calle d j l)
 |true,(gd,.calv d f l)=>(gd,.calve d f l)
 |true,(gd,.app d s x sz)=>(gd,.appe d s x sz)
 |false,(gd,.app d (.t s) x sz)=>(gd,.appA d (.t s) x sz (zkp gs anc i ord))
 |false,(gd,.call d j l)=>if isIns j=true then (gd,.callA d j l (zkp gs anc i ord)) else (gd,.call d j l)
 |_,(gd,.mksl d sz len z ps)=>if rowed gs d=true then (gd,.mksr d sz len z ps) else (gd,.mksl d sz len z ps)
 |_,g=>g
def znh (gs:List GOp) (anc ord:List Nat):List GOp:=(List.range gs.length).map fun i=>effOp gs anc ord i (gAt gs i)
def zkm (k:Nat):Nat->List GOp->List GOp
 |_,[]=>[]
 |c,(none,.alloc d z)::r=>(none,.gal d (k-c) z)::zkm k (c+1) r
 |c,(g,.call (some d) j l)::r=>(g,.callp d j l)::zkm k c r
 |c,g::r=>g::zkm k c r
def drawn (prs:List (List Nat)) (gs:List GOp) (k:Nat):Option ACode :=
 let anc:=ancGo [] prs
 let ord:=zeV gs prs (List.range gs.length) gs.length 0
 if zl5 (znh gs anc ord) prs anc ord gs.length then some (.regd k (ord.map (gAt (znh gs anc ord))))
 else if zl5 (zi7 (znh gs anc ord) anc ord) prs anc ord gs.length then some (.regd k (ord.map (gAt (zi7 (znh gs anc ord) anc ord))))
 else none
def zgw (ops:Array Oper):Option ACode :=
 match zbD P inv n ops ops.toList with
 |some gs=>match drawn (ops.toList.map zgg) gs 0 with
  |some c=>some c
  |none=>drawn (ops.toList.map zgg) (zkm (zix gs) 0 gs) (zix gs)
 |none=>none
def zaD:Code->Option ACode
 |.skip=>some .skip
 |.region _ ops false=>(zbD P inv n ops ops.toList).map .reg
 |.region _ ops true=>zgw P inv n ops
 |.seq x y=>match zaD x,zaD y with|some x,some y=>some (.seq x y)|_,_=>none
 |.cond c x y=>match zc5 P inv 0 c,zaD x,zaD y with|some c,some x,some y=>some (.cond c x y)|_,_,_=>none
 |.block id c=>(zaD c).map (.block id)
 |.loop c=>(zaD c).map .loop
 |.exit id=>some (.exit id)
 |.ret=>some .ret
 |.scope c=>(zaD c).map .scope
 |.label l=>some (.label l)
 |.goto l=>some (.goto l)
 |_=>none
def cres:List ResultVar->Option (List ARes)
 |[]=>some []
 |.tmp t::r=>(cres r).map (.tmp t::·)
 |.cell t ty::r=>match lay P ty,cres r with|some l,some r=>some (.cell t l::r)|_,_=>none
def zl9 (fn:Func):Option AFn :=
 match fn.body,cres P fn.results.toList with
 |some c,some r=>(zaD P inv fn.ntmps c).map fun c=>⟨fn.ntmps,r,c⟩
 |_,_=>none
end compile
def zcs (P:Program) (inv:Nat->Option Nat):Prop:=P.follows .mixedOrders=true/\∀ g j,inv g=some j->∃ fn,P.funcs[g]?=some fn/\fn.body.isNone=false/\(fn.name == "runtime.NumGoroutine")=false
def Has (P:Program) (inv:Nat->Option Nat) (j:Nat) (F:AFn):Prop:=∀ g,inv g=some j->∃ fn,P.funcs[g]?=some fn/\zl9 P inv fn=some F
section
variable (P:Program) (inv:Nat->Option Nat) (w0:World) (M:Nat->Prop)
def AC (N:Nat) (j:Nat) (args:List AV) (σ:AS) (R:AV->AS->Prop):Prop :=
 ∀ g,inv g=some j->∀ (β:Nat->Nat) (w:World) (vs:Array Value),Mem inv w0 M σ β w->zcp (ctx inv M σ β w) args vs.toList ->
  Calls P g vs w fun e w'=>∃ v r σ' β',e=.returned v/\R r σ'/\Mem inv w0 M σ' β' w'/\Ext N (ctx inv M σ β w) (ctx inv M σ' β' w')/\rel (ctx inv M σ' β' w') r v
def CallK (N:Nat) (φ:AF) (σ:AS) (j:Nat) (args:List AV) (R:AV->AS->Prop) (_:Tok R:=.mk):Prop:=∃ N',N<=N'/\zaM φ<=N'/\AC P inv w0 M N' j args σ R
def zcu (φ:AF) (d:Option Nat) (x:AV):AF:=match d with|some d=>zbq φ d x|none=>φ
def zmo (σ:AS) (sz:Nat):AV->(Nat->List AV->Prop)->Prop
 |.s0 _,K=>K 0 []
 |.sl sz' es,K=>ob (sz'=sz) (K es.length es.flatten)
 |.sm l ver off n sz',K=>ob (sz'=sz) (match zah σ l with
  |some (.cells cs _)=>ob (cs.length=ver) (K n (seg cs off (n*sz)))
  |_=>False)
 |_,_=>False
def zml (φ:AF) (σ:AS) (l:Nat) (d sz:Nat) (dest:AV) (m:Nat) (new:List AV) (K:AF->AS->Prop):Prop :=
 match dest with
 |.s0 _=>ob (m<=2147483648) <| K (zbq φ d (.sm l (m*sz) 0 m sz)) (sput σ l (.cells new (decide (0<m))))
 |.sm l ver off n sz'=>ob (sz'=sz) <| ob (off=0) <| ob (n*sz=ver) <| ob (n+m<=2147483648) (match zah σ l with
  |some (.cells cs r)=>ob (cs.length=ver) <| K (zbq φ d (.sm l ((n+m)*sz) 0 (n+m) sz)) (sput σ l (.cells (cs++new) (r||decide (0<m))))
  |_=>False)
 |_=>False
def SLe (σ σ':List (Nat×AO)):Prop:=∀ l o,zah σ l=some o->o≠.rsv->zah σ' l=some o
def PureK (σ:AS) (j:Nat) (args:List AV) (K:AV->Prop) (_:Tok K:=.mk):Prop:=∃ r,(∀ N' φ' σ',SLe σ σ'->CallK P inv w0 M N' φ' σ' j args fun r' σ''=>r'=r/\σ''=σ')/\K r
def zcG (b:Nat):Nat->List (Nat×AO)->List (Nat×AO)
 |0,σ=>σ
 |k+1,σ=>sput (zcG b k σ) (b+k) .rsv
def zq2 (n:Nat) (neg:Bool) (K:Bool->Prop) (_:Tok K:=.mk):Prop:=(n=0->K (!neg))/\K neg
def ziZ (l:Nat):AV->Bool|.ptr l' _ _=>!Nat.beq l' l|_=>true
def zpB (φ:AF) (dest:AV) (pts:List Opd):Bool:=match dest with|.sm l _ _ _ _=>pts.all fun p=>ziZ l (ev φ p)|_=>true
def znp (φ:AF) (l:Nat) (pts:List Opd):Bool:=pts.all fun p=>ziZ l (ev φ p)
def zrd (σ σ':AS):AV->Prop|.ptr l _ _=>zah σ' l=zah σ l|_=>True
def farP (φ:AF) (σ σ':AS):List Opd->Prop
 |[]=>True
 |p::r=>zrd σ σ' (ev φ p)/\farP φ σ σ' r
def aop (N:Nat) (o:AOp) (φ:AF) (σ:AS) (K:AF->AS->Prop):Prop :=
 match o with
 |.set d e=>zdN φ σ e fun x=>K (zbq φ d x) σ
 |.alloc d zero=>K (zbq φ d (.ptr (zaw N φ σ) (zc3 zero).length 0)) (sput σ (zaw N φ σ) (.cells (zc3 zero) true))
 |.box d n x=>ob ((ev φ x).sound=true) <| ob ((ev φ x).cells.length=n) <| K (zbq φ d (.ptr (zaw N φ σ) n 0)) (sput σ (zaw N φ σ) (.cells (ev φ x).cells true))
 |.isnil d neg x=>match ev φ x with
  |.sl _ es=>zq2 es.length neg fun t=>K (zbq φ d (.b t)) σ
  |.s0 _=>zq2 0 neg fun t=>K (zbq φ d (.b t)) σ
  |.sm l ver _ n _=>ob (zcd σ l ver) <| zq2 n neg fun t=>K (zbq φ d (.b t)) σ
  |_=>False
 |.mks0 d sz=>K (zbq φ d (.s0 sz)) σ
 |.mksl d sz len zero parts=>zcR (zdn φ (List.replicate len (zc3 zero)).flatten parts) fun cs =>
  match zaf cs with
  |true=>K (zbq φ d (.sl sz (zbd sz len cs))) σ
  |false=>K (zbq φ d (.sm (zaw N φ σ) (len*sz) 0 len sz)) (sput σ (zaw N φ σ) (.cells cs true))
 |.store n a x=>match ev φ a with
  |.ptr l ver off=>match zah σ l with
   |some (.cells cs r)=>ob (cs.length=ver) <| ob ((ev φ x).sound=true) <| ob ((ev φ x).cells.length=n) <| ob (0<n/\off+n<=ver) <| K φ (sput σ l (.cells (ovl cs off (ev φ x).cells) r))
   |_=>False
  |_=>False
 |.app d s x sz=>zmo σ sz (ev φ x) fun m new=>zml φ σ (zaw N φ σ) d sz (ev φ s) m new K
 |.make d len cap zero sz=>match ev φ len,ev φ cap with
  |.i _ a,.i _ c=>ob (0<=a/\a<=c/\c<=2147483648) <| K (zbq φ d (.sm (zaw N φ σ) (a.toNat*sz) 0 a.toNat sz)) (sput σ (zaw N φ σ) (.cells (List.replicate a.toNat (zc3 zero)).flatten true))
  |_,_=>False
 |.call d j args=>CallK P inv w0 M N φ σ j (args.map (ev φ)) fun r σ'=>K (zcu φ d r) σ'
 |.calv d f args=>match ev φ f with
  |.fn j caps=>CallK P inv w0 M N φ σ j (args.map (ev φ)++caps) fun r σ'=>K (zcu φ d r) σ'
  |_=>False
 |.callp d j args=>PureK P inv w0 M σ j (args.map (ev φ)) fun r=>K (zbq φ d r) σ
 |.gal d back zero=>match zah σ (N-back) with
  |some .rsv=>ob (0<(zc3 zero).length) <| K (zbq φ d (.ptr (N-back) (zc3 zero).length 0)) (sput σ (N-back) (.cells (zc3 zero) true))
  |_=>False
 |.storeA n a x pts=>match ev φ a with
  |.ptr l ver off=>ob (znp φ l pts=true) (match zah σ l with
   |some (.cells cs r)=>ob (cs.length=ver) <| ob ((ev φ x).sound=true) <| ob ((ev φ x).cells.length=n) <| ob (0<n/\off+n<=ver) <| K φ (sput σ l (.cells (ovl cs off (ev φ x).cells) r))
   |_=>False)
  |_=>False
 |.bad _=>False
 |.calle d j args=>CallK P inv w0 M N φ σ j (args.map (ev φ)) fun r σ'=>K (zcu φ d r) σ'
 |.calve d f args=>match ev φ f with
  |.fn j caps=>CallK P inv w0 M N φ σ j (args.map (ev φ)++caps) fun r σ'=>K (zcu φ d r) σ'
  |_=>False
 |.appe d s x sz=>zmo σ sz (ev φ x) fun m new=>zml φ σ (zaw N φ σ) d sz (ev φ s) m new K
 |.appA d s x sz pts=>zmo σ sz (ev φ x) fun m new=>ob (zpB φ (ev φ s) pts=true) (zml φ σ (zaw N φ σ) d sz (ev φ s) m new K)
 |.mksr d sz len zero parts=>zcR (zdn φ (List.replicate len (zc3 zero)).flatten parts) fun cs =>
  K (zbq φ d (.sm (zaw N φ σ) (len*sz) 0 len sz)) (sput σ (zaw N φ σ) (.cells cs true))
 |.callA d j args pts=>CallK P inv w0 M N φ σ j (args.map (ev φ)) fun r σ'=>ob (farP φ σ σ' pts) (K (zcu φ d r) σ')
 |.clr s zero sz=>match ev φ s with
  |.s0 _=>K φ σ
  |.sm l ver off n sz'=>ob (sz'=sz) <| ob (off+n*sz<=ver) (match zah σ l with
   |some (.cells cs r)=>ob (cs.length=ver) (K φ (sput σ l (.cells (ovl cs off (List.replicate n (zc3 zero)).flatten) r)))
   |_=>False)
  |_=>False
 |.mkmap d=>K (zbq φ d (.mp (zaw N φ σ))) (sput σ (zaw N φ σ) (.imap []))
 |.mapset m k v=>match ev φ m,ev φ k,ev φ v with
  |.mp l,.i .i64 a,.i .i64 b=>(match zah σ l with
   |some (.imap kvs)=>K φ (sput σ l (.imap (zmW kvs a b)))
   |_=>False)
  |_,_,_=>False
 |.appz d s n zero sz=>match ev φ s,ev φ n with
  |.s0 _,.i .i64 a=>ob (0<=a/\a<=2147483648) <| K (zbq φ d (.sm (zaw N φ σ) (a.toNat*sz) 0 a.toNat sz)) (sput σ (zaw N φ σ) (.cells (List.replicate a.toNat (zc3 zero)).flatten (decide (0<a.toNat))))
  |_,_=>False
def zbU (N:Nat):List GOp->(AF->AS->Prop)->AF->AS->Prop
 |[],K,φ,σ=>K φ σ
 |(none,o)::r,K,φ,σ=>aop P inv w0 M N o φ σ (zbU N r K)
 |(some (s,true),o)::r,K,φ,σ=>match zbl φ s with
  |.b t=>zfK t (aop P inv w0 M N o (zjC φ s (.b true)) σ (zbU N r K)) (zbU N r K (zcu (zjC φ s (.b false)) o.dst .u) σ)
  |.u=>zbU N r K (zcu φ o.dst .u) σ
  |_=>False
 |(some (s,false),o)::r,K,φ,σ=>match zbl φ s with
  |.b t=>zfK t (zbU N r K (zcu (zjC φ s (.b true)) o.dst .u) σ) (aop P inv w0 M N o (zjC φ s (.b false)) σ (zbU N r K))
  |.u=>zbU N r K (zcu φ o.dst .u) σ
  |_=>False
def za4 (N:Nat) (o:AOp) (φ:AF) (σ:AS) (K:AF->AS->Prop):Prop :=
 match o with
 |.call d j args=>CallK P inv w0 M N φ σ j (args.map (ev φ)) fun r σ'=>ob (SLe σ σ') (K (zcu φ d r) σ')
 |.calv d f args=>match ev φ f with
  |.fn j caps=>CallK P inv w0 M N φ σ j (args.map (ev φ)++caps) fun r σ'=>ob (SLe σ σ') (K (zcu φ d r) σ')
  |_=>False
 |.app d s x sz=>aop P inv w0 M N (.app d s x sz) φ σ fun φ' σ'=>ob (SLe σ σ') (K φ' σ')
 |o=>aop P inv w0 M N o φ σ K
def zbB (N:Nat):List GOp->(AF->AS->Prop)->AF->AS->Prop
 |[],K,φ,σ=>K φ σ
 |(none,o)::r,K,φ,σ=>za4 P inv w0 M N o φ σ (zbB N r K)
 |(some (s,true),o)::r,K,φ,σ=>match zbl φ s with
  |.b t=>zfK t (za4 P inv w0 M N o (zjC φ s (.b true)) σ (zbB N r K)) (zbB N r K (zcu (zjC φ s (.b false)) o.dst .u) σ)
  |.u=>zbB N r K (zcu φ o.dst .u) σ
  |_=>False
 |(some (s,false),o)::r,K,φ,σ=>match zbl φ s with
  |.b t=>zfK t (zbB N r K (zcu (zjC φ s (.b true)) o.dst .u) σ) (za4 P inv w0 M N o (zjC φ s (.b false)) σ (zbB N r K))
  |.u=>zbB N r K (zcu φ o.dst .u) σ
  |_=>False
structure St (n:Nat) (φ:AF) (σ:AS) (β:Nat->Nat) (a:Act) (w:World):Prop extends Knows inv w0 M φ σ β a w where
 size:a.tmps.size=n
 defers:a.defers=[]
def AWp (N n:Nat) (c:ACode) (Q:Exit->AF->AS->Prop) (φ:AF) (σ:AS):Prop :=
 ∀ c₀,zaD P inv n c₀=some c->∀ β a w,St inv w0 M n φ σ β a w ->
  c₀.wp P (fun e a' w'=>∃ φ' σ' β',Q e φ' σ'/\St inv w0 M n φ' σ' β' a' w'/\Ext N (ctx inv M σ β w) (ctx inv M σ' β' w')) a w
end
def ares (φ:AF) (σ:AS):ARes->Option AV
 |.tmp t=>some (zbl φ t)
 |.cell t l=>zds σ l (zbl φ t)
def zi1 (φ:AF) (σ:AS):List ARes->Option (List AV)
 |[]=>some []
 |r::rs=>match ares φ σ r,zi1 φ σ rs with|some x,some l=>some (x::l)|_,_=>none
def zeR (φ:AF) (σ:AS) (rs:List ARes):Option AV :=
 match zi1 φ σ rs with
 |some [x]=>some x
 |some l=>some (.tup l)
 |none=>none
def zoH:Nat->List AV->List (Nat×AV)
 |_,[]=>[]
 |k,x::xs=>(k,x)::zoH (k+1) xs
section
variable {P:Program} {inv:Nat->Option Nat} {w0:World} {M:Nat->Prop} {n N:Nat} {φ:AF} {σ:AS} {β:Nat->Nat} {a:Act} {w:World}
theorem getD_put (a:Act) (d i:Nat) (y:Value) (hd:d<a.tmps.size):(a.put (some d) y).tmps.getD i undef=if i=d then y else a.tmps.getD i undef:=by
 simp only[Act.put,Array.getD_eq_getD_getElem?,Array.getElem?_setIfInBounds];by_cases h:i=d
 ·subst h;simp[hd]
 ·rw[if_neg (fun e=>h e.symm),if_neg h]
theorem St.put {σ':AS} {β':Nat->Nat} {w':World} {N1:Nat} (hs:St inv w0 M n φ σ β a w) (hm:Mem inv w0 M σ' β' w') (he:Ext N1 (ctx inv M σ β w) (ctx inv M σ' β' w')) (hN:zaM φ<=N1) {d:Nat} (hd:d<n) {x:AV} {y:Value}
  (hr:rel (ctx inv M σ' β' w') x y):St inv w0 M n (zbq φ d x) σ' β' (a.put (some d) y) w':=by
 refine ⟨⟨fun i=>?_,hm⟩,by simp[Act.put,hs.size],hs.defers⟩
 rw[zba,getD_put a d i y (by rw[hs.size];exact hd)]
 split
 ·exact hr
 ·exact he.rel (zaK _ (Nat.le_trans (zbO φ i) hN)) (hs.slots i)
theorem St.keep {σ':AS} {β':Nat->Nat} {w':World} {N1:Nat} (hs:St inv w0 M n φ σ β a w) (hm:Mem inv w0 M σ' β' w') (he:Ext N1 (ctx inv M σ β w) (ctx inv M σ' β' w')) (hN:zaM φ<=N1) :
  St inv w0 M n φ σ' β' a w' :=
 ⟨⟨fun i=>he.rel (zaK _ (Nat.le_trans (zbO φ i) hN)) (hs.slots i),hm⟩,hs.size,hs.defers⟩
theorem St.set (hs:St inv w0 M n φ σ β a w) {d:Nat} (hd:d<n) {x:AV} {y:Value} (hr:rel (ctx inv M σ β w) x y):St inv w0 M n (zbq φ d x) σ β (a.put (some d) y) w :=
 hs.put hs.mem (.refl (zaM φ) _) (Nat.le_refl _) hd hr
theorem zbw (N:Nat) (φ:AF) (σ:AS):N<=zaw N φ σ/\zaM φ<=zaw N φ σ/\zax σ<=zaw N φ σ:=by
 have h1:=zaQ N (mx (zaM φ) (zax σ));have h2:=zaq N (mx (zaM φ) (zax σ));have h3:=zaQ (zaM φ) (zax σ);have h4:=zaq (zaM φ) (zax σ);unfold zaw;omega
theorem zkR (d:Opd) (h:∀ x,d=.c x->x.bound=0):(ev φ d).bound<=zaM φ:=by
 cases d with
 |t i=>exact zbO φ i
 |c x=>simp only[ev,h x rfl];omega
theorem zg1 {t:TypeId} {x:Operand} {d:Opd} (h:zc5 P inv t x=some d):∀ y,d=.c y->y.bound=0:=by
 intro y hy;subst hy;unfold zc5 at h;split at h
 ·cases h
 ·rename_i v
  obtain ⟨z,h1,h2⟩:=Option.map_eq_some_iff.1 h;cases h2
  unfold cav at h1
  repeat' split at h1
  all_goals first|(cases h1;done)|(simp only[Option.some.injEq]at h1;subst h1;simp[AV.bound])
 ·obtain ⟨z,h1,h2⟩:=Option.map_eq_some_iff.1 h
  cases h2
  simp[AV.bound,zab]
 ·cases h
theorem zfQ (x:AV):zab x.cells<=x.bound:=by
 cases x<;>simp[AV.cells,zab,AV.bound,mx]
 all_goals (split<;>omega)
theorem Mem.fresh_put {l:Nat} {cs:List AV} {xs:Array Value} {ty:TypeId} {w':World} (h:Mem inv w0 M σ β w) (hl:zax σ<=l) (hcb:zab cs<=l) (hheap:w'.heap=w.heap.push (.cells xs ty)) (hos:w'.os=w.os) (htape:w'.tape=w.tape) (hout:w'.output=w.output)
  (hlen:cs.length<=xs.size) (hrel:relCs (ctx inv M σ β w) cs (xs.toList.take cs.length)) :
  Mem inv w0 M (sput σ l (.cells cs true)) (upd β l w.heap.size) w'/\Ext l (ctx inv M σ β w) (ctx inv M (sput σ l (.cells cs true)) (upd β l w.heap.size) w') /\
   zai (upd β l w.heap.size) w' (sput σ l (.cells cs true)) l=some ⟨w.heap.size,cs.length,xs.size,true⟩:=by
 have hold:∀ b,b<w.heap.size->w'.heap[b]?=w.heap[b]?:=fun b hb=>by rw[hheap,Array.getElem?_push,if_neg (by omega)]
 have hnew:w'.heap[w.heap.size]?=some (.cells xs ty (0,0)):=by rw[hheap];simp
 have hsz:w.heap.size<=w'.heap.size:=by rw[hheap];simp
 have hbel:Below w0.heap.size w0 w':=h.below.trans ⟨hos,htape,hout,hsz,fun b hb=>hold b (Nat.lt_of_lt_of_le hb h.below.size)⟩
 have hno:∀ o,zah σ l≠some o:=fun o e=>by have:=(zau σ l o e).1;omega
 have:=Mem.put (l:=l) (b':=w.heap.size) (N:=l) h hbel hsz (fun b hb _=>hold b hb) hnew hlen h.below.size (fun l' o' _ e hr=>Nat.ne_of_lt (h.own l' o' e hr).2) (.inl (Nat.le_refl _))
  (fun l' o' e _=>Nat.le_trans (zau σ l' o' e).2 hl) hcb (fun hlt=>absurd hlt (Nat.lt_irrefl _)) hrel
 refine ⟨this.1,this.2, ?_⟩;unfold zai;rw[zag,if_pos rfl];simp[zbe,zaN,hnew]
theorem zh3:∀ {r:List (Nat×AV)} {zs:List Value},zmL (zc3 r) zs=true->zab (zc3 r)=0:=by
 intro r zs h;generalize zc3 r=xs at h
 induction xs generalizing zs with
 |nil=>rfl
 |cons x xs ih =>
  cases zs with
  |nil=>simp[zmL]at h
  |cons z zs =>
   simp only[zmL,Bool.and_eq_true]at h;have h2:=ih h.2;have h1:x.bound=0:=by
    have:=h.1;unfold zmC at this;split at this<;>first|(simp[AV.bound];done)|cases this
   simp[zab,h1,h2,mx]
theorem zb8 {t:TypeId} {r:List (Nat×AV)} (h:zdO P t=some r):zab (zc3 r)=0:=by
 unfold zdO at h;split at h
 ·split at h
  ·split at h
   ·rename_i e4
    cases h
    exact zh3 e4
   ·cases h
  ·cases h
 ·cases h
theorem zgc {l ver off m sz cap:Nat} {p:Place} (hp:zai β w σ l=some p) (hv:p.len=ver) (h1:off+m*sz<=ver) (hcap:m<=cap) (hreal:p.real=true) (hsz:off+cap*sz<=p.size) :
  rel (ctx inv M σ β w) (.sm l ver off m sz) (.slice (some ⟨p.block,off,none⟩) m cap):=by
 simp only[rel];refine ⟨rfl,fun p' hp'=>?_⟩
 have:p'=p:=by have:=(show zai β w σ l=some p' from hp').symm.trans hp;simpa using this
 subst this;exact ⟨by omega,fun _=>⟨h1,_,cap,rfl,hcap,by rw[hreal];exact ⟨.inr rfl,hsz⟩⟩⟩
theorem zgy:∀ (xs ys:List AV),zab (xs++ys)<=mx (zab xs) (zab ys)
 |[],ys=>by simp only[List.nil_append];exact zaq _ _
 |x::xs,ys=>by
  have:=zgy xs ys;simp only[List.cons_append,zab];unfold mx at this |-
  repeat' split
  all_goals (repeat' split at this)<;>omega
theorem zb1 {N:Nat} {xs ys:List AV} (h1:zab xs<=N) (h2:zab ys<=N):zab (xs++ys)<=N:=by
 have:=zgy xs ys;unfold mx at this;split at this<;>omega
theorem zcW {N:Nat}:∀ {xs:List AV},zab xs<=N->∀ x∈xs,x.bound<=N
 |[],_,x,h=>by cases h
 |y::ys,h,x,hx=>by
  simp only[zab]at h;have h1:=zaQ y.bound (zab ys);have h2:=zaq y.bound (zab ys);rcases List.mem_cons.1 hx with rfl|hx
  ·omega
  ·exact zcW (by omega) x hx
theorem zdr {N:Nat}:∀ {xs:List AV},(∀ x∈xs,x.bound<=N)->zab xs<=N
 |[],_=>by simp[zab]
 |y::ys,h=>by
  have h1:=h y (by simp)
  have h2:=zdr (fun x hx=>h x (by simp[hx]):∀ x∈ys,x.bound<=N)
  simp only[zab,mx];split<;>omega
theorem zfm {N:Nat}:∀ (xs cs:List AV) (off:Nat),zab cs<=N->zab xs<=N->zab (ovl cs off xs)<=N
 |[],_,_,h,_=>h
 |x::xs,cs,off,h,hx=>by
  simp only[zab]at hx;have h1:=zaQ x.bound (zab xs);have h2:=zaq x.bound (zab xs);refine zfm xs _ _ (zdr fun y hy=>?_) (by omega)
  rcases List.mem_or_eq_of_mem_set hy with hy|rfl
  ·exact zcW h y hy
  ·omega
theorem zfP:∀ {ps:List (Nat×Nat×Opd)} {cs cs':List AV},zdn φ cs ps=some cs'->(∀ p∈ps,∀ y,p.2.2=.c y->y.bound=0)->∀ N,zaM φ<=N->zab cs<=N->zab cs'<=N
 |[],_,_,h,_,_,_,hb=>by simp only[zdn,Option.some.injEq]at h;subst h;exact hb
 |(off,n,x)::ps,cs,_,h,hp,N,hN,hb=>by
  simp only[zdn]at h;split at h
  ·refine zfP h (fun p hp'=>hp p (by simp[hp'])) N hN (zfm _ _ _ hb ?_)
   exact Nat.le_trans (zfQ _) (Nat.le_trans (zkR x (hp (off,n,x) (by simp))) hN)
  ·cases h
theorem zeS {zai:Nat->Option (Nat×Nat×TypeId)}:∀ {l:List (Nat×Operand)} {ps:List (Nat×Nat×Opd)},zfy P inv zai l=some ps->∀ p∈ps,∀ y,p.2.2=.c y->y.bound=0
 |[],_,h,p,hp=>by simp only[zfy,Option.some.injEq]at h;subst h;cases hp
 |(i,x)::l,_,h,p,hp=>by
  simp only[zfy]at h;split at h
  ·split at h
   ·rename_i off n t _ _ _ d ps e1 e2
    simp only[Option.some.injEq]at h;subst h;rcases List.mem_cons.1 hp with rfl|hp
    ·exact zg1 e1
    ·exact zeS e2 p hp
   ·cases h
  ·cases h
theorem zfv {t:TypeId} {i:TypeInfo} {z:Value} (hi:P.info? t=some i) (hz:i.zero=some z) (w:World):(Instr.alloc t true (.tuple #[])).run P w=.ok (.pointer (some ⟨w.heap.size,0,none⟩)) (w.alloc (.cells z.cells t)):=by
 simp[Instr.alloc,zeroValue,typeInfo,hi,hz,newVar,newRow]
theorem St.new_ptr (hs:St inv w0 M n φ σ β a w) {d:Nat} (hd:d<n) {cs:List AV} {xs:Array Value} {ty:TypeId} (hcb:zab cs<=zaw N φ σ) (hlen:cs.length=xs.size) (hrel:relCs (ctx inv M σ β w) cs xs.toList) :
  St inv w0 M n (zbq φ d (.ptr (zaw N φ σ) cs.length 0)) (sput σ (zaw N φ σ) (.cells cs true)) (upd β (zaw N φ σ) w.heap.size) (a.put (some d) (.pointer (some ⟨w.heap.size,0,none⟩))) (w.alloc (.cells xs ty)) /\
  Ext N (ctx inv M σ β w) (ctx inv M (sput σ (zaw N φ σ) (.cells cs true)) (upd β (zaw N φ σ) w.heap.size) (w.alloc (.cells xs ty))):=by
 obtain ⟨f1,f2,f3⟩:=zbw N φ σ;have h:=hs.mem.fresh_put (l:=zaw N φ σ) (cs:=cs) (xs:=xs) (ty:=ty) (w':=w.alloc (.cells xs ty)) f3 hcb rfl rfl rfl rfl (by omega) (by rw[hlen,<-Array.length_toList,List.take_length];exact hrel)
 refine ⟨hs.put h.1 h.2.1 f2 hd ?_,h.2.1.mono f1⟩;exact zdW h.2.2 rfl
theorem St.new_sm (hs:St inv w0 M n φ σ β a w) {d:Nat} (hd:d<n) {cs:List AV} {xs:Array Value} {ty:TypeId} {sz m cap:Nat} {w':World} (hheap:w'.heap=w.heap.push (.cells xs ty)) (hos:w'.os=w.os) (htape:w'.tape=w.tape) (hout:w'.output=w.output)
  (hcb:zab cs<=zaw N φ σ) (hl:cs.length=m*sz) (hcap:m<=cap) (hsz:cap*sz<=xs.size) (hrel:relCs (ctx inv M σ β w) cs (xs.toList.take cs.length)) :
  St inv w0 M n (zbq φ d (.sm (zaw N φ σ) (m*sz) 0 m sz)) (sput σ (zaw N φ σ) (.cells cs true)) (upd β (zaw N φ σ) w.heap.size) (a.put (some d) (.slice (some ⟨w.heap.size,0,none⟩) m cap)) w' /\
  Ext N (ctx inv M σ β w) (ctx inv M (sput σ (zaw N φ σ) (.cells cs true)) (upd β (zaw N φ σ) w.heap.size) w'):=by
 obtain ⟨f1,f2,f3⟩:=zbw N φ σ;have hle:m*sz<=cap*sz:=Nat.mul_le_mul_right _ hcap;have h:=hs.mem.fresh_put (l:=zaw N φ σ) (cs:=cs) (xs:=xs) (ty:=ty) (w':=w') f3 hcb hheap hos htape hout (by omega) hrel
 refine ⟨hs.put h.1 h.2.1 f2 hd ?_,h.2.1.mono f1⟩;exact zgc h.2.2 (by simp[hl]) (by simp) hcap rfl (by simpa using hsz)
theorem St.new_map (hs:St inv w0 M n φ σ β a w) {d:Nat} (hd:d<n) :
  St inv w0 M n (zbq φ d (.mp (zaw N φ σ))) (sput σ (zaw N φ σ) (.imap [])) (upd β (zaw N φ σ) w.heap.size) (a.put (some d) (.map (some w.heap.size))) (w.alloc (.map #[] 0)) /\
  Ext N (ctx inv M σ β w) (ctx inv M (sput σ (zaw N φ σ) (.imap [])) (upd β (zaw N φ σ) w.heap.size) (w.alloc (.map #[] 0))):=by
 obtain ⟨f1,f2,f3⟩:=zbw N φ σ;have h:=hs.mem.put_imap (l:=zaw N φ σ) (b':=w.heap.size) (kvs:=[]) (es:=#[]) (clk:=0) (w':=w.alloc (.map #[] 0)) (N:=zaw N φ σ) (hs.mem.below.alloc hs.mem.below.size _) (by simp)
  (fun b hb _=>Below.heap_alloc _ _ _ hb) (heap_alloc_new w _) hs.mem.below.size (fun l' o' _ e hr=>by have:=(hs.mem.own l' o' e hr).2;omega) (.inl (Nat.le_refl _)) (fun _=>f3) f3 (fun _=>Nat.le_refl _) rfl
 refine ⟨hs.put h.1 h.2.1 f2 hd ?_,h.2.1.mono f1⟩;simp only[rel];refine ⟨rfl,fun p' hp' _=>?_⟩
 have:p'=⟨w.heap.size,0,0,true⟩:=by have:=(show zai _ _ _ _=some p' from hp').symm.trans h.2.2;simpa using this
 subst this;rfl
theorem zlZ (b v:Int):∀ (l:List MapEntry) (kvs:List (Int×Int)) (i:Nat),l.map (fun e=>(e.key,e.val))=kvs.map (fun p=>(Value.int .i64 p.1,Value.int .i64 p.2)) ->
  (ziL l b i=none/\zmW kvs b v=kvs++[(b,v)])\/∃ j x e,ziL l b i=some (i+j,x)/\l[j]?=some e/\e.key=.int .i64 b /\
   (l.modify j fun e=>{ e with key:=.int .i64 b,val:=.int .i64 v }).map (fun e=>(e.key,e.val))=(zmW kvs b v).map (fun p=>(Value.int .i64 p.1,Value.int .i64 p.2))
 |[],kvs,i,h=>by
  cases kvs with
  |nil=>exact .inl ⟨rfl,rfl⟩
  |cons p kvs=>simp at h
 |e::l,kvs,i,h=>by
  cases kvs with
  |nil=>simp at h
  |cons p kvs =>
   simp only[List.map_cons,List.cons.injEq,Prod.mk.injEq]at h;simp only[ziL,zmW,h.1.1,keyI];by_cases hb:p.1=b
   ·rw[if_pos (by rw[hb]),if_pos hb.symm]
    refine .inr ⟨0,e.val,e,rfl,rfl,by rw[h.1.1,hb], ?_⟩
    simp[h.2,hb]
   ·rw[if_neg (by simpa using hb),if_neg (fun e=>hb e.symm)]
    rcases zlZ b v l kvs (i+1) h.2 with ⟨h1,h2⟩|⟨j,x,e',h1,h2,h3,h4⟩
    ·exact .inl ⟨h1,by rw[h2];rfl⟩
    ·refine .inr ⟨j+1,x,e',by rw[h1];congr 2;omega,h2,h3, ?_⟩
     simp only[List.modify_succ_cons,List.map_cons,h.1.1,h.1.2,h4]
theorem zgS {c:Ctx} {zs:List AV} {z:Array Value} (hz:relCs c zs z.toList):∀ (m:Nat),relCs c (List.replicate m zs).flatten (List.replicate m z.toList).flatten
 |0=>by simpa using zbs
 |m+1=>by simp only[List.replicate_succ,List.flatten_cons];exact za6 hz (zgS hz m)
theorem zbM {α:Type} (l:List α):∀ (m:Nat),(List.replicate m l).flatten.length=m*l.length
 |0=>by simp
 |m+1=>by simp only[List.replicate_succ,List.flatten_cons,List.length_append,zbM l m,Nat.add_mul];omega
theorem zeH {zs:List AV} {N:Nat} (h:zab zs<=N) (m:Nat):zab (List.replicate m zs).flatten<=N:=by
 refine zdr fun x hx=>?_
 obtain ⟨l,hl,hx⟩:=List.mem_flatten.1 hx;rw[List.eq_of_mem_replicate hl]at hx;exact zcW h x hx
theorem zc1 (z:Array Value) (m:Nat):(madeCells z (m*z.size)).toList=(List.replicate m z.toList).flatten:=by
 induction m with
 |zero=>simp[madeCells]
 |succ m ih =>
  have h1:(madeCells z ((m+1)*z.size)).toList=(madeCells z (m*z.size)).toList++z.toList:=by
   unfold madeCells;simp only[Array.toList_map,Array.toList_range];rw[Nat.add_mul,Nat.one_mul,List.range_add,List.map_append,List.map_map]
   congr 1
   apply List.ext_getElem?;intro j;by_cases hj:j<z.size
   ·simp[hj,Nat.mul_comm m z.size,Nat.mod_eq_of_lt hj]
   ·simp[hj]
  rw[h1,ih,List.replicate_succ',List.flatten_append];simp
theorem zjc (z:Array Value) (m c:Nat) (h:m<=c):((madeCells z (c*z.size)).toList.take (m*z.size))=(List.replicate m z.toList).flatten:=by
 rw[zc1];have:List.replicate c z.toList=List.replicate m z.toList++List.replicate (c-m) z.toList:=by rw[List.replicate_append_replicate];congr 1;omega
 rw[this,List.flatten_append,List.take_left' (by rw[zbM];simp)]
theorem zir:∀ (xs cs:List AV) (off:Nat),off+xs.length<=cs.length->ovl cs off xs=cs.take off++xs++cs.drop (off+xs.length)
 |[],cs,off,_=>by simp[ovl]
 |x::xs,cs,off,h=>by
  simp only[List.length_cons]at h;rw[ovl,zir xs _ _ (by simp;omega)]
  rw[List.take_set,List.drop_set,if_pos (by omega)]
  have h1:(cs.take (off+1)).set off x=cs.take off++[x]:=by
   rw[List.take_succ_eq_append_getElem (by omega),List.set_append_right _ _ (by simp;omega)]
   simp[Nat.min_eq_left (show off<=cs.length by omega)]
  rw[h1];simp[Nat.add_assoc,Nat.add_comm 1]
end
section
variable {P:Program} {inv:Nat->Option Nat} {w0:World} {M:Nat->Prop} {n N:Nat} {φ:AF} {σ:AS} {β:Nat->Nat} {a:Act} {w:World}
theorem zmF (w:World) (g:Nat) (cs:Array Value):(w.setRow g cs).os=w.os/\(w.setRow g cs).tape=w.tape/\(w.setRow g cs).output=w.output/\(w.setRow g cs).heap.size=w.heap.size:=⟨rfl,rfl,rfl,by simp[World.setRow]⟩
theorem Mem.write {l:Nat} {cs cs':List AV} {xs xs':Array Value} {ty:TypeId} {N2:Nat} (h:Mem inv w0 M σ β w) (hg:zah σ l=some (.cells cs true)) (hxs:w.heap[β l]?=some (.cells xs ty (0,0))) (hN:zax σ<=N2) (hcb:zab cs'<=N2)
  (hlen':cs'.length<=xs'.size) (hsize:xs'.size=xs.size) (hgrow:cs.length<=cs'.length) (hrel:relCs (ctx inv M σ β w) cs' (xs'.toList.take cs'.length)) :
  Mem inv w0 M (sput σ l (.cells cs' true)) β (w.setRow (β l) xs')/\Ext N2 (ctx inv M σ β w) (ctx inv M (sput σ l (.cells cs' true)) β (w.setRow (β l) xs')) /\
   zai β (w.setRow (β l) xs') (sput σ l (.cells cs' true)) l=some ⟨β l,cs'.length,xs.size,true⟩:=by
 have hu:upd β l (β l)=β:=by funext k;unfold upd;split<;>simp_all
 have hown:=h.own l _ hg rfl;obtain ⟨s1,s2,s3,s4⟩:=zmF w (β l) xs';have hbel:Below w0.heap.size w0 (w.setRow (β l) xs'):=h.below.trans ⟨s1,s2,s3,by omega,fun b hb=>setRow_other w (β l) b xs' (by omega)⟩
 have hnew:=setRow_heap w (β l) xs xs' ty (0,0) hxs;have hp:zai β w σ l=some ⟨β l,cs.length,xs.size,true⟩:=by unfold zai;rw[hg];simp[zaN,hxs]
 have:=Mem.put (l:=l) (b':=β l) (N:=N2) h hbel (by omega) (fun b hb hne=>setRow_other w (β l) b xs' hne) hnew hlen' hown.1
  (fun l' o' hne e hr he=>hne (h.inj l' l o' _ e hg hr rfl he)) (.inr ⟨_,hg,rfl,rfl⟩) (fun l' o' e _=>Nat.le_trans (zau σ l' o' e).2 hN) hcb
  (fun _ p' hp'=>⟨_,hp,by simp at hp';subst hp';exact hgrow,fun e=>by simp at hp';subst hp';simp at e;simp[e,hsize]⟩) hrel
 rw[hu]at this;refine ⟨this.1,this.2, ?_⟩;unfold zai;rw[zag,if_pos rfl];simp[zaN,hnew,hsize]
theorem znE {α:Type} (l us:List α) (off m:Nat) (h1:off+us.length<=m) (h2:m<=l.length) :
  (l.take off++us++l.drop (off+us.length)).take m=(l.take m).take off++us++(l.take m).drop (off+us.length):=by
 rw[List.append_assoc,List.append_assoc,List.take_append,List.take_append,List.length_take,List.take_take,Nat.min_eq_left (show off<=l.length by omega),List.take_take,Nat.min_eq_left (show off<=m by omega),Nat.min_eq_right (show off<=m by omega),
  List.take_of_length_le (show us.length<=m-off by omega),List.drop_take]
 congr 3
 omega
theorem zmx (hs:St inv w0 M n φ σ β a w) {t:TypeId} {k:Nat} (ht:siz P t=some k) {l ver off:Nat} {x:AV} {u v:Value} (hu:rel (ctx inv M σ β w) (.ptr l ver off) u) (hv:rel (ctx inv M σ β w) x v) (hxb:x.bound<=zaM φ)
  {cs:List AV} {r:Bool} (hg:zah σ l=some (.cells cs r)) (hver:cs.length=ver) (h1:x.sound=true) (h2:x.cells.length=k) (h3:0<k) (h4:off+k<=ver) :
  ∃ w',(Instr.storeAt t u v).run P w=.ok () w'/\St inv w0 M n φ (sput σ l (.cells (ovl cs off x.cells) r)) β a w'/\Ext N (ctx inv M σ β w) (ctx inv M (sput σ l (.cells (ovl cs off x.cells) r)) β w'):=by
 have hr:r=true:=by
  cases r with
  |true=>rfl
  |false=>have:=hs.mem.ghost l cs hg;subst this;simp at hver;omega
 subst hr;have hlive:zcd σ l ver:=by unfold zcd;rw[hg];exact hver
 obtain ⟨p,hp,_,rfl⟩:=zdB hlive hu;obtain ⟨xs,ty,e1,e2,e3⟩:=hs.mem.cells l cs hg;have hpb:p.block=β l:=by unfold zai at hp;rw[hg]at hp;cases hp;rfl
 rw[hpb];have hxc:=ziW h1 hv;have hxl:=zaB hxc;have hsz:v.cells.size=k:=by rw[<-Array.length_toList,<-hxl];exact h2
 have hst:=run_storeCells_at P (β l) off ty v.cells.toList 0 xs w e1 (by simp[hsz];omega) (zdX hxc)
 simp only[Nat.add_zero,Array.length_toList,hsz]at hst;obtain ⟨f1,f2,f3⟩:=zbw N φ σ;have hl2:=zaB e3;have hcsl:cs.length<=xs.toList.length:=by simpa using e2
 have hw:=hs.mem.write (cs':=ovl cs off x.cells) (xs':=(xs.toList.take off++v.cells.toList++xs.toList.drop (off+k)).toArray) (N2:=zaw N φ σ) hg e1 f3
  (zfm _ _ _ (Nat.le_trans (zau σ l _ hg).2 f3) (Nat.le_trans (zfQ x) (by omega)))
  (by rw[zb3];simp[hsz];omega) (by simp[hsz];omega) (by rw[zb3];exact Nat.le_refl _)
  (by
   rw[zb3,zir _ _ _ (by omega)]
   have hk:v.cells.toList.length=k:=by simpa using hsz
   have:=znE xs.toList v.cells.toList off cs.length (by omega) hcsl
   rw[hk]at this;rw[this,<-h2];exact za6 (za6 (zcg off e3) hxc) (zch _ e3))
 refine ⟨_, ?_,hs.keep hw.1 hw.2.1 f2,hw.2.1.mono f1⟩;simp[Instr.storeAt,Instr.sureAddr,storeVar,zc4 ht,hsz,hst]
theorem zeF {t u ty e d:TypeId} {i:TypeInfo} {z:Value} (w:World) (ht:P.underlying t=some (.slice e)) (hu:P.underlying u=some (.slice d)) (hi:P.info? e=some i) (hz:i.zero=some z)
  (base:Option Addr) (sLen sCap:Nat) (olds news:List Value) (A:Option Addr) (m c:Nat)
  (ho:(Builtin.firstCells i.size sLen (.slice base sLen sCap)).run P w.drew=.ok olds.toArray w.drew) (hn:(Builtin.firstCells i.size m (.slice A m c)).run P w.drew=.ok news.toArray w.drew)
  (hg:sCap<sLen+m) (h63:((sLen+m:Nat):Int)<=9223372036854775807) (hfit:Builtin.nextslicecap (sLen+m) sCap*i.bytes<=281474976710656) :
  (Builtin.append_ #[t,u] ty #[.slice base sLen sCap,.slice A m c]).run P w =
   .ok (.slice (some ⟨w.heap.size,0,none⟩) (sLen+m) (grownCap w (sLen+m) sCap e))
    (w.drew.alloc (.cells (olds.toArray++news.toArray++Builtin.zeroCells z.cells (grownCap w (sLen+m) sCap e-(sLen+m))) e)):=by
 have hn':¬(sLen+m<=sCap):=by omega
 have h63':¬(9223372036854775807<((sLen:Int)+(m:Int))):=by omega
 have h48':¬(281474976710656<Builtin.nextslicecap (sLen+m) sCap*i.bytes):=by omega
 simp[Builtin.append_,run_underlying ht,run_underlying hu,sizeOf,typeInfo,zeroValue,hi,hz,Builtin.lenOf,hn',h63',h48',Question.forced,ho,hn,newRow,grownCap]
 congr 2
 apply Array.ext';simp[List.append_assoc]
theorem zha {t u ty e d:TypeId} {i:TypeInfo} (w:World) (ht:P.underlying t=some (.slice e)) (hu:P.underlying u=some (.slice d)) (hi:P.info? e=some i)
  (g sLen sCap:Nat) (cur:Array Value) (te:TypeId) (hgr:w.heap[g]?=some (.cells cur te (0,0))) (A:Option Addr) (m c:Nat) (news:List Value)
  (hn:(Builtin.firstCells i.size m (.slice A m c)).run P w=.ok news.toArray w) (h1:∀ u∈news,u.oneCell'=true) (hroom:sLen+m<=sCap) (hfit:sLen*i.size+news.length<=cur.size) :
  (Builtin.append_ #[t,u] ty #[.slice (some ⟨g,0,none⟩) sLen sCap,.slice A m c]).run P w =
   .ok (.slice (some ⟨g,0,none⟩) (sLen+m) sCap) (w.setRow g (cur.toList.take (sLen*i.size)++news++cur.toList.drop (sLen*i.size+news.length)).toArray):=by
 have hst:=run_storeCells_at P g (sLen*i.size) te news 0 cur w hgr (by simpa using hfit) h1
 simp only[Nat.add_zero]at hst;simp[Builtin.append_,run_underlying ht,run_underlying hu,sizeOf,typeInfo,hi,Builtin.lenOf,hroom,hn,Addr.add_lit,hst]
theorem zhb {t u ty e d:TypeId} {i:TypeInfo} (w:World) (ht:P.underlying t=some (.slice e)) (hu:P.underlying u=some (.slice d)) (hi:P.info? e=some i)
  (base:Option Addr) (sLen sCap:Nat) (hcap:sLen<=sCap) (A:Option Addr) (c:Nat) :
  (Builtin.append_ #[t,u] ty #[.slice base sLen sCap,.slice A 0 c]).run P w=.ok (.slice base sLen sCap) w:=by
 have hf:(Builtin.firstCells i.size 0 (.slice A 0 c)).run P w=.ok #[] w:=by
  cases A<;>simp[Builtin.firstCells,loadCells,loadCellsFrom]
 cases base<;>simp[Builtin.append_,run_underlying ht,run_underlying hu,sizeOf,typeInfo,hi,Builtin.lenOf,hcap,hf,storeCells]
end
end Go.Eng
