/-
  A part of the engine that walks the functions' codes, and of the functions' contracts. Conditions: those that each theorem names.
-/
import Derived.Test.YtnjpcpdmnadadaaGreatK5
import Derived.Below
import Derived.Calls
import Derived.ChangeKeysEq
import Derived.DataReads
import Derived.Deep.LoopGhost
import Derived.Laws.AppendOwn
import Derived.Laws.Cells
import Derived.Laws.CopyRow
import Derived.Laws.Entries
import Derived.Laws.MakeOwn
import Derived.Laws.Rows
import Derived.Laws.StructEq
import Derived.Laws.Tables
import Derived.Lib.AppendZerosOnto
import Derived.MapKept
import Derived.Orders
import Derived.ProofKit
import Derived.ScopeJumps
import Derived.Tactics2
import Derived.WalkSpells
set_option linter.unusedSimpArgs false
set_option linter.unusedVariables false
set_option linter.unusedSectionVars false
namespace Go.Eng
open Go.RowKit
mutual
def zaO (f:Nat→Option (List AV)):AV→AV
 |.agg cs=>.agg (zbn f cs)
 |.tup cs=>.tup (zbn f cs)
 |.fn j cs=>.fn j (zbn f cs)
 |.s0 sz=>.sl sz []
 |.ptr l ver off=>match f l with
  |some cs=>if cs.length=ver∧0<ver then .ip ver [cs] 0 off else .top
  |none=>.top
 |.sm l ver off n sz=>match f l with
  |some cs=>if cs.length=ver∧off+n*sz≤ver then .sl sz (zbv sz n (cs.drop off)) else .top
  |none=>.top
 |.mp _=>.top
 |.i k n=>.i k n
 |.b t=>.b t
 |.v x=>.v x
 |.u=>.u
 |.sl sz es=>.sl sz es
 |.ip sz es i k=>.ip sz es i k
 |.top=>.top
def zbn (f:Nat→Option (List AV)):List AV→List AV
 |[]=>[]
 |x::xs=>zaO f x::zbn f xs
end
def zfZ:Nat→AS→Nat→Option (List AV)
 |0,_,_=>none
 |k+1,σ,l=>match zax σ l with
  |some (.cells cs _)=>some (zbn (zfZ k σ) cs)
  |_=>none
def zdU (k:Nat) (σ:AS) (x:AV):AV:=zaO (zfZ k σ) x
def zby (k:Nat) (σ:AS) (xs:List AV):List AV:=zbn (zfZ k σ) xs
mutual
def AV.scalar:AV→Bool
 |.agg cs=>zb7 cs
 |.tup cs=>zb7 cs
 |.i _ _=>true|.b _=>true|.v _=>true|.u=>true|.s0 _=>true
 |.sl _ es=>es.isEmpty
 |.ip _ _ _ _=>false|.ptr _ _ _=>false|.sm _ _ _ _ _=>false|.mp _=>false|.fn _ _=>false|.top=>true
def zb7:List AV→Bool
 |[]=>true
 |x::xs=>x.scalar&&zb7 xs
end
mutual
theorem zen {c c':Ctx}:∀ (x:AV) (y:Value),x.scalar=true→rel c x y→rel c' x y
 |.agg cs,y,s,r=>by
  simp only[rel]at r ⊢
  obtain ⟨xs,e,r⟩:=r
  exact ⟨xs,e,zgo cs _ (by simpa only[AV.scalar] using s) r⟩
 |.tup cs,y,s,r=>by
  simp only[rel]at r ⊢
  obtain ⟨xs,e,r⟩:=r
  exact ⟨xs,e,zhg cs _ (by simpa only[AV.scalar] using s) r⟩
 |.i _ _,_,_,r=>by simpa only[rel] using r
 |.b _,_,_,r=>by simpa only[rel] using r
 |.v _,_,_,r=>by simpa only[rel] using r
 |.u,_,_,r=>by simpa only[rel] using r
 |.s0 _,_,_,r=>by simpa only[rel] using r
 |.sl sz es,y,s,r=>by
  simp only[AV.scalar,List.isEmpty_iff]at s
  subst s
  simp only[rel]at r ⊢
  obtain ⟨ad,cap,e,h,_⟩:=r
  exact ⟨ad,cap,e,h,fun h=>absurd rfl h⟩
 |.ip _ _ _ _,_,s,_=>by simp[AV.scalar]at s
 |.ptr _ _ _,_,s,_=>by simp[AV.scalar]at s
 |.sm _ _ _ _ _,_,s,_=>by simp[AV.scalar]at s
 |.mp _,_,s,_=>by simp[AV.scalar]at s
 |.fn _ _,_,s,_=>by simp[AV.scalar]at s
 |.top,_,_,_=>by simp only[rel]
theorem zhg {c c':Ctx}:∀ (xs:List AV) (ys:List Value),zb7 xs=true→zbz c xs ys→zbz c' xs ys
 |[],_,_,r=>by simpa only[zbz] using r
 |x::xs,ys,s,r=>by
  simp only[zb7,Bool.and_eq_true]at s
  simp only[zbz]at r ⊢
  obtain ⟨y,ys',e,r1,r2⟩:=r
  exact ⟨y,ys',e,zen x y s.1 r1,zhg xs ys' s.2 r2⟩
theorem zgo {c c':Ctx}:∀ (xs:List AV) (ys:List Value),zb7 xs=true→relCs c xs ys→relCs c' xs ys
 |[],_,_,r=>by simpa only[relCs] using r
 |x::xs,ys,s,r=>by
  simp only[zb7,Bool.and_eq_true]at s
  simp only[relCs]at r ⊢
  obtain ⟨y,ys',e,ho,r1,r2⟩:=r
  exact ⟨y,ys',e,ho,zen x y s.1 r1,zgo xs ys' s.2 r2⟩
end
section
variable {P:Program} {inv:Nat→Option Nat} {w0:World} {M:Nat→Prop} {n N:Nat} {φ:AF} {σ:AS} {β:Nat→Nat} {a:Act} {w:World}
def zom (c':Ctx) (σ:AS) (β:Nat→Nat) (f:Nat→Option (List AV)):Prop :=
 ∀ l cs',f l=some cs'→∃ cs r,zax σ l=some (.cells cs r)∧cs'.length=cs.length∧zad cs'=true∧(r=true→∃ ys:List Value,relCs c' cs' ys∧∀ j u,ys[j]?=some u→c'.w.cell? ⟨β l,j,none⟩=some u)
theorem zc6 (f:Nat→Option (List AV)):∀ (xs:List AV),(zbn f xs).length=xs.length
 |[]=>by simp[zbn]
 |x::xs=>by simp[zbn,zc6 f xs]
mutual
theorem zel {c':Ctx} {f:Nat→Option (List AV)} (hf:zom c' σ β f):∀ (x:AV),(zaO f x).bare=true
 |.agg cs=>by simp only[zaO,AV.bare];exact zdq hf cs
 |.tup cs=>by simp only[zaO,AV.bare];exact zdq hf cs
 |.fn j cs=>by simp only[zaO,AV.bare];exact zdq hf cs
 |.s0 sz=>by simp only[zaO,AV.bare]
 |.ptr l ver off=>by
  simp only[zaO]
  split
  ·split<;>simp only[AV.bare]
  ·simp only[AV.bare]
 |.sm l ver off n sz=>by
  simp only[zaO]
  split
  ·split<;>simp only[AV.bare]
  ·simp only[AV.bare]
 |.mp _=>by simp only[zaO,AV.bare]
 |.i _ _=>by simp only[zaO,AV.bare]
 |.b _=>by simp only[zaO,AV.bare]
 |.v _=>by simp only[zaO,AV.bare]
 |.u=>by simp only[zaO,AV.bare]
 |.sl _ _=>by simp only[zaO,AV.bare]
 |.ip _ _ _ _=>by simp only[zaO,AV.bare]
 |.top=>by simp only[zaO,AV.bare]
theorem zdq {c':Ctx} {f:Nat→Option (List AV)} (hf:zom c' σ β f):∀ (xs:List AV),zad (zbn f xs)=true
 |[]=>by simp only[zbn,zad]
 |x::xs=>by simp only[zbn,zad,zel hf x,zdq hf xs,Bool.and_self]
end
mutual
theorem zdo (hm:Mem inv w0 M σ β w) (hM:∀ b,M b→b<w0.heap.size) {A':Nat→Prop} (hA:∀ b,A' b→M b) {f:Nat→Option (List AV)} (hf:zom ⟨inv,w,A',fun _=>none⟩ σ β f):∀ (x:AV) (y:Value),rel (ctx inv M σ β w) x y→rel ⟨inv,w,A',fun _=>none⟩ (zaO f x) y
 |.agg cs,y,r=>by
  simp only[zaO,rel]at r ⊢
  obtain ⟨xs,e,r⟩:=r
  exact ⟨xs,e,zf0 hm hM hA hf cs _ r⟩
 |.tup cs,y,r=>by
  simp only[zaO,rel]at r ⊢
  obtain ⟨xs,e,r⟩:=r
  exact ⟨xs,e,zdp hm hM hA hf cs _ r⟩
 |.fn j cs,y,r=>by
  simp only[zaO,rel]at r ⊢
  obtain ⟨g,xs,e,hi,r⟩:=r
  exact ⟨g,xs,e,hi,zdp hm hM hA hf cs _ r⟩
 |.s0 sz,y,r=>by
  simp only[zaO,rel]at r ⊢
  obtain ⟨ad,e⟩:=r
  exact ⟨ad,0,e,Nat.le_refl _,fun h=>absurd rfl h⟩
 |.ptr l ver off,y,r=>by
  simp only[zaO]
  split
  ·rename_i cs' e
   split
   ·rename_i hl
    obtain ⟨cs,rl,hg,h1,h2,h3⟩:=hf l cs' e
    have hlive:zbL σ l ver:=by unfold zbL;rw[hg];show cs.length=ver;omega
    obtain ⟨p,hp,_,rfl⟩:=zc9 hlive r
    have hrl:rl=true:=by
     cases rl with
     |true=>rfl
     |false=>have:=hm.ghost l cs hg;subst this;simp only[List.length_nil]at h1;omega
    subst hrl
    obtain ⟨ys,h4,h5⟩:=h3 rfl
    have hpb:p.block=β l:=by unfold zah at hp;rw[hg]at hp;cases hp;rfl
    have hown:=hm.own l _ hg rfl
    simp only[rel]
    refine ⟨⟨β l,0,none⟩,by simp[zch,hpb],fun ha=>by have:=hM _ (hA _ ha);simp only at this;omega,hown.2, ?_⟩
    simp only[zaE,and_true]
    refine ⟨hl.1,zfs h2 h4 fun j u hu=>?_⟩
    rw[zch]
    have:=h5 j u hu
    simpa using this
   ·simp only[rel]
  ·simp only[rel]
 |.sm l ver off m sz,y,r=>by
  simp only[zaO]
  split
  ·rename_i cs' e
   split
   ·rename_i hl
    obtain ⟨cs,rl,hg,h1,h2,h3⟩:=hf l cs' e
    have hlive:zbL σ l ver:=by unfold zbL;rw[hg];show cs.length=ver;omega
    obtain ⟨p,ad,cap,hp,hv,hb,rfl,hcap,hr⟩:=zcI hlive r
    simp only[rel]
    refine ⟨ad,cap,by rw[zce],by rw[zce];exact hcap,fun hne=>?_⟩
    have hm0:0<m:=by
     rcases Nat.eq_zero_or_pos m with e0|e0
     ·subst e0;exact absurd rfl hne
     ·exact e0
    have hrl:rl=true:=by
     cases rl with
     |true=>rfl
     |false=>unfold zah at hp;rw[hg]at hp;cases hp;simp at hr;omega
    subst hrl
    have hpe:p=⟨β l,cs.length,zaG w (β l),true⟩:=by unfold zah at hp;rw[hg]at hp;cases hp;rfl
    subst hpe
    simp only[if_true]at hr
    obtain ⟨ys,h4,h5⟩:=h3 rfl
    have hown:=hm.own l _ hg rfl
    refine ⟨_,hr.1.resolve_left (by omega),fun ha=>by have:=hM _ (hA _ ha);simp only at this;omega,hown.2, ?_⟩
    refine zdf m (by rw[List.length_drop];omega) (zeE _ _ h2) (zbU off h4) fun j u hu=>?_
    rw[zch,Nat.zero_add]
    rw[List.getElem?_drop]at hu
    exact h5 _ u hu
   ·simp only[rel]
  ·simp only[rel]
 |.mp _,_,_=>by simp only[zaO,rel]
 |.i _ _,_,r=>by simpa only[zaO,rel] using r
 |.b _,_,r=>by simpa only[zaO,rel] using r
 |.v _,_,r=>by simpa only[zaO,rel] using r
 |.u,_,r=>by simpa only[zaO,rel] using r
 |.sl sz es,y,r=>by
  have hle:(ctx inv M σ β w).Le ⟨inv,w,A',fun _=>none⟩:=⟨rfl,Nat.le_refl _,fun _ _ _=>rfl,fun b _ h=>.inl (hA b h)⟩
  simp only[zaO]
  exact zbS (N:=0) hle (.sl sz es) y (.inr rfl) r
 |.ip sz es i k,y,r=>by
  have hle:(ctx inv M σ β w).Le ⟨inv,w,A',fun _=>none⟩:=⟨rfl,Nat.le_refl _,fun _ _ _=>rfl,fun b _ h=>.inl (hA b h)⟩
  simp only[zaO]
  exact zbS (N:=0) hle (.ip sz es i k) y (.inr rfl) r
 |.top,_,_=>by simp only[zaO,rel]
theorem zdp (hm:Mem inv w0 M σ β w) (hM:∀ b,M b→b<w0.heap.size) {A':Nat→Prop} (hA:∀ b,A' b→M b) {f:Nat→Option (List AV)} (hf:zom ⟨inv,w,A',fun _=>none⟩ σ β f):∀ (xs:List AV) (ys:List Value),zbz (ctx inv M σ β w) xs ys→zbz ⟨inv,w,A',fun _=>none⟩ (zbn f xs) ys
 |[],_,r=>by simpa only[zbn,zbz] using r
 |x::xs,ys,r=>by
  simp only[zbn,zbz]at r ⊢
  obtain ⟨y,ys',e,r1,r2⟩:=r
  exact ⟨y,ys',e,zdo hm hM hA hf x y r1,zdp hm hM hA hf xs ys' r2⟩
theorem zf0 (hm:Mem inv w0 M σ β w) (hM:∀ b,M b→b<w0.heap.size) {A':Nat→Prop} (hA:∀ b,A' b→M b) {f:Nat→Option (List AV)} (hf:zom ⟨inv,w,A',fun _=>none⟩ σ β f):∀ (xs:List AV) (ys:List Value),relCs (ctx inv M σ β w) xs ys→relCs ⟨inv,w,A',fun _=>none⟩ (zbn f xs) ys
 |[],_,r=>by simpa only[zbn,relCs] using r
 |x::xs,ys,r=>by
  simp only[zbn,relCs]at r ⊢
  obtain ⟨y,ys',e,ho,r1,r2⟩:=r
  exact ⟨y,ys',e,ho,zdo hm hM hA hf x y r1,zf0 hm hM hA hf xs ys' r2⟩
end
theorem zc7 (hm:Mem inv w0 M σ β w) (hM:∀ b,M b→b<w0.heap.size) {A':Nat→Prop} (hA:∀ b,A' b→M b):∀ (k:Nat),zom ⟨inv,w,A',fun _=>none⟩ σ β (zfZ k σ)
 |0=>fun l cs' h=>by simp[zfZ]at h
 |k+1=>fun l cs' h=>by
  have ih:=zc7 hm hM hA k
  simp only[zfZ]at h
  split at h
  ·rename_i cs r e
   simp only[Option.some.injEq]at h
   subst h
   refine ⟨cs,r,e,zc6 _ _,zdq ih cs,fun hr=>?_⟩
   subst hr
   obtain ⟨ys,_,h2,h3⟩:=hm.cell e
   exact ⟨ys,zf0 hm hM hA ih cs ys h2,h3⟩
  ·cases h
def PC (P:Program) (inv:Nat→Option Nat) (j:Nat) (args:List AV) (R:AV→Prop):Prop :=
 ∀ g,inv g=some j→∀ (M:Nat→Prop) (w:World) (vs:Array Value),(∀ b,M b→b<w.heap.size)→zbz ⟨inv,w,M,fun _=>none⟩ args vs.toList →
  Calls P g vs w fun e w'=>∃ v r,e=.returned v∧R r∧Below w.heap.size w w'∧r.bare=true∧rel ⟨inv,w',M,fun _=>none⟩ r v
theorem PC.mono {j:Nat} {args:List AV} {R R':AV→Prop} (h:PC P inv j args R) (hr:∀ r,R r→R' r):PC P inv j args R' :=
 fun g hg M w vs hM ha=>(h g hg M w vs hM ha).mono fun _ _ ⟨v,r,e,h1,h2⟩=>⟨v,r,e,hr r h1,h2⟩
theorem zjN (hm:Mem inv w0 M σ β w) (hM:∀ b,M b→b<w0.heap.size):∀ b,avoid M σ β b→b<w.heap.size:=by
 rintro b (h|⟨l,o,e,hr,rfl⟩)
 ·exact Nat.lt_of_lt_of_le (hM b h) hm.below.size
 ·exact (hm.own l o e hr).2
theorem PC.callK (hM:∀ b,M b→b<w0.heap.size) {j:Nat} {args:List AV} {R:AV→Prop} (h:PC P inv j args R) {K:AV→AS→Prop} (hk:∀ r,R r→K r σ):CallK P inv w0 M N φ σ j args K:=by
 refine ⟨mx N (zaC φ),zaF _ _,zal _ _,fun g hg β w vs hm ha=>?_⟩
 have hle:(ctx inv M σ β w).Le ⟨inv,w,avoid M σ β,fun _=>none⟩:=⟨rfl,Nat.le_refl _,fun _ _ _=>rfl,fun _ _ h=>h⟩
 refine (h g hg (avoid M σ β) w vs (zjN hm hM) (zbI (N:=0) hle _ _ (.inr rfl) ha)).mono ?_
 rintro e w' ⟨v,r,rfl,hr,hb,hbare,hrel⟩
 have hc:=hm.call hb (mx N (zaC φ))
 exact ⟨v,r,σ,β,rfl,hk r hr,hc.1,hc.2,zfr (S:=zah β w' σ) r v hbare hrel⟩
theorem PC.snapK (hM:∀ b,M b→b<w0.heap.size) (k:Nat) {j:Nat} {args:List AV} {R:AV→Prop} (h:PC P inv j (zby k σ args) R) {K:AV→AS→Prop} (hk:∀ r,R r→r.scalar=true∧K r σ):CallK P inv w0 M N φ σ j args K:=by
 refine ⟨mx N (zaC φ),zaF _ _,zal _ _,fun g hg β w vs hm ha=>?_⟩
 have hf:=zc7 hm hM (A':=fun _=>False) (fun _ h=>h.elim) k
 refine (h g hg (fun _=>False) w vs (fun _ h=>h.elim) (zdp hm hM (fun _ h=>h.elim) hf _ _ ha)).mono ?_
 rintro e w' ⟨v,r,rfl,hr,hb,hbare,hrel⟩
 have hc:=hm.call hb (mx N (zaC φ))
 exact ⟨v,r,σ,β,rfl,(hk r hr).2,hc.1,hc.2,zen r v (hk r hr).1 hrel⟩
theorem zdI (hs:Knows inv w0 M φ σ β a w):∀ {l:List ResultVar} {rs:List ARes} {xs:List AV},cres P l=some rs→zh0 φ σ rs=some xs →
  ∃ ys:List Value,zbz (ctx inv M σ β w) xs ys∧(l.mapM fun
   |.tmp t=>pure (a.tmps.getD t undef)
   |.cell ad t=>do loadVar t (←asAddr (a.tmps.getD ad undef)):Sem (List Value)).run P w=.ok ys w
 |[],rs,xs,h,hx=>by
  simp only[cres,Option.some.injEq]at h
  subst h
  simp only[zh0,Option.some.injEq]at hx
  subst hx
  exact ⟨[],zmN,rfl⟩
 |.tmp t::l,rs,xs,h,hx=>by
  simp only[cres]at h
  obtain ⟨rs',h1,rfl⟩:=Option.map_eq_some_iff.1 h
  simp only[zh0,ares]at hx
  split at hx
  ·rename_i x xs' e1 e2
   simp only[Option.some.injEq]at hx e1
   subst hx e1
   obtain ⟨ys,h2,h3⟩:=zdI hs h1 e2
   exact ⟨_,zft (hs.slots t) h2,by simp only[List.mapM_cons,Sem.run_bind,Sem.run_pure,Result.andThen_ok,h3]⟩
  ·cases hx
 |.cell ad t::l,rs,xs,h,hx=>by
  simp only[cres]at h
  split at h
  ·rename_i lo rs' h0 h1
   simp only[Option.some.injEq]at h
   subst h
   simp only[zh0,ares]at hx
   split at hx
   ·rename_i x xs' e1 e2
    simp only[Option.some.injEq]at hx
    subst hx
    obtain ⟨ys,h2,h3⟩:=zdI hs h1 e2
    obtain ⟨u,k1,k2⟩:=zh3 hs h0 (hs.slots ad) e1
    have hp:∃ pa,a.tmps.getD ad undef=.pointer (some pa):=by
     revert k2
     cases a.tmps.getD ad undef with
     |pointer pa=>cases pa<;>simp[Instr.loadAt,Instr.sureAddr]
     |_=>simp[Instr.loadAt,Instr.sureAddr]
    obtain ⟨pa,hpa⟩:=hp
    have k3:(loadVar t pa).run P w=.ok u w:=by
     rw[hpa]at k2
     simpa [Instr.loadAt,Instr.sureAddr] using k2
    refine ⟨u::ys,zft k1 h2, ?_⟩
    have ha:(asAddr (a.tmps.getD ad undef)).run P w=.ok pa w:=by rw[hpa];rfl
    simp only[List.mapM_cons,Sem.run_bind,ha,Sem.run_pure,Result.andThen_ok,k3,h3]
   ·cases hx
  ·cases h
theorem zhL (hs:Knows inv w0 M φ σ β a w) {fn:Func} {rs:List ARes} {x:AV} (h:cres P fn.results.toList=some rs) (hx:zdP φ σ rs=some x):∃ y,rel (ctx inv M σ β w) x y∧(results fn a.tmps).run P w=.ok y w:=by
 have key:∀ {xs:List AV},zh0 φ σ rs=some xs→∃ ys:List Value,zbz (ctx inv M σ β w) xs ys∧(results fn a.tmps).run P w=.ok (if h:ys.toArray.size=1 then ys.toArray[0] else .tuple ys.toArray) w:=by
  intro xs hxs
  obtain ⟨ys,h1,h2⟩:=zdI hs h hxs
  refine ⟨ys,h1, ?_⟩
  unfold results
  rw[Sem.run_bind,Array.mapM_eq_mapM_toList,Sem.run_map]
  erw[h2]
  rfl
 unfold zdP at hx
 split at hx
 ·rename_i e
  simp only[Option.some.injEq]at hx
  subst hx
  obtain ⟨ys,h1,h2⟩:=key e
  simp only[zbz]at h1
  obtain ⟨y,ys',rfl,h3,rfl⟩:=h1
  exact ⟨y,h3,h2⟩
 ·rename_i hne e
  simp only[Option.some.injEq]at hx
  subst hx
  obtain ⟨ys,h1,h2⟩:=key e
  have hlen:ys.length≠1:=by
   intro h1l
   obtain ⟨x,hx⟩:=List.length_eq_one_iff.1 ((zeT h1).trans h1l)
   exact hne x (by rw[hx])
  refine ⟨.tuple ys.toArray,by simp only[rel];exact ⟨_,rfl,by simpa using h1⟩, ?_⟩
  rw[h2,dif_neg (by simpa using hlen)]
 ·cases hx
theorem znj:∀ (args:List AV) (k i:Nat),za3 (zk5 k args) i=if k≤i then (args[i-k]?).getD .top else .top
 |[],k,i=>by simp[zk5,za3]
 |x::xs,k,i=>by
  simp only[zk5,za3,znj xs (k+1) i]
  by_cases h:i=k
  ·subst h;simp
  ·rw[if_neg h]
   by_cases h2:k+1≤i
   ·rw[if_pos h2,if_pos (by omega),show i-k=(i-(k+1))+1 by omega];simp
   ·rw[if_neg h2,if_neg (by omega)]
def zqX (res:List ARes) (R:AV→AS→Prop):Exit→AF→AS→Prop
 |.normal,φ,σ=>∃ r,zdP φ σ res=some r∧R r σ
 |.ret,φ,σ=>∃ r,zdP φ σ res=some r∧R r σ
 |_,_,_=>False
theorem AC.body {j:Nat} {F:AFn} (hF:Has P inv j F) {args:List AV} {R:AV→AS→Prop} (hl:args.length≤F.ntmps) (h:AWp P inv w0 M N F.ntmps F.body (zqX F.res R) (zk5 0 args) σ):AC P inv w0 M N j args σ R:=by
 intro g hg β w vs hm ha
 obtain ⟨fn,hf,hc⟩:=hF g hg
 unfold zkN at hc
 split at hc
 ·rename_i c rs hb hrs
  obtain ⟨ac,h1,h2⟩:=Option.map_eq_some_iff.1 hc
  subst h2
  have hlen:=zeT ha
  have hvs:vs.size≤fn.ntmps:=by have:args.length≤fn.ntmps:=hl;rw[hlen]at this;simpa using this
  refine calls_of_wp hf hb ?_
  have hst:St inv w0 M fn.ntmps (zk5 0 args) σ β { tmps:=vs++Array.replicate (fn.ntmps-vs.size) undef,defers:=[] } w:=by
   refine ⟨⟨fun i=>?_,hm⟩,by simp;omega,rfl⟩
   rw[znj]
   simp only[Nat.zero_le,if_true,Nat.sub_zero]
   cases e:args[i]? with
   |none=>simp only[Option.getD_none,rel]
   |some x =>
    obtain ⟨y,k1,k2⟩:=zjc ha e
    have hi:i<vs.size:=by
     have:=(List.getElem?_eq_some_iff.1 k1).1
     simpa using this
    have hy:vs[i]?=some y:=by simpa using k1
    have:(vs++Array.replicate (fn.ntmps-vs.size) undef).getD i undef=y:=by
     rw[Array.getD_eq_getD_getElem?,Array.getElem?_append_left hi,hy];rfl
    rw[this]
    exact k2
  refine Code.wp_mono ?_ (h c h1 β _ w hst)
  rintro e a' w' ⟨φ',σ',β',q,hst',hext⟩
  cases e with
  |normal =>
   obtain ⟨r,hr,hR⟩:=q
   obtain ⟨y,k1,k2⟩:=zhL hst'.toKnows hrs hr
   exact ⟨hst'.defers,y,k2,y,r,σ',β',rfl,hR,hst'.mem,hext,k1⟩
  |ret =>
   obtain ⟨r,hr,hR⟩:=q
   obtain ⟨y,k1,k2⟩:=zhL hst'.toKnows hrs hr
   exact ⟨hst'.defers,y,k2,y,r,σ',β',rfl,hR,hst'.mem,hext,k1⟩
  |exit id=>exact q.elim
  |goto l=>exact q.elim
  |panic ch=>exact q.elim
  |outgrown=>exact q.elim
 ·cases hc
theorem AC.callK {j:Nat} {args:List AV} {K:AV→AS→Prop} (N':Nat) (hN:N≤N') (hφ:zaC φ≤N') (h:AC P inv w0 M N' j args σ K):CallK P inv w0 M N φ σ j args K:=⟨N',hN,hφ,h⟩
theorem PC.intro {j:Nat} {F:AFn} (hF:Has P inv j F) {args:List AV} {R:AV→Prop} (hl:args.length≤F.ntmps)
  (h:∀ (w0:World) (M:Nat→Prop),(∀ b,M b→b<w0.heap.size)→AWp P inv w0 M 0 F.ntmps F.body (zqX F.res fun r σ=>R (zdU 4 σ r)) (zk5 0 args) []):PC P inv j args R:=by
 intro g hg M w vs hM ha
 have hm:Mem inv w M [] (fun _=>0) w:=⟨.refl _ _,by intro l l' o o' e;simp[zax]at e,by intro l o e;simp[zax]at e,by intro l cs e;simp[zax]at e,by intro l cs e;simp[zax]at e,by intro l kvs e;simp[zax]at e⟩
 have hle:(⟨inv,w,M,fun _=>none⟩:Ctx).Le (ctx inv M [] (fun _=>0) w):=⟨rfl,Nat.le_refl _,fun _ _ _=>rfl,fun b _ h=>by
  rcases h with h|⟨l,o,e,_⟩
  ·exact h
  ·simp[zax]at e⟩
 have hS:(ctx inv M [] (fun _=>0) w).S=fun _=>none:=by funext l;simp[ctx,zah,zax]
 refine (AC.body hF hl (h w M hM) g hg (fun _=>0) w vs hm (zbI (N:=0) hle _ _ (.inr hS) ha)).mono ?_
 rintro e w' ⟨v,r,σ',β',rfl,hR,hm',_,hr⟩
 have hf:=zc7 hm' hM (A':=M) (fun _ h=>h) 4
 exact ⟨v,_,rfl,hR,hm'.below,zel hf r,zdo hm' hM (fun _ h=>h) hf r v hr⟩
end
end Go.Eng
namespace Go.Eng
open Go.RowKit
theorem SLe.refl (σ:AS):SLe σ σ:=fun _ _ h _=>h
theorem SLe_refl (σ:AS):SLe σ σ=True:=eq_true (.refl σ)
theorem zfT {σ:AS} {l:Nat} (o:AO) (h:zax σ l=none∨zax σ l=some .rsv):SLe σ (zaQ σ l o):=by
 intro l' o' h' hne
 rw[zaf]
 split
 ·rename_i e
  subst e
  rcases h with h|h
  ·rw[h]at h';cases h'
  ·rw[h]at h';simp only[Option.some.injEq]at h';exact absurd h'.symm hne
 ·exact h'
theorem ziq {σ:AS} {l:Nat} (h:zaR σ≤l):zax σ l=none:=by
 cases e:zax σ l with
 |none=>rfl
 |some o=>have:=(zap σ l o e).1;omega
theorem znz (N:Nat) (φ:AF) (σ:AS):zax σ (zas N φ σ)=none:=ziq (zbe N φ σ).2.2
theorem zet:∀ {l:List Nat} {i:Nat},memN l i=true↔i∈l
 |[],i=>by simp[memN]
 |x::r,i=>by
  simp only[memN,Bool.or_eq_true,zet (l:=r),Nat.beq_eq,List.mem_cons]
  constructor
  ·rintro (h|h)
   ·exact .inl h.symm
   ·exact .inr h
  ·rintro (h|h)
   ·exact .inl h.symm
   ·exact .inr h
theorem zb3 {l:List Nat} {d:Nat} (h:zb4 l (some d)=false):∀ t∈l,t≠d:=by
 intro t ht e
 subst e
 simp only[zb4]at h
 rw[zet.2 ht]at h
 cases h
section
variable {φ φ':AF} {σ:AS}
theorem zaX {x:Opd} (h:∀ t∈x.rd,za3 φ' t=za3 φ t):ev φ' x=ev φ x:=by
 cases x with
 |t i=>exact h i (by simp[Opd.rd])
 |c x=>rfl
theorem zer {x:Option Opd} (h:∀ t∈zlx x,za3 φ' t=za3 φ t):x.map (ev φ')=x.map (ev φ):=by
 cases x with
 |none=>rfl
 |some x=>simp only[Option.map_some];rw[zaX h]
theorem zcW:∀ {l:List Opd},(∀ t∈zcX l,za3 φ' t=za3 φ t)→l.map (ev φ')=l.map (ev φ)
 |[],_=>rfl
 |x::l,h=>by
  simp only[zcX,List.mem_append]at h
  simp only[List.map_cons]
  rw[zaX fun t ht=>h t (.inl ht),zcW fun t ht=>h t (.inr ht)]
theorem zeq:∀ {l:List (Nat×Nat×Opd)} (cs:List AV),(∀ t∈zgb l,za3 φ' t=za3 φ t)→zc0 φ' cs l=zc0 φ cs l
 |[],_,_=>rfl
 |(o,n,x)::l,cs,h=>by
  simp only[zgb,List.mem_append]at h
  simp only[zc0]
  rw[zaX fun t ht=>h t (.inl ht)]
  split
  ·exact zeq _ fun t ht=>h t (.inr ht)
  ·rfl
theorem zqN {e:AVal} (h:∀ t∈e.rd,za3 φ' t=za3 φ t):zdk φ' σ e=zdk φ σ e:=by
 funext K
 cases e<;>simp only[AVal.rd,List.mem_append]at h<;>simp only[zdk]
 case mov x=>rw[zaX h]
 case pick c a b=>rw[zaX fun t ht=>h t (.inl ht),zaX fun t ht=>h t (.inr (.inl ht)),zaX fun t ht=>h t (.inr (.inr ht))]
 case bin op ty x y=>rw[zaX fun t ht=>h t (.inl ht),zaX fun t ht=>h t (.inr ht)]
 case not x=>rw[zaX h]
 case conv k x=>rw[zaX h]
 case load n a=>rw[zaX h]
 case fadr a off=>rw[zaX h]
 case iadr x i sz arr=>rw[zaX fun t ht=>h t (.inl ht),zaX fun t ht=>h t (.inr ht)]
 case fld x off n=>rw[zaX h]
 case idx x i len sz ag=>rw[zaX fun t ht=>h t (.inl ht),zaX fun t ht=>h t (.inr ht)]
 case len x=>rw[zaX h]
 case ext x i=>rw[zaX h]
 case mkfn j l=>rw[zcW h]
 case build z ps=>rw[zeq _ h]
 case slc x lo hi m sz=>rw[zaX fun t ht=>h t (.inl ht),zer fun t ht=>h t (.inr (.inl ht)),zer fun t ht=>h t (.inr (.inr (.inl ht))),zer fun t ht=>h t (.inr (.inr (.inr ht)))]
 case slca x lo hi m k sz=>rw[zaX fun t ht=>h t (.inl ht),zer fun t ht=>h t (.inr (.inl ht)),zer fun t ht=>h t (.inr (.inr (.inl ht))),zer fun t ht=>h t (.inr (.inr (.inr ht)))]
 case nilck x=>rw[zaX h]
 case mnx mn x y=>rw[zaX fun t ht=>h t (.inl ht),zaX fun t ht=>h t (.inr ht)]
 case cap x=>rw[zaX h]
 case look m k=>rw[zaX fun t ht=>h t (.inl ht),zaX fun t ht=>h t (.inr ht)]
end
def SLx (ld:Bool) (σ σ':AS):Prop:=(∀ l ver,zbL σ l ver→zbL σ' l ver)∧(ld=true→SLe σ σ')
theorem zkv {σ σ':AS} {l ver:Nat} (hs:SLe σ σ') (h:zbL σ l ver):zbL σ' l ver:=by
 unfold zbL at h ⊢
 split at h
 ·rename_i cs r e;rw[hs _ _ e (by simp)];exact h
 ·exact h.elim
theorem SLe.x {σ σ':AS} (h:SLe σ σ') (ld:Bool):SLx ld σ σ':=⟨fun _ _ hl=>zkv h hl,fun _=>h⟩
theorem SLx.refl (ld:Bool) (σ:AS):SLx ld σ σ:=(SLe.refl σ).x ld
def Det (ld:Bool) (σ:AS) (F:AS→(AV→Prop)→Prop):Prop:=∀ K:AV→Prop,F σ K→∃ x,K x∧∀ σ',SLx ld σ σ'→∀ K':AV→Prop,K' x→F σ' K'
section
variable {φ φ':AF} {σ σ':AS} {ld:Bool}
theorem zan (x:AV):Det ld σ (fun _ K=>K x):=fun _ h=>⟨x,h,fun _ _ _ h'=>h'⟩
theorem zaK:Det ld σ (fun _ _=>False):=fun _ h=>h.elim
theorem det_ob {p:AS→Prop} {F:AS→(AV→Prop)→Prop} (hp:∀ σ',SLx ld σ σ'→p σ→p σ') (h:Det ld σ F):Det ld σ (fun σ K=>ob (p σ) (F σ K)):=by
 rintro K ⟨h1,h2⟩
 obtain ⟨x,k,h3⟩:=h K h2
 exact ⟨x,k,fun σ' hs K' k'=>⟨hp σ' hs h1,h3 σ' hs K' k'⟩⟩
theorem zbh {p:Prop} {F:AS→(AV→Prop)→Prop} (h:Det ld σ F):Det ld σ (fun σ K=>ob p (F σ K)):=det_ob (p:=fun _=>p) (fun _ _ h=>h) h
theorem zcQ {l ver:Nat} {F:AS→(AV→Prop)→Prop} (h:Det ld σ F):Det ld σ (fun σ K=>ob (zbL σ l ver) (F σ K)):=det_ob (fun _ hs hl=>hs.1 _ _ hl) h
theorem zhQ {α:Type} {o:AS→Option α} {F:α→AS→(AV→Prop)→Prop} (ho:∀ σ' v,SLx ld σ σ'→o σ=some v→o σ'=some v) (h:∀ v,Det ld σ (F v)):Det ld σ (fun σ K=>zcl (o σ) fun v=>F v σ K):=by
 intro K hk
 obtain ⟨v,e,h2⟩:=zaM hk
 obtain ⟨x,k,h3⟩:=h v K h2
 refine ⟨x,k,fun σ' hs K' k'=>?_⟩
 have e':=ho σ' v hs e
 show zcl (o σ') _
 rw[e']
 exact h3 σ' hs K' k'
theorem zok {x y v:AV} (hs:SLe σ σ') (h:zkX σ x y=some v):zkX σ' x y=some v:=by
 unfold zkX at h ⊢
 split at h
 ·split at h
  ·rename_i e
   rw[hs _ _ e (by simp)]
   exact h
  ·cases h
 ·cases h
theorem zcx {α:Type} {o:Option α} {F:α→AS→(AV→Prop)→Prop} (h:∀ v,Det ld σ (F v)):Det ld σ (fun σ K=>zcl o fun v=>F v σ K):=zhQ (o:=fun _=>o) (fun _ _ _ h=>h) h
theorem ziR {n:Option Nat} {x y:AV} (hs:SLe σ σ') (h:zc2 σ n x=some y):zc2 σ' n x=some y:=by
 cases x<;>simp only[zc2]at h ⊢<;>try exact h
 case ptr l ver off =>
  split at h
  ·rename_i cs r e
   rw[hs _ _ e (by simp)]
   exact h
  ·cases h
theorem zqy (op:BinOp) (k:IntKind) (a b:Int):Det ld σ (fun _ K=>zoi op k a b K):=by
 cases op<;>simp only[zoi]<;>first|exact zan _|exact zaK|exact zbh (zan _)
theorem zhR (op:BinOp) (x y:AV):Det ld σ (fun _ K=>match op with|.eql=>K x|.neq=>K y|_=>False):=by
 cases op<;>first|exact zan _|exact zaK
theorem det_abin (op:BinOp) (ty:ETy) (x y:AV):Det ld σ (fun σ K=>zk6 σ op ty x y K):=by
 unfold zk6
 split
 ·split
  ·exact zbh (zan _)
  ·exact zaK
  ·exact zbh (zqy _ _ _ _)
 ·exact zbh (zhR _ _ _)
 ·split
  ·exact zcx fun t=>zhR _ _ _
  ·exact zcx fun t=>zhR _ _ _
  ·exact zaK
 ·exact zbh (zcQ (zhR _ _ _))
 ·exact zcx fun t=>zhR _ _ _
theorem zne (x:AV) (lo hi mx:Option AV) (sz:Nat):Det ld σ (fun σ K=>aslc σ x lo hi mx sz K):=by
 unfold aslc
 split
 ·refine zbh (zbh (zbh ?_))
  split
  ·exact zan _
  ·exact zan _
  ·exact zcQ (zan _)
  ·exact zaK
 ·exact zaK
 ·split
  ·refine zbh ?_
   split<;>first|exact zan _|exact zbh (zan _)|exact zaK
  ·refine zbh (zcQ ?_)
   split<;>first|exact zan _|exact zbh (zan _)|exact zaK
  ·split<;>first|exact zan _|exact zbh (zan _)|exact zaK
  ·exact zaK
theorem zjG (e:AVal):Det (isLd e) σ (fun σ K=>zdk φ σ e K):=by
 cases e<;>simp only[zdk,isLd]
 case mov x=>exact zan _
 case pick c a b =>
  split
  ·rename_i t _
   cases t
   ·simp only[zhz];exact zan _
   ·simp only[zix];exact zan _
  ·exact zaK
 case bin op ty x y=>exact det_abin _ _ _ _
 case not x=>split<;>first|exact zan _|exact zaK
 case conv k x=>split<;>first|exact zan _|exact zaK
 case load n a=>exact zhQ (F:=fun v _ K=>K v) (fun σ' v hs e=>ziR (hs.2 rfl) e) fun v=>zan v
 case fadr a off=>split<;>first|exact zan _|exact zcQ (zan _)|exact zaK
 case iadr x i sz arr =>
  split
  ·split
   ·exact zbh (zbh (zan _))
   ·exact zbh (zcQ (zbh (zan _)))
   ·exact zcQ (zbh (zan _))
   ·exact zbh (zan _)
   ·exact zaK
  ·exact zaK
 case fld x off n =>
  split
  ·split
   ·exact zcx (F:=fun v _ K=>K v) fun v=>zan v
   ·exact zan _
  ·exact zaK
 case idx x i len sz ag =>
  split
  ·refine zbh ?_
   split
   ·exact zan _
   ·exact zcx (F:=fun v _ K=>K v) fun v=>zan v
  ·exact zaK
 case len x=>split<;>first|exact zan _|exact zcQ (zan _)|exact zaK
 case ext x i =>
  split
  ·exact zcx (F:=fun v _ K=>K v) fun v=>zan v
  ·exact zaK
 case mkfn j l=>exact zan _
 case build z ps=>exact zcx fun cs=>zan _
 case slc x lo hi m sz=>exact zne _ _ _ _ _
 case slca x lo hi m k sz =>
  split
  ·exact zcQ (zbh (zne _ _ _ _ _))
  ·exact zaK
 case nilck x=>split<;>first|exact zan _|exact zcQ (zan _)|exact zaK
 case mnx mn x y=>split<;>first|exact zbh (zan _)|exact zaK
 case cap x=>split<;>first|exact zan _|exact zaK
 case look m k=>exact zhQ (F:=fun v _ K=>K v) (fun σ' v hs e=>zok (hs.2 rfl) e) fun v=>zan v
end
end Go.Eng
namespace Go.Eng
open Go.RowKit
section
variable {P:Program} {inv:Nat→Option Nat} {w0:World} {M:Nat→Prop} {N:Nat} {φ φ1:AF} {σ:AS}
theorem CallK.mono {j:Nat} {args:List AV} {R R':AV→AS→Prop} (h:CallK P inv w0 M N φ σ j args R) (hr:∀ r σ',R r σ'→R' r σ'):CallK P inv w0 M N φ σ j args R':=by
 obtain ⟨N',h1,h2,h3⟩:=h
 refine ⟨N',h1,h2,fun g hg β w vs hm hv=>Calls.mono (h3 g hg β w vs hm hv) ?_⟩
 rintro e w' ⟨v,r,σ',β',k1,k2,k3⟩
 exact ⟨v,r,σ',β',k1,hr _ _ k2,k3⟩
theorem CallK.frame {j:Nat} {args:List AV} {R:AV→AS→Prop} (h:CallK P inv w0 M N φ1 σ j args R) (hb:zaC φ≤mx N (zaC φ1)):CallK P inv w0 M N φ σ j args R:=by
 obtain ⟨N',h1,h2,h3⟩:=h
 refine ⟨N',h1,Nat.le_trans hb ?_,h3⟩
 unfold mx
 split<;>omega
theorem zkr {a b c:Nat} (h1:a≤c) (h2:b≤c):mx a b≤c:=by unfold mx;split<;>assumption
theorem zl2 {N:Nat} {φ:AF} {σ:AS} (h1:zaC φ≤N) (h2:zaR σ≤N):zas N φ σ=N:=by
 unfold zas mx
 split<;>split<;>omega
theorem zh8 (N:Nat) (φ:AF) (σ:AS) (o:AO):SLe σ (zaQ σ (zas N φ σ) o):=zfT o (.inl (znz N φ σ))
theorem zcg {sz:Nat} {x:AV} {K K':Nat→List AV→Prop} (hk:∀ m l,K m l→K' m l) (h:zk4 σ sz x K):zk4 σ sz x K':=by
 unfold zk4 at h ⊢
 split at h
 ·exact hk _ _ h
 ·exact ⟨h.1,hk _ _ h.2⟩
 ·refine ⟨h.1, ?_⟩
  have h2:=h.2
  split at h2
  ·exact ⟨h2.1,hk _ _ h2.2⟩
  ·exact h2.elim
 ·exact h.elim
theorem zcG {l d sz m:Nat} {dest:AV} {new:List AV} {K K':AF→AS→Prop} (hk:∀ r σ',K (za5 φ1 d r) σ'→K' (za5 φ d r) σ') (h:zk1 φ1 σ l d sz dest m new K):zk1 φ σ l d sz dest m new K':=by
 unfold zk1 at h ⊢
 split at h
 ·exact ⟨h.1,hk _ _ h.2⟩
 ·refine ⟨h.1,h.2.1,h.2.2.1,h.2.2.2.1, ?_⟩
  have h2:=h.2.2.2.2
  split at h2
  ·exact ⟨h2.1,hk _ _ h2.2⟩
  ·exact h2.elim
 ·exact h.elim
theorem zh2 {o:AOp} {K1 K2:AF→AS→Prop} (hk:∀ φ σ,K1 φ σ→K2 φ σ) (h:zaP P inv w0 M N o φ σ K1):zaP P inv w0 M N o φ σ K2:=by
 cases o with
 |set d e =>
  simp only[zaP,aop]at h ⊢
  obtain ⟨x,k1,k2⟩:=zjG e _ h
  exact k2 σ (.refl _ σ) _ (hk _ _ k1)
 |alloc d z=>simp only[zaP,aop]at h ⊢;exact hk _ _ h
 |box d n x=>simp only[zaP,aop]at h ⊢;exact ⟨h.1,h.2.1,hk _ _ h.2.2⟩
 |isnil d neg x =>
  simp only[zaP,aop]at h ⊢
  split at h
  ·exact ⟨fun e=>hk _ _ (h.1 e),hk _ _ h.2⟩
  ·exact ⟨fun e=>hk _ _ (h.1 e),hk _ _ h.2⟩
  ·exact ⟨h.1,fun e=>hk _ _ (h.2.1 e),hk _ _ h.2.2⟩
  ·exact h.elim
 |mks0 d sz=>simp only[zaP,aop]at h ⊢;exact hk _ _ h
 |mksl d sz len z ps =>
  simp only[zaP,aop]at h ⊢
  obtain ⟨cs,e,h⟩:=zaM h
  rw[e]
  simp only[zdy]
  cases eb:zad cs<;>rw[eb]at h<;>exact hk _ _ h
 |store n a x =>
  simp only[zaP,aop]at h ⊢
  split at h
  ·split at h
   ·exact ⟨h.1,h.2.1,h.2.2.1,h.2.2.2.1,hk _ _ h.2.2.2.2⟩
   ·exact h.elim
  ·exact h.elim
 |app d s x sz=>simp only[zaP,aop]at h ⊢;exact zcg (fun m l h=>zcG (fun r σ' h'=>⟨h'.1,hk _ _ h'.2⟩) h) h
 |make d a c z sz =>
  simp only[zaP,aop]at h ⊢
  split at h
  ·exact ⟨h.1,hk _ _ h.2⟩
  ·exact h.elim
 |call d j args=>simp only[zaP]at h ⊢;exact h.mono fun r σ' h'=>⟨h'.1,hk _ _ h'.2⟩
 |calv d f args =>
  simp only[zaP]at h ⊢
  split at h
  ·exact h.mono fun r σ' h'=>⟨h'.1,hk _ _ h'.2⟩
  ·exact h.elim
 |callp d j args =>
  simp only[zaP,aop]at h ⊢
  obtain ⟨r,h1,h2⟩:=h
  exact ⟨r,h1,hk _ _ h2⟩
 |gal d back z =>
  simp only[zaP,aop]at h ⊢
  split at h
  ·exact ⟨h.1,hk _ _ h.2⟩
  ·exact h.elim
 |storeA n a x pts =>
  simp only[zaP,aop]at h ⊢
  split at h
  ·refine ⟨h.1, ?_⟩
   have h:=h.2
   split at h
   ·exact ⟨h.1,h.2.1,h.2.2.1,h.2.2.2.1,hk _ _ h.2.2.2.2⟩
   ·exact h.elim
  ·exact h.elim
 |bad d=>exact h.elim
 |mkmap d=>simp only[zaP,aop]at h ⊢;exact hk _ _ h
 |appe d s x sz=>simp only[zaP,aop]at h ⊢;exact zcg (fun m l h=>zcG (fun r σ' h'=>hk _ _ h') h) h
 |appA d s x sz pts=>simp only[zaP,aop]at h ⊢;exact zcg (fun m l h=>⟨h.1,zcG (fun r σ' h'=>hk _ _ h') h.2⟩) h
 |mksr d sz len z ps =>
  simp only[zaP,aop]at h ⊢
  obtain ⟨cs,e,h⟩:=zaM h
  rw[e]
  simp only[zdy]
  exact hk _ _ h
 |callA d j args pts=>simp only[zaP,aop]at h ⊢;exact h.mono fun r σ' h'=>⟨h'.1,hk _ _ h'.2⟩
 |clr s z sz =>
  simp only[zaP,aop]at h ⊢
  split at h
  ·exact hk _ _ h
  ·refine ⟨h.1,h.2.1, ?_⟩
   have h2:=h.2.2
   split at h2
   ·exact ⟨h2.1,hk _ _ h2.2⟩
   ·exact h2.elim
  ·exact h.elim
 |calle d j args=>simp only[zaP,aop]at h ⊢;exact h.mono fun r σ' h'=>hk _ _ h'
 |calve d f args =>
  simp only[zaP,aop]at h ⊢
  split at h
  ·exact h.mono fun r σ' h'=>hk _ _ h'
  ·exact h.elim
 |mapset m k v =>
  simp only[zaP,aop]at h ⊢
  split at h
  ·split at h
   ·exact hk _ _ h
   ·exact h.elim
  ·exact h.elim
 |appz d s n z sz =>
  simp only[zaP,aop]at h ⊢
  split at h
  ·exact ⟨h.1,hk _ _ h.2⟩
  ·exact h.elim
def Sw (o:AOp) (φ φ1:AF) (σ:AS) (K:AF→AS→Prop):AF→AS→Prop:=fun φ' σ'=>(zlS o=true∨SLx (!zdL o) σ σ')∧∃ r,φ'=zcn φ o.dst r∧K (zcn φ1 o.dst r) σ'
theorem ziA {l l' ver:Nat} {cs xs:List AV} {r:Bool} {off:Nat} (hg:zax σ l=some (.cells cs r)) (h:zbL σ l' ver):zbL (zaQ σ l (.cells (ovl cs off xs) r)) l' ver:=by
 unfold zbL at h ⊢
 rw[zaf]
 by_cases e:l'=l
 ·subst e
  rw[hg]at h
  simp only[if_true,zbB]
  exact h
 ·rw[if_neg e]
  exact h
theorem zqQ {o:AOp} {K:AF→AS→Prop} (hp:plain o=o) (he:zie o=false) (h:zaP P inv w0 M N o φ1 σ K) (hr:∀ t∈o.rd,za3 φ t=za3 φ1 t) (hb:zaC φ≤mx N (zaC φ1)) :
  ∃ N2,N≤N2∧zaP P inv w0 M N2 o φ σ (Sw o φ φ1 σ K):=by
 have hfr:zaC φ≤zas N φ1 σ:=Nat.le_trans hb (by have:=zbe N φ1 σ;exact zkr this.1 this.2.1)
 have hN:N≤zas N φ1 σ:=(zbe N φ1 σ).1
 have hfe:zas (zas N φ1 σ) φ σ=zas N φ1 σ:=zl2 hfr (zbe N φ1 σ).2.2
 have hsl:∀ o,SLe σ (zaQ σ (zas N φ1 σ) o):=zh8 N φ1 σ
 cases o with
 |set d e =>
  refine ⟨N,Nat.le_refl _, ?_⟩
  simp only[zaP,aop,AOp.rd]at h hr ⊢
  rw[zqN hr]
  obtain ⟨x,hk,hd⟩:=zjG e _ h
  exact hd σ (.refl _ σ) _ ⟨.inr (.refl _ σ),x,rfl,hk⟩
 |alloc d z =>
  refine ⟨_,hN, ?_⟩
  simp only[zaP,aop]at h ⊢
  rw[hfe]
  exact ⟨(.inr ((hsl _).x _)),_,rfl,h⟩
 |box d n x =>
  refine ⟨_,hN, ?_⟩
  simp only[zaP,aop,AOp.rd]at h hr ⊢
  rw[hfe,zaX hr]
  exact ⟨h.1,h.2.1,(.inr ((hsl _).x _)),_,rfl,h.2.2⟩
 |isnil d neg x =>
  refine ⟨N,Nat.le_refl _, ?_⟩
  simp only[zaP,aop,AOp.rd]at h hr ⊢
  rw[zaX hr]
  split at h
  ·exact ⟨fun e=>⟨.inr (SLx.refl _ σ),_,rfl,h.1 e⟩,.inr (SLx.refl _ σ),_,rfl,h.2⟩
  ·exact ⟨fun e=>⟨.inr (SLx.refl _ σ),_,rfl,h.1 e⟩,.inr (SLx.refl _ σ),_,rfl,h.2⟩
  ·exact ⟨h.1,fun e=>⟨.inr (SLx.refl _ σ),_,rfl,h.2.1 e⟩,.inr (SLx.refl _ σ),_,rfl,h.2.2⟩
  ·exact h.elim
 |mks0 d sz =>
  refine ⟨N,Nat.le_refl _, ?_⟩
  simp only[zaP,aop]at h ⊢
  exact ⟨.inr (SLx.refl _ σ),_,rfl,h⟩
 |mksl d sz len z ps =>
  refine ⟨_,hN, ?_⟩
  simp only[zaP,aop,AOp.rd]at h hr ⊢
  rw[hfe,zeq _ hr]
  obtain ⟨cs,e,h⟩:=zaM h
  rw[e]
  simp only[zdy]
  cases eb:zad cs<;>rw[eb]at h
  ·exact ⟨(.inr ((hsl _).x _)),_,rfl,h⟩
  ·exact ⟨.inr (SLx.refl _ σ),_,rfl,h⟩
 |store n a x =>
  refine ⟨N,Nat.le_refl _, ?_⟩
  simp only[zaP,aop,AOp.rd,List.mem_append]at h hr ⊢
  rw[zaX fun t ht=>hr t (.inl ht),zaX fun t ht=>hr t (.inr ht)]
  split at h
  ·split at h
   ·rename_i hg
    exact ⟨h.1,h.2.1,h.2.2.1,h.2.2.2.1,(.inr ⟨fun l' ver hl=>ziA hg hl,fun e=>by simp[zdL]at e⟩),.u,rfl,h.2.2.2.2⟩
   ·exact h.elim
  ·exact h.elim
 |app d s x sz =>
  refine ⟨_,hN, ?_⟩
  simp only[zaP,aop,AOp.rd,List.mem_append]at h hr ⊢
  rw[hfe,zaX fun t ht=>hr t (.inl ht),zaX fun t ht=>hr t (.inr ht)]
  refine zcg (fun m l hk=>zcG (fun r σ' h'=>?_) hk) h
  exact ⟨h'.1,(.inr (SLe.x h'.1 _)),r,rfl,h'.2⟩
 |make d l c z sz =>
  refine ⟨_,hN, ?_⟩
  simp only[zaP,aop,AOp.rd,List.mem_append]at h hr ⊢
  rw[hfe,zaX fun t ht=>hr t (.inl ht),zaX fun t ht=>hr t (.inr ht)]
  split at h
  ·exact ⟨h.1,(.inr ((hsl _).x _)),_,rfl,h.2⟩
  ·exact h.elim
 |call d j args =>
  refine ⟨N,Nat.le_refl _, ?_⟩
  simp only[zaP,AOp.rd]at h hr ⊢
  rw[zcW hr]
  exact (h.frame hb).mono fun r σ' h'=>⟨h'.1,(.inr (SLe.x h'.1 _)),r,rfl,h'.2⟩
 |calv d f args =>
  refine ⟨N,Nat.le_refl _, ?_⟩
  simp only[zaP,AOp.rd,List.mem_append]at h hr ⊢
  rw[zaX fun t ht=>hr t (.inl ht),zcW fun t ht=>hr t (.inr ht)]
  split at h
  ·exact (h.frame hb).mono fun r σ' h'=>⟨h'.1,(.inr (SLe.x h'.1 _)),r,rfl,h'.2⟩
  ·exact h.elim
 |callp d j args =>
  refine ⟨N,Nat.le_refl _, ?_⟩
  simp only[zaP,aop,AOp.rd]at h hr ⊢
  rw[zcW hr]
  obtain ⟨r,h1,h2⟩:=h
  exact ⟨r,h1,.inr (SLx.refl _ σ),r,rfl,h2⟩
 |gal d back z =>
  refine ⟨N,Nat.le_refl _, ?_⟩
  simp only[zaP,aop]at h ⊢
  split at h
  ·rename_i hg
   exact ⟨h.1,(.inr ((zfT _ (.inr hg)).x _)),_,rfl,h.2⟩
  ·exact h.elim
 |storeA n a x pts=>simp[plain]at hp
 |bad d=>exact h.elim
 |appA d s x sz pts =>
  refine ⟨_,hN, ?_⟩
  have hpt:pts=[]:=by simpa [plain] using hp.symm
  subst hpt
  simp only[zaP,aop,AOp.rd,List.mem_append]at h hr ⊢
  rw[hfe,zaX fun t ht=>hr t (.inl ht),zaX fun t ht=>hr t (.inr ht)]
  refine zcg (fun m l hk=>⟨by cases ev φ1 s<;>rfl,zcG (fun r σ' h'=>?_) hk.2⟩) h
  exact ⟨.inl rfl,r,rfl,h'⟩
 |mksr d sz len z ps =>
  refine ⟨_,hN, ?_⟩
  simp only[zaP,aop,AOp.rd]at h hr ⊢
  rw[hfe,zeq _ hr]
  obtain ⟨cs,e,h⟩:=zaM h
  rw[e]
  simp only[zdy]
  exact ⟨(.inr ((hsl _).x _)),_,rfl,h⟩
 |callA d j args pts =>
  refine ⟨N,Nat.le_refl _, ?_⟩
  have hpt:pts=[]:=by simpa [plain] using hp.symm
  subst hpt
  simp only[zaP,aop,AOp.rd]at h hr ⊢
  rw[zcW hr]
  exact (h.frame hb).mono fun r σ' h'=>⟨trivial,.inl rfl,r,rfl,h'.2⟩
 |clr s z sz =>
  refine ⟨N,Nat.le_refl _, ?_⟩
  simp only[zaP,aop,AOp.rd]at h hr ⊢
  rw[zaX fun t ht=>hr t ht]
  split at h
  ·exact ⟨.inr (SLx.refl _ σ),.u,rfl,h⟩
  ·refine ⟨h.1,h.2.1, ?_⟩
   have h2:=h.2.2
   split at h2
   ·rename_i hg
    exact ⟨h2.1,(.inr ⟨fun l' ver hl=>ziA hg hl,fun e=>by simp[zdL]at e⟩),.u,rfl,h2.2⟩
   ·exact h2.elim
  ·exact h.elim
 |appe d s x sz=>cases he
 |calle d j args=>cases he
 |calve d f args=>cases he
 |mkmap d =>
  refine ⟨_,hN, ?_⟩
  simp only[zaP,aop]at h ⊢
  rw[hfe]
  exact ⟨(.inr ((hsl _).x _)),_,rfl,h⟩
 |mapset m k v =>
  refine ⟨N,Nat.le_refl _, ?_⟩
  simp only[zaP,aop,AOp.rd,List.mem_append]at h hr ⊢
  rw[zaX fun t ht=>hr t (.inl ht),zaX fun t ht=>hr t (.inr (.inl ht)),zaX fun t ht=>hr t (.inr (.inr ht))]
  split at h
  ·rename_i l a b _ _ _
   split at h
   ·rename_i kvs hg
    refine ⟨.inr ⟨fun l' ver hl=>?_,fun e=>by simp[zdL]at e⟩,.u,rfl,h⟩
    unfold zbL at hl ⊢
    rw[zaf]
    by_cases e:l'=l
    ·subst e;rw[hg]at hl;exact hl.elim
    ·rw[if_neg e];exact hl
   ·exact h.elim
  ·exact h.elim
 |appz d s n z sz =>
  refine ⟨_,hN, ?_⟩
  simp only[zaP,aop,AOp.rd,List.mem_append]at h hr ⊢
  rw[hfe,zaX fun t ht=>hr t (.inl ht),zaX fun t ht=>hr t (.inr ht)]
  split at h
  ·exact ⟨h.1,(.inr ((hsl _).x _)),_,rfl,h.2⟩
  ·exact h.elim
def ze2 (P:Program) (inv:Nat→Option Nat) (w0:World) (M:Nat→Prop) (N:Nat) (g:GOp) (φ:AF) (σ:AS) (K:AF→AS→Prop):Prop :=
 match g with
 |(none,o)=>zaP P inv w0 M N o φ σ K
 |(some (s,want),o)=>(∃ t,za3 φ s=.b t∧(t=want→zaP P inv w0 M N o φ σ K)∧(¬t=want→K (zcn φ o.dst .u) σ))∨(za3 φ s=.u∧K (zcn φ o.dst .u) σ)
def zmc (P:Program) (inv:Nat→Option Nat) (w0:World) (M:Nat→Prop) (N:Nat):List GOp→(AF→AS→Prop)→AF→AS→Prop
 |[],K,φ,σ=>K φ σ
 |g::r,K,φ,σ=>ze2 P inv w0 M N g φ σ (zmc P inv w0 M N r K)
theorem awpL_of:∀ {l:List GOp} {K:AF→AS→Prop} {φ:AF} {σ:AS},zbi P inv w0 M N l K φ σ→zmc P inv w0 M N l K φ σ:=by
 intro l
 induction l with
 |nil=>exact fun h=>h
 |cons g l ih =>
  intro K φ σ h
  have mono:∀ {o:AOp} {φ:AF} {σ:AS},zaP P inv w0 M N o φ σ (zbi P inv w0 M N l K)→zaP P inv w0 M N o φ σ (zmc P inv w0 M N l K):=by
   intro o φ σ h
   exact zh2 (fun _ _ h=>ih h) h
  obtain ⟨g,o⟩:=g
  cases g with
  |none=>exact mono h
  |some sw =>
   obtain ⟨s,want⟩:=sw
   cases want<;>simp only[zbi]at h<;>split at h
   all_goals first|exact h.elim|skip
   ·rename_i t et
    refine .inl ⟨t,et,fun e=>?_,fun e=>?_⟩
    ·have:=h.2 e;rw[zdO (by rw[et,e])]at this;exact mono this
    ·have e':t=true:=by simpa using e
     have:=h.1 e';rw[zdO (by rw[et,e'])]at this;exact ih this
   ·rename_i et;exact .inr ⟨et,ih h⟩
   ·rename_i t et
    refine .inl ⟨t,et,fun e=>?_,fun e=>?_⟩
    ·have:=h.1 e;rw[zdO (by rw[et,e])]at this;exact mono this
    ·have e':t=false:=by simpa using e
     have:=h.2 e';rw[zdO (by rw[et,e'])]at this;exact ih this
   ·rename_i et;exact .inr ⟨et,ih h⟩
end
end Go.Eng
