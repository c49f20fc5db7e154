/-
  A part of the engine that walks the functions' codes, and of the functions' contracts. Conditions: those that each theorem names.
-/
import Derived.Test.YtnjpcpdmnadadaaGreatK1
import Derived.Below
import Derived.Calls
import Derived.ChangeKeysEq
import Derived.DataReads
import Derived.Deep.LoopGhost
import Derived.Laws.AppendOwn
import Derived.Laws.Cells
import Derived.Laws.CopyRow
import Derived.Laws.Entries
import Derived.Laws.MakeOwn
import Derived.Laws.Rows
import Derived.Laws.StructEq
import Derived.Laws.Tables
import Derived.Lib.AppendZerosOnto
import Derived.MapKept
import Derived.Orders
import Derived.ProofKit
import Derived.ScopeJumps
import Derived.Tactics2
import Derived.WalkSpells
set_option linter.unusedSimpArgs false
set_option linter.unusedVariables false
set_option linter.unusedSectionVars false
namespace Go.Eng
open Go.RowKit
structure Knows (inv:Nat→Option Nat) (w0:World) (M:Nat→Prop) (φ:List (Nat×AV)) (σ:List (Nat×AO)) (β:Nat→Nat) (a:Act) (w:World):Prop where
 slots:∀ i,rel (ctx inv M σ β w) (za3 φ i) (a.tmps.getD i undef)
 mem:Mem inv w0 M σ β w
section
variable {P:Program} {inv:Nat→Option Nat} {w0:World} {M:Nat→Prop} {φ:AF} {σ:AS} {β:Nat→Nat} {a:Act} {w:World}
theorem cav_rel {c:Ctx} {t:TypeId}:∀ {v:Value} {x:AV},cav P t v=some x→rel c x v:=by
 intro v x h
 unfold cav at h
 split at h
 ·cases h;simp only[rel]
 ·cases h;simp only[rel]
 ·split at h
  ·rename_i vs hv
   cases h
   simp only[rel,undef]
   congr 1
   exact Array.isEmpty_iff.1 hv
  ·cases h
 ·split at h<;>(cases h;simp only[rel];exact ⟨_,rfl⟩)
 ·cases h;simp only[rel]
 ·cases h;simp only[rel]
 ·cases h;simp only[rel]
 ·cases h;simp only[rel]
 ·cases h
theorem zam (hs:Knows inv w0 M φ σ β a w) {t:TypeId} {x:Operand} {d:Opd} (h:zcM P inv t x=some d):rel (ctx inv M σ β w) (ev φ d) (a.eval x):=by
 unfold zcM at h
 split at h
 ·cases h;exact hs.slots _
 ·rename_i v
  cases hv:cav P t v with
  |none=>rw[hv]at h;cases h
  |some y=>rw[hv]at h;cases h;exact cav_rel hv
 ·rename_i f
  cases hf:inv f with
  |none=>rw[hf]at h;cases h
  |some j=>rw[hf]at h;cases h;simp only[ev,rel];exact ⟨f,#[],rfl,hf,by simp[zbz]⟩
 ·cases h
theorem zhS (hs:Knows inv w0 M φ σ β a w):∀ {l:List (TypeId×Operand)} {ds:List Opd},zkL P inv l=some ds→zbz (ctx inv M σ β w) (ds.map (ev φ)) (l.map fun p=>a.eval p.2)
 |[],_,h=>by simp only[zkL]at h;cases h;simp[zbz]
 |(t,x)::r,_,h=>by
  simp only[zkL]at h
  split at h
  ·rename_i d ds e1 e2
   cases h
   simp only[List.map_cons]
   exact zft (zam hs e1) (zhS hs e2)
  ·cases h
theorem zkc {c:Ctx}:∀ {xs:List AV} {ys:List Value},zmL xs ys=true→relCs c xs ys
 |[],[],_=>za9
 |x::xs,y::ys,h=>by
  simp only[zmL,Bool.and_eq_true]at h
  obtain ⟨h1,h2⟩:=h
  refine zcr ?_ ?_ (zkc h2)
  ·unfold zmC at h1;split at h1<;>first|rfl|cases h1
  ·unfold zmC at h1
   split at h1
   ·simp only[Bool.and_eq_true,decide_eq_true_eq]at h1;obtain ⟨rfl,rfl⟩:=h1;simp only[rel]
   ·simp only[beq_iff_eq]at h1;subst h1;simp only[rel]
   ·simp only[rel];exact ⟨_,rfl⟩
   ·simp only[rel]
   ·simp only[rel]
   ·simp only[rel]
   ·simp only[rel]
   ·cases h1
 |[],_::_,h=>by simp[zmL]at h
 |_::_,[],h=>by simp[zmL]at h
theorem zbQ {c:Ctx} {t:TypeId} {r:List (Nat×AV)} (h:zdm P t=some r):∃ i z,P.info? t=some i∧i.zero=some z∧relCs c (zcE r) z.cells.toList:=by
 unfold zdm at h
 split at h
 ·rename_i r' i e1 e2
  split at h
  ·rename_i z e3
   split at h
   ·rename_i e4
    cases h
    exact ⟨i,z,e2,e3,zkc e4⟩
   ·cases h
  ·cases h
 ·cases h
theorem zi3 {t:TypeId} {n:Nat} (h:siz P t=some n):∃ i,P.info? t=some i∧i.size=n∧P.cellsOf t=n:=by
 unfold siz at h
 cases e:P.info? t with
 |none=>rw[e]at h;cases h
 |some i=>rw[e]at h;simp only[Option.map_some,Option.some.injEq]at h;exact ⟨i,rfl,h,by simp[Program.cellsOf,e,h]⟩
theorem zcJ {t:TypeId} {n:Nat} (h:siz P t=some n) (w:World):(sizeOf t).run P w=.ok n w:=by
 obtain ⟨i,hi,_,hc⟩:=zi3 h
 rw[run_sizeOf w hi,hc]
theorem zhj {t:TypeId} {l:Option Nat} (h:lay P t=some l) (w:World):(isAgg t).run P w=.ok l.isSome w:=by
 unfold lay at h
 unfold isAgg
 split at h
 ·rename_i e
  cases e1:siz P t with
  |none=>rw[e1]at h;cases h
  |some n=>rw[e1]at h;cases h;simp[run_underlying e]
 ·rename_i e
  cases e1:siz P t with
  |none=>rw[e1]at h;cases h
  |some n=>rw[e1]at h;cases h;simp[run_underlying e]
 ·rename_i d h1 h2 e
  cases h
  rw[Sem.run_bind,run_underlying e]
  simp only[Result.andThen_ok]
  cases d<;>first|rfl|(exact absurd rfl (h1 _))|(exact absurd rfl (h2 _ _))
 ·cases h
theorem zlN {t:TypeId} {n:Nat} (h:lay P t=some (some n)):siz P t=some n:=by
 unfold lay at h
 split at h
 ·cases e1:siz P t with
  |none=>rw[e1]at h;cases h
  |some n=>rw[e1]at h;simpa using h
 ·cases e1:siz P t with
  |none=>rw[e1]at h;cases h
  |some n=>rw[e1]at h;simpa using h
 ·cases h
 ·cases h
theorem zeJ {t:TypeId} {l:Option Nat} (h:lay P t=some l) (w:World) (ad:Addr) (ys:List Value) (hn:∀ n,l=some n→ys.length=n) (h1:l=none→ys.length=1) (hc:∀ j u,ys[j]?=some u→w.cell? (ad.add j)=some u) :
  (loadVar t ad).run P w=.ok (if l.isSome then .agg ys.toArray else ys.getD 0 undef) w:=by
 unfold loadVar
 rw[Sem.run_bind,zhj h]
 simp only[Result.andThen_ok]
 cases l with
 |none =>
  have:=h1 rfl
  match ys,this with
  |[y],_ =>
   have hc0:=hc 0 y rfl
   have e0:ad.add 0=ad:=by simp[Addr.add]
   rw[e0]at hc0
   simp[hc0]
 |some n =>
  have e:=hn n rfl
  have hr:=run_loadCells_list (P:=P) w ad ys hc
  simp only[Option.isSome_some,if_true,Sem.run_bind,zcJ (zlN h),Result.andThen_ok]
  rw[e]at hr
  rw[hr]
  simp
theorem ziw {l ver:Nat} (h:zbL σ l ver):∃ p,zah β w σ l=some p∧p.len=ver:=by
 unfold zbL at h
 unfold zah
 split at h
 ·rename_i cs r e
  rw[e]
  cases r with
  |true=>exact ⟨_,rfl,h⟩
  |false=>exact ⟨_,rfl,h⟩
 ·cases h
theorem zc9 {l ver off:Nat} {x:Value} (h:zbL σ l ver) (hr:rel (ctx inv M σ β w) (.ptr l ver off) x):∃ p,zah β w σ l=some p∧p.len=ver∧x=.pointer (some ⟨p.block,off,none⟩):=by
 obtain ⟨p,hp,hv⟩:=ziw (β:=β) (w:=w) h
 simp only[rel]at hr
 exact ⟨p,hp,hv,(hr.2 p hp).2 hv.symm⟩
theorem zcI {l ver off n sz:Nat} {x:Value} (h:zbL σ l ver) (hr:rel (ctx inv M σ β w) (.sm l ver off n sz) x) :
  ∃ p ad cap,zah β w σ l=some p∧p.len=ver∧off+n*sz≤ver∧x=.slice ad n cap∧n≤cap∧(if p.real then (cap=0∨ad=some ⟨p.block,off,none⟩)∧off+cap*sz≤p.size else cap=0):=by
 obtain ⟨p,hp,hv⟩:=ziw (β:=β) (w:=w) h
 simp only[rel]at hr
 obtain ⟨h1,ad,cap,h2,h3,h4⟩:=(hr.2 p hp).2 hv.symm
 exact ⟨p,ad,cap,hp,hv,h1,h2,h3,h4⟩
theorem zdu {l ver off:Nat} {p:Place} (hp:zah β w σ l=some p) (hv:p.len=ver):rel (ctx inv M σ β w) (.ptr l ver off) (.pointer (some ⟨p.block,off,none⟩)):=by
 simp only[rel]
 refine ⟨rfl,fun p' hp'=>?_⟩
 have:p'=p:=by have:=(show zah β w σ l=some p' from hp').symm.trans hp;simpa using this
 subst this
 exact ⟨by omega,fun _=>rfl⟩
theorem zch (b off k:Nat):(⟨b,off,none⟩:Addr).add k=⟨b,off+k,none⟩:=by unfold Addr.add;split<;>simp_all
theorem Mem.cell (hm:Mem inv w0 M σ β w) {l:Nat} {cs:List AV} (h:zax σ l=some (.cells cs true)) :
  ∃ ys:List Value,ys.length=cs.length∧relCs (ctx inv M σ β w) cs ys∧∀ j u,ys[j]?=some u→w.cell? ⟨β l,j,none⟩=some u:=by
 obtain ⟨xs,ty,e1,e2,e3⟩:=hm.cells l cs h
 refine ⟨xs.toList.take cs.length,(zav e3).symm,e3,fun j u hu=>?_⟩
 rw[List.getElem?_take]at hu
 split at hu
 ·simp only[World.cell?,e1,Option.isSome_none,Bool.false_eq_true,if_false]
  simpa using hu
 ·cases hu
theorem zh4 {c:Ctx} {cs:List AV} {off:Nat} {l:Option Nat} {v:AV} {ys:List Value} (h:zbY cs off l=some v) (hr:relCs c cs ys) :
  ∃ zs:List Value,(∀ n,l=some n→zs.length=n)∧(l=none→zs.length=1)∧(∀ j u,zs[j]?=some u→ys[off+j]?=some u)∧rel c v (if l.isSome then .agg zs.toArray else zs.getD 0 undef):=by
 cases l with
 |none =>
  simp only[zbY]at h
  obtain ⟨y,hy,_,hr⟩:=zhr hr h
  refine ⟨[y],by simp,by simp,fun j u hu=>?_,by simpa using hr⟩
  cases j with
  |zero=>simp at hu;subst hu;exact hy
  |succ j=>simp at hu
 |some n =>
  simp only[zbY]at h
  split at h
  ·rename_i hle
   obtain ⟨_,hle⟩:=hle
   cases h
   have hl:=zav hr
   refine ⟨(ys.drop off).take n,fun m e=>?_,by simp,fun j u hu=>?_, ?_⟩
   ·cases e;rw[List.length_take,List.length_drop];omega
   ·rw[List.getElem?_take]at hu
    split at hu
    ·simpa using hu
    ·cases hu
   ·simp only[Option.isSome_some,if_true,rel]
    exact ⟨_,rfl,by simpa [seg] using zbT n (zbU off hr)⟩
  ·cases h
theorem zmj {cs:List AV} {off:Nat} {l:Option Nat} {v:AV} (h:zbY cs off l=some v) (hb:zad cs=true):v.bare=true:=by
 cases l with
 |none=>exact zkU hb h
 |some n =>
  simp only[zbY]at h
  split at h
  ·cases h;simp only[AV.bare,seg];exact zgl _ _ (zeE _ _ hb)
  ·cases h
theorem zh3 (hs:Knows inv w0 M φ σ β a w) {t:TypeId} {l:Option Nat} (ht:lay P t=some l) {x v:AV} {y:Value} (hx:rel (ctx inv M σ β w) x y) (h:zc2 σ l x=some v) :
  ∃ u,rel (ctx inv M σ β w) v u∧(Instr.loadAt t y).run P w=.ok u w:=by
 unfold zc2 at h
 split at h
 ·rename_i lo ver off
  split at h
  ·rename_i cs rl e
   split at h
   ·rename_i hv
    have hrl:rl=true:=by
     cases rl with
     |true=>rfl
     |false =>
      have:=hs.mem.ghost lo cs e
      subst this
      cases l with
      |none=>simp[zbY]at h
      |some m=>simp only[zbY]at h;split at h<;>first|(rename_i hh;simp at hh;omega)|cases h
    subst hrl
    have hlv:zbL σ lo ver:=by unfold zbL;rw[e];exact hv
    obtain ⟨p,hp,_,rfl⟩:=zc9 hlv hx
    obtain ⟨ys,hyl,hyr,hyc⟩:=hs.mem.cell e
    obtain ⟨zs,z1,z2,z3,z4⟩:=zh4 h hyr
    have hpb:p.block=β lo:=by unfold zah at hp;rw[e]at hp;cases hp;rfl
    refine ⟨_,z4, ?_⟩
    simp only[Instr.loadAt,Instr.sureAddr,Sem.run_bind,Sem.run_pure,Result.andThen_ok]
    exact zeJ ht w _ zs z1 z2 (fun j u hu=>by rw[zch,hpb];exact hyc _ _ (z3 j u hu))
   ·cases h
  ·cases h
 ·rename_i sz es i k
  split at h
  ·rename_i r e
   simp only[rel]at hx
   obtain ⟨ad,rfl,_,_,hrows⟩:=hx
   obtain ⟨_,hrow⟩:=zhl hrows e
   obtain ⟨hbare,ys,hyr,hyc⟩:=zeS hrow
   obtain ⟨zs,z1,z2,z3,z4⟩:=zh4 h hyr
   refine ⟨_,zfr (S:=(ctx inv M σ β w).S) v _ (zmj h hbare) z4, ?_⟩
   ·simp only[Instr.loadAt,Instr.sureAddr,Sem.run_bind,Sem.run_pure,Result.andThen_ok]
    exact zeJ ht w _ zs z1 z2 (fun j u hu=>by
     rw[zh6]
     have:=hyc _ _ (z3 j u hu)
     rw[show i*sz+k+j=0+i*sz+(k+j) by omega];exact this)
  ·cases h
 ·cases h
theorem zbR {t:TypeId} (h:lay P t=some none) (w:World) (cs:Array Value) (off:Nat) (v:Value) (hv:cs[off]?=some v):(part t cs off).run P w=.ok v w:=by
 unfold part
 rw[Sem.run_bind,zhj h]
 simp[hv]
theorem zfm {t:TypeId} {n:Nat} (h:lay P t=some (some n)) (w:World) (cs:Array Value) (off:Nat):(part t cs off).run P w=.ok (.agg (cs.extract off (off+n))) w:=by
 unfold part
 rw[Sem.run_bind,zhj h]
 simp[zcJ (zlN h)]
theorem zna {ks:List Bool} {xs ys:List AV} {t:Bool} (h:eqC (true::ks) xs ys=some t):∃ k a b xs' ys' t',xs=.i k a::xs'∧ys=.i k b::ys'∧eqC ks xs' ys'=some t'∧t=(decide (a=b)&&t'):=by
 unfold eqC at h
 split at h
 ·simp_all
 ·rename_i ks' k a xs' k' b ys' e
  cases e
  split at h
  ·rename_i ek
   subst ek
   obtain ⟨t1,h1,h2⟩:=Option.map_eq_some_iff.1 h
   exact ⟨k,a,b,xs',ys',t1,rfl,rfl,h1,h2.symm⟩
  ·cases h
 ·rename_i e;cases e
 ·cases h
theorem zqv {ks:List Bool} {xs ys:List AV} {t:Bool} (h:eqC (false::ks) xs ys=some t):∃ a b xs' ys' t',xs=.b a::xs'∧ys=.b b::ys'∧eqC ks xs' ys'=some t'∧t=(decide (a=b)&&t'):=by
 unfold eqC at h
 split at h
 ·simp_all
 ·rename_i e;cases e
 ·rename_i ks' a xs' b ys' e
  cases e
  obtain ⟨t1,h1,h2⟩:=Option.map_eq_some_iff.1 h
  exact ⟨a,b,xs',ys',t1,rfl,rfl,h1,h2.symm⟩
 ·cases h
theorem zkH {c:Ctx}:∀ {fs:List Field} {k:Nat} {ks:List Bool} {xs ys:List AV} {us vs:List Value} {t:Bool} (zs ws:Array Value) (d:Nat),zcw P k fs=some ks→eqC ks xs ys=some t→relCs c xs us→relCs c ys vs →
  (∀ j,zs[k+j]?=us[j]?)→(∀ j,ws[k+j]?=vs[j]?)→(Op.eqFields (d+1) zs ws fs).run P w=.ok t w
 |[],k,ks,xs,ys,us,vs,t,zs,ws,d,hf,he,_,_,_,_=>by
  simp only[zcw,Option.some.injEq]at hf
  subst hf
  cases xs<;>cases ys<;>simp[eqC]at he
  subst he
  simp[Op.eqFields]
 |f::fs,k,ks,xs,ys,us,vs,t,zs,ws,d,hf,he,hx,hy,hz,hw=>by
  simp only[zcw]at hf
  split at hf
  ·rename_i hn
   obtain ⟨hname,hoff⟩:=hn
   have step:∀ (x y:AV) (xs' ys':List AV) (ks':List Bool) (t0 t1:Bool),xs=x::xs'→ys=y::ys'→zcw P (k+1) fs=some ks'→eqC ks' xs' ys'=some t1→t=(t0&&t1)→lay P f.type=some none →
     (∀ u v,rel c x u→rel c y v→(Op.equalIn (d+1) f.type u v).run P w=.ok t0 w)→(Op.eqFields (d+1) zs ws (f::fs)).run P w=.ok t w:=by
    intro x y xs' ys' ks' t0 t1 e1 e2 e3 e4 e5 e6 e7
    subst e1 e2
    simp only[relCs]at hx hy
    obtain ⟨u,us',rfl,_,rx,hx⟩:=hx
    obtain ⟨v,vs',rfl,_,ry,hy⟩:=hy
    have hz0:zs[k]?=some u:=by simpa using hz 0
    have hw0:ws[k]?=some v:=by simpa using hw 0
    have hz':∀ j,zs[k+1+j]?=us'[j]?:=fun j=>by have:=hz (j+1);rw[show k+1+j=k+(j+1) by omega];simpa using this
    have hw':∀ j,ws[k+1+j]?=vs'[j]?:=fun j=>by have:=hw (j+1);rw[show k+1+j=k+(j+1) by omega];simpa using this
    simp only[Op.eqFields,ne_eq,hname,not_false_eq_true,if_true,Sem.run_bind,hoff,zbR e6 w zs k u hz0,zbR e6 w ws k v hw0,Result.andThen_ok,e7 u v rx ry]
    cases t0 with
    |false=>simp[e5]
    |true =>
     simp only[Bool.not_true,Bool.false_eq_true,if_false]
     rw[e5,Bool.true_and]
     exact zkH zs ws d e3 e4 hx hy hz' hw'
   split at hf
   ·rename_i kd ks' e1 e2
    simp only[Option.some.injEq]at hf
    subst hf
    obtain ⟨k1,a1,b1,xs',ys',t1,e3,e4,e5,e6⟩:=zna he
    refine step _ _ _ _ _ _ t1 e3 e4 e2 e5 e6 (by simp[lay,e1]) fun u v ru rv=>?_
    simp only[rel]at ru rv
    subst ru rv
    rw[run_equalIn_int w d f.type k1 kd a1 b1 e1];rfl
   ·rename_i ks' e1 e2
    simp only[Option.some.injEq]at hf
    subst hf
    obtain ⟨a1,b1,xs',ys',t1,e3,e4,e5,e6⟩:=zqv he
    refine step _ _ _ _ _ _ t1 e3 e4 e2 e5 e6 (by simp[lay,e1]) fun u v ru rv=>?_
    simp only[rel]at ru rv
    subst ru rv
    rw[run_equalIn_bool' w d f.type a1 b1 e1];congr 1
   ·cases hf
  ·cases hf
end
end Go.Eng
namespace Go.Eng
open Go.RowKit
section
variable {P:Program} {inv:Nat→Option Nat} {w0:World} {M:Nat→Prop} {φ:AF} {σ:AS} {β:Nat→Nat} {a:Act} {w:World}
theorem zcd (op:BinOp) (t:TypeId) (ox oy:Operand) (u v:Value) (h1:∀ xs,u≠.agg xs) (h2:u≠.nilIface):(eqGuard op t ox oy u v).run P w=.ok () w:=by
 unfold eqGuard
 cases u<;>cases op<;>first|rfl|(exact absurd rfl (h1 _))|(exact absurd rfl h2)
theorem ety_bool {t:TypeId} (h:ety P t=some .bool):P.underlying t=some .bool:=by
 unfold ety at h
 split at h<;>first|(rename_i e;exact e)|(simp at h;done)|(split at h<;>first|(simp at h;done)|(split at h<;>simp at h))
theorem zjE {t:TypeId} (h:ety P t=some .ptr):∃ e,P.underlying t=some (.pointer e):=by
 unfold ety at h
 split at h<;>first|(rename_i k e;exact ⟨k,e⟩)|(simp at h;done)|(split at h<;>first|(simp at h;done)|(split at h<;>simp at h))
theorem zqt {t:TypeId} (h:ety P t=some .fn):∃ p r v,P.underlying t=some (.func p r v):=by
 unfold ety at h
 split at h<;>first|(rename_i p r v e;exact ⟨p,r,v,e⟩)|(simp at h;done)|(split at h<;>first|(simp at h;done)|(split at h<;>simp at h))
theorem ety_flat {t:TypeId} {ks:List Bool} (h:ety P t=some (.flat ks)):∃ fs:Array Field,P.underlying t=some (.struct fs)∧P.stoodInHeld t=false∧P.eqGuardType P.depth t=false∧zcw P 0 fs.toList=some ks:=by
 unfold ety at h
 split at h<;>first|(simp at h;done)|(split at h<;>first|(simp at h;done)|(split at h<;>simp at h;done))|skip
 rename_i fs e
 split at h
 ·simp at h
 ·rename_i h2
  simp only[Bool.or_eq_true,not_or,Bool.not_eq_true]at h2
  refine ⟨fs,e,h2.1,h2.2, ?_⟩
  obtain ⟨ks',h3,h4⟩:=Option.map_eq_some_iff.1 h
  cases h4
  exact h3
theorem ety_arr {t:TypeId} {m:Nat} (h:ety P t=some (.arr m)):∃ (e:TypeId) (k:IntKind) (i:TypeInfo),P.underlying t=some (.array m e)∧P.underlying e=some (.int k)∧P.info? e=some i∧P.cellsOf e=1∧P.eqGuardType P.depth t=false:=by
 unfold ety at h
 split at h<;>first|(simp at h;done)|skip
 rename_i m' e e1
 split at h
 ·rename_i k e2
  split at h
  ·rename_i hc
   simp only[Option.some.injEq,ETy.arr.injEq]at h
   subst h
   obtain ⟨i,hi,_,hcell⟩:=zi3 hc.2
   exact ⟨e,k,i,e1,e2,hi,hcell,hc.1⟩
  ·simp at h
 ·simp at h
theorem zfI {c:Ctx} {e:TypeId} {k:IntKind} (he:P.underlying e=some (.int k)) (d:Nat) (zs ws:Array Value):∀ (m o:Nat) {xs ys:List AV} {us vs:List Value} {t:Bool},eqC (List.replicate m true) xs ys=some t→relCs c xs us→relCs c ys vs →
  (∀ j,zs[o+j]?=us[j]?)→(∀ j,ws[o+j]?=vs[j]?)→(Op.eqItems (d+1) e 1 zs ws (List.range' o m)).run P w=.ok t w
 |0,o,xs,ys,us,vs,t,h,_,_,_,_=>by
  cases xs<;>cases ys<;>simp[eqC]at h
  subst h
  simp[Op.eqItems]
 |m+1,o,xs,ys,us,vs,t,h,hx,hy,hz,hw=>by
  rw[List.replicate_succ]at h
  obtain ⟨k1,a1,b1,xs',ys',t1,rfl,rfl,e5,rfl⟩:=zna h
  simp only[relCs]at hx hy
  obtain ⟨u,us',rfl,_,rx,hx⟩:=hx
  obtain ⟨v,vs',rfl,_,ry,hy⟩:=hy
  simp only[rel]at rx ry
  subst rx ry
  have hz0:zs[o]?=some (.int k1 a1):=by simpa using hz 0
  have hw0:ws[o]?=some (.int k1 b1):=by simpa using hw 0
  have hz':∀ j,zs[o+1+j]?=us'[j]?:=fun j=>by have:=hz (j+1);rw[show o+1+j=o+(j+1) by omega];simpa using this
  have hw':∀ j,ws[o+1+j]?=vs'[j]?:=fun j=>by have:=hw (j+1);rw[show o+1+j=o+(j+1) by omega];simpa using this
  have hl:lay P e=some none:=by simp[lay,he]
  have ih:=zfI he d zs ws m (o+1) e5 hx hy hz' hw'
  rw[List.range'_succ]
  simp only[Op.eqItems,Sem.run_bind,Nat.mul_one,zbR hl w zs o _ hz0,zbR hl w ws o _ hw0,Result.andThen_ok,run_equalIn_int w d e k1 k a1 b1 he]
  by_cases hab:a1=b1
  ·subst hab;simp[ih]
  ·simp[hab]
theorem zdt {op:BinOp} {t:TypeId} {u v:Value} {b:Bool} (hop:op=.eql∨op=.neq) (hi:∀ k n,u≠.int k n) (hf:∀ k n,u≠.float k n) (hcx:∀ k n m,u≠.complex k n m) (hs:∀ s,u≠.string s)
  (hr:(Op.equal t u v).run P w=.ok b w):(binOp op t u v).run P w=.ok (.bool (if op=.eql then b else !b)) w:=by
 rcases hop with rfl|rfl
 ·cases u<;>first|(exact absurd rfl (hi _ _))|(exact absurd rfl (hf _ _))|(exact absurd rfl (hcx _ _ _))|(exact absurd rfl (hs _))|(simp[binOp,hr])
 ·cases u<;>first|(exact absurd rfl (hi _ _))|(exact absurd rfl (hf _ _))|(exact absurd rfl (hcx _ _ _))|(exact absurd rfl (hs _))|(simp[binOp,hr])
theorem zmi {c:Ctx} {op:BinOp} {k:IntKind} {a b:Int} {K:AV→Prop} (t:TypeId) (h:zoi op k a b K):∃ z r,K z∧rel c z r∧(binOp op t (.int k a) (.int k b)).run P w=.ok r w:=by
 cases op<;>simp only[zoi]at h<;>first
  |(exact h.elim)
  |(refine ⟨_,_,h.2,by simp only[rel];rfl, ?_⟩;simp[binOp,Op.intDiv,h.1];done)
  |(refine ⟨_,_,h,by simp only[rel];rfl, ?_⟩;simp[binOp,Op.intArith,Op.intCmp];done)
  |(refine ⟨_,_,h,by simp only[rel];rfl, ?_⟩;simp only[binOp,Op.intCmp,Sem.run_pure,ne_eq,not_true_eq_false,if_false];rfl)
theorem zgH (d:Nat) {t e:TypeId} (h:P.underlying t=some (.pointer e)) (ad:Addr):(Op.equalIn (d+1) t (.pointer (some ad)) (.pointer none)).run P w=.ok false w:=by
 simp only[Op.equalIn,Sem.run_bind,run_underlying h,Result.andThen_ok,Sem.run_pure]
theorem zfG {t e:TypeId} (h:P.underlying t=some (.pointer e)) (ad:Addr):(Op.equal t (.pointer (some ad)) (.pointer none)).run P w=.ok false w:=zgH 9999 h ad
theorem zgI (d:Nat) {t e:TypeId} (h:P.underlying t=some (.pointer e)) (ad:Option Addr):(Op.equalIn (d+1) t (.pointer none) (.pointer ad)).run P w=.ok ad.isNone w:=by
 simp only[Op.equalIn,Sem.run_bind,run_underlying h,Result.andThen_ok,Sem.run_pure]
theorem zfH {t e:TypeId} (h:P.underlying t=some (.pointer e)) (ad:Option Addr):(Op.equal t (.pointer none) (.pointer ad)).run P w=.ok ad.isNone w:=zgI 9999 h ad
theorem zgJ (d:Nat) {t:TypeId} {p r:Array TypeId} {vv:Bool} (h:P.underlying t=some (.func p r vv)):(Op.equalIn (d+1) t .nilFunc .nilFunc).run P w=.ok true w:=by
 simp only[Op.equalIn,Sem.run_bind,run_underlying h,Result.andThen_ok,Sem.run_pure]
theorem zjF {t:TypeId} {p r:Array TypeId} {vv:Bool} (h:P.underlying t=some (.func p r vv)):(Op.equal t .nilFunc .nilFunc).run P w=.ok true w:=zgJ 9999 h
theorem zhN (d:Nat) {t:TypeId} {p r:Array TypeId} {vv:Bool} (h:P.underlying t=some (.func p r vv)) (g:Fn) (xs ys:Array Value):(Op.equalIn (d+1) t .nilFunc (.func g xs ys)).run P w=.ok false w:=by
 simp only[Op.equalIn,Sem.run_bind,run_underlying h,Result.andThen_ok,Sem.run_pure]
theorem zkF {t:TypeId} {p r:Array TypeId} {vv:Bool} (h:P.underlying t=some (.func p r vv)) (g:Fn) (xs ys:Array Value):(Op.equal t .nilFunc (.func g xs ys)).run P w=.ok false w:=zhN 9999 h g xs ys
theorem zhO (d:Nat) {t:TypeId} {p r:Array TypeId} {vv:Bool} (h:P.underlying t=some (.func p r vv)) (g:Fn) (xs ys:Array Value):(Op.equalIn (d+1) t (.func g xs ys) .nilFunc).run P w=.ok false w:=by
 simp only[Op.equalIn,Sem.run_bind,run_underlying h,Result.andThen_ok,Sem.run_pure]
theorem zkG {t:TypeId} {p r:Array TypeId} {vv:Bool} (h:P.underlying t=some (.func p r vv)) (g:Fn) (xs ys:Array Value):(Op.equal t (.func g xs ys) .nilFunc).run P w=.ok false w:=zhO 9999 h g xs ys
theorem zol {t:TypeId} {ty:ETy} {op:BinOp} {ox oy:Operand} {x y:AV} {u v:Value} {K:AV→Prop} (hty:ety P t=some ty) (hx:rel (ctx inv M σ β w) x u) (hy:rel (ctx inv M σ β w) y v) (h:zk6 σ op ty x y K) :
  ∃ z r,K z∧rel (ctx inv M σ β w) z r∧(do eqGuard op t ox oy u v;binOp op t u v:Sem Value).run P w=.ok r w:=by
 unfold zk6 at h
 split at h
 ·-- numbers
  rename_i k a k' b
  simp only[rel]at hx hy
  subst hx hy
  have hg:=zcd (P:=P) (w:=w) op t ox oy (.int k a) (.int k' b) (by simp) (by simp)
  split at h
  ·obtain ⟨hb0,h⟩:=h
   refine ⟨_,_,h,by simp only[rel];rfl, ?_⟩
   have h0:¬b<0:=by omega
   simp only[Sem.run_bind,hg,Result.andThen_ok,binOp,Op.shift,if_neg h0,Sem.run_pure]
  ·exact h.elim
  ·obtain ⟨rfl,h⟩:=h
   obtain ⟨z,r,h1,h2,h3⟩:=zmi (c:=ctx inv M σ β w) (P:=P) (w:=w) t h
   exact ⟨z,r,h1,h2,by simp only[Sem.run_bind,hg,Result.andThen_ok,h3]⟩
 ·-- truth values
  rename_i a b
  simp only[rel]at hx hy
  subst hx hy
  obtain ⟨rfl,h⟩:=h
  have hg:=zcd (P:=P) (w:=w) op t ox oy (.bool a) (.bool b) (by simp) (by simp)
  have he:(Op.equal t (.bool a) (.bool b)).run P w=.ok (a == b) w:=run_equalIn_bool' w 9999 t a b (ety_bool hty)
  have hd:(a == b)=decide (a=b):=by cases a<;>cases b<;>rfl
  split at h
  ·refine ⟨_,_,h,by simp only[rel];rfl, ?_⟩
   simp only[Sem.run_bind,hg,Result.andThen_ok,zdt (.inl rfl) (by simp) (by simp) (by simp) (by simp) he,hd,if_true]
  ·refine ⟨_,_,h,by simp only[rel];rfl, ?_⟩
   simp only[Sem.run_bind,hg,Result.andThen_ok,zdt (.inr rfl) (by simp) (by simp) (by simp) (by simp) he,hd]
   rfl
  ·exact h.elim
 ·-- structs
  rename_i xs ys
  simp only[rel]at hx hy
  obtain ⟨zs,rfl,hx⟩:=hx
  obtain ⟨ws,rfl,hy⟩:=hy
  split at h
  ·rename_i ks
   obtain ⟨fs,e1,e2,e3,e4⟩:=ety_flat hty
   obtain ⟨tt,et,h⟩:=zaM h
   have hg:=run_eqGuard_agg (P:=P) w op t ox oy zs ws e3
   have hfo:P.fieldsOf t=fs:=by simp[Program.fieldsOf,e1]
   have he:(Op.equalIn 10000 t (.agg zs) (.agg ws)).run P w=.ok tt w:=by
    rw[run_equalIn_agg w 9999 t zs ws (by rw[hfo];exact e1) e2,hfo]
    exact zkH zs ws 9998 e4 et hx hy (by simp) (by simp)
   split at h
   ·refine ⟨_,_,h,by simp only[rel];rfl, ?_⟩
    simp only[Sem.run_bind,hg,Result.andThen_ok,run_eql_struct,he]
   ·refine ⟨_,_,h,by simp only[rel];rfl, ?_⟩
    simp only[Sem.run_bind,hg,Result.andThen_ok,run_neq_struct,he]
   ·exact h.elim
  ·rename_i m
   obtain ⟨e,k,i,e1,e2,e3,e4,e5⟩:=ety_arr hty
   obtain ⟨tt,et,h⟩:=zaM h
   have hg:=run_eqGuard_agg (P:=P) w op t ox oy zs ws e5
   have he:(Op.equalIn 10000 t (.agg zs) (.agg ws)).run P w=.ok tt w:=by
    rw[run_equalIn_array w 9999 zs ws e1 e3,e4,List.range_eq_range']
    exact zfI e2 9998 zs ws m 0 et hx hy (by simp) (by simp)
   split at h
   ·refine ⟨_,_,h,by simp only[rel];rfl, ?_⟩
    simp only[Sem.run_bind,hg,Result.andThen_ok,run_eql_struct,he]
   ·refine ⟨_,_,h,by simp only[rel];rfl, ?_⟩
    simp only[Sem.run_bind,hg,Result.andThen_ok,run_neq_struct,he]
   ·exact h.elim
  ·exact h.elim
 ·-- a pointer and nil
  rename_i l ver off
  obtain ⟨rfl,hlv,h⟩:=h
  obtain ⟨p,_,_,rfl⟩:=zc9 hlv hx
  simp only[rel]at hy
  subst hy
  obtain ⟨et,e3⟩:=zjE hty
  have hg:=zcd (P:=P) (w:=w) op t ox oy (.pointer (some ⟨p.block,off,none⟩)) (.pointer none) (by simp) (by simp)
  have he:=zfG (w:=w) e3 ⟨p.block,off,none⟩
  split at h
  ·refine ⟨_,_,h,by simp only[rel];rfl, ?_⟩
   simp only[Sem.run_bind,hg,Result.andThen_ok,zdt (.inl rfl) (by simp) (by simp) (by simp) (by simp) he,if_true]
  ·refine ⟨_,_,h,by simp only[rel];rfl, ?_⟩
   simp only[Sem.run_bind,hg,Result.andThen_ok,zdt (.inr rfl) (by simp) (by simp) (by simp) (by simp) he]
   rfl
  ·exact h.elim
 ·-- nil
  obtain ⟨tt,et,h⟩:=zaM h
  have key:(∀ xs,u≠.agg xs)∧u≠.nilIface∧(∀ k n,u≠.int k n)∧(∀ k n,u≠.float k n)∧(∀ k n m,u≠.complex k n m)∧(∀ s,u≠.string s)∧(Op.equal t u v).run P w=.ok tt w:=by
   unfold isNil at et
   split at et<;>first|(cases et;done)|skip
   all_goals (simp only[Option.some.injEq]at et;subst et;simp only[rel]at hx hy)
   ·subst hx hy
    obtain ⟨et,e3⟩:=zjE hty
    refine ⟨by simp,by simp,by simp,by simp,by simp,by simp, ?_⟩
    exact zfH e3 none
   ·subst hx
    obtain ⟨ad,rfl,_⟩:=hy
    obtain ⟨et,e3⟩:=zjE hty
    refine ⟨by simp,by simp,by simp,by simp,by simp,by simp, ?_⟩
    exact zfH e3 _
   ·subst hy
    obtain ⟨ad,rfl,_⟩:=hx
    obtain ⟨et,e3⟩:=zjE hty
    refine ⟨by simp,by simp,by simp,by simp,by simp,by simp, ?_⟩
    exact zfG e3 _
   ·subst hx hy
    obtain ⟨p,r,vv,e3⟩:=zqt hty
    refine ⟨by simp,by simp,by simp,by simp,by simp,by simp, ?_⟩
    exact zjF e3
   ·subst hx
    obtain ⟨g,xs,rfl,_⟩:=hy
    obtain ⟨p,r,vv,e3⟩:=zqt hty
    refine ⟨by simp,by simp,by simp,by simp,by simp,by simp, ?_⟩
    exact zkF e3 _ _ _
   ·subst hy
    obtain ⟨g,xs,rfl,_⟩:=hx
    obtain ⟨p,r,vv,e3⟩:=zqt hty
    refine ⟨by simp,by simp,by simp,by simp,by simp,by simp, ?_⟩
    exact zkG e3 _ _ _
  obtain ⟨k1,k2,k3,k4,k5,k6,he⟩:=key
  have hg:=zcd (P:=P) (w:=w) op t ox oy u v k1 k2
  split at h
  ·refine ⟨_,_,h,by simp only[rel];rfl, ?_⟩
   simp only[Sem.run_bind,hg,Result.andThen_ok,zdt (.inl rfl) k3 k4 k5 k6 he,if_true]
  ·refine ⟨_,_,h,by simp only[rel];rfl, ?_⟩
   simp only[Sem.run_bind,hg,Result.andThen_ok,zdt (.inr rfl) k3 k4 k5 k6 he]
   rfl
  ·exact h.elim
theorem zgr {c:Ctx} {sz:Nat} {ad:Addr}:∀ {k:Nat} (n:Nat) {es:List (List AV)},zaE c sz ad k es→zaE c sz ad k (es.take n)
 |_,0,_,_=>by simp[zaE]
 |_,_+1,[],_=>by simp[zaE]
 |k,n+1,r::rs,h=>by
  simp only[zaE]at h
  simp only[List.take_succ_cons,zaE]
  exact ⟨h.1,h.2.1,zgr n h.2.2⟩
theorem zgt {c:Ctx} {sz:Nat} {ad:Addr}:∀ {k:Nat} (n:Nat) {es:List (List AV)},zaE c sz ad k es→zaE c sz ad (k+n*sz) (es.drop n)
 |_,0,_,h=>by simpa using h
 |_,_+1,[],_=>by simp[zaE]
 |k,n+1,r::rs,h=>by
  simp only[zaE]at h
  have:=zgt n h.2.2
  rw[show k+(n+1)*sz=k+sz+n*sz by rw[Nat.add_mul];omega]
  simpa using this
theorem zgu {c:Ctx} {ad:Addr} (o:Nat):∀ {k:Nat} {r:List AV},zbt c ad (o+k) r→zbt c (ad.add o) k r
 |_,[],_=>by simp only[zbt]
 |k,x::xs,h=>by
  simp only[zbt]at h ⊢
  refine ⟨by rw[zh6];exact h.1,zgu o ?_⟩
  rw[show o+(k+1)=o+k+1 by omega];exact h.2
theorem zdJ {c:Ctx} {sz:Nat} {ad:Addr} (o:Nat):∀ {k:Nat} {es:List (List AV)},zaE c sz ad (o+k) es→zaE c sz (ad.add o) k es
 |_,[],_=>by simp only[zaE]
 |k,r::rs,h=>by
  simp only[zaE]at h ⊢
  refine ⟨h.1,zgu o h.2.1,zdJ o ?_⟩
  rw[show o+(k+sz)=o+k+sz by omega];exact h.2.2
end
end Go.Eng
namespace Go.Eng
open Go.RowKit
section
variable {P:Program} {inv:Nat→Option Nat} {w0:World} {M:Nat→Prop} {φ:AF} {σ:AS} {β:Nat→Nat} {a:Act} {w:World}
theorem za4 (k:IntKind) (i:Nat) (y:Nat) (code:BoundsCode) (h:i≤y):(Instr.sliceBound (.int k i) y code).run P w=.ok i w:=by
 have:0≤(i:Int)∧(i:Int)≤(y:Int):=⟨by omega,by omega⟩
 simp[Instr.sliceBound,asIntOf,this]
theorem zit (b:Bool) {len cap:Nat} {lo hi mx:Option Value} {l h m:Nat}
  (hm:mx=none∧m=cap∨∃ k,mx=some (.int k m)∧m≤cap) (hh:hi=none∧h=len∧mx=none∨∃ k,hi=some (.int k h)∧h≤m) (hl:lo=none∧l=0∨∃ k,lo=some (.int k l)∧l≤h) :
  (Instr.sliceBounds b len cap lo hi mx).run P w=.ok (l,h,m) w:=by
 unfold Instr.sliceBounds
 rcases hm with ⟨rfl,rfl⟩|⟨k,rfl,hm⟩
 ·rcases hh with ⟨rfl,rfl,_⟩|⟨k,rfl,hh⟩
  ·rcases hl with ⟨rfl,rfl⟩|⟨k',rfl,hl⟩
   ·rfl
   ·simp only[Sem.run_bind,Sem.run_pure,Result.andThen_ok,za4 k' l h _ hl]
  ·rcases hl with ⟨rfl,rfl⟩|⟨k',rfl,hl⟩
   ·simp only[Sem.run_bind,Sem.run_pure,Result.andThen_ok,za4 k h m _ hh]
   ·simp only[Sem.run_bind,Sem.run_pure,Result.andThen_ok,za4 k h m _ hh,za4 k' l h _ hl]
 ·rcases hh with ⟨rfl,rfl,h0⟩|⟨k',rfl,hh⟩
  ·cases h0
  ·rcases hl with ⟨rfl,rfl⟩|⟨k'',rfl,hl⟩
   ·simp only[Sem.run_bind,Sem.run_pure,Result.andThen_ok,za4 k m cap _ hm,za4 k' h m _ hh]
   ·simp only[Sem.run_bind,Sem.run_pure,Result.andThen_ok,za4 k m cap _ hm,za4 k' h m _ hh,za4 k'' l h _ hl]
theorem zhi {t e:TypeId} {n sz:Nat} (hu:P.underlying t=some (.array n e)) (hsz:siz P e=some sz) (A:Addr) {lo hi mx:Option Value} {l h m:Nat}
  (hm:mx=none∧m=n∨∃ k,mx=some (.int k m)∧m≤n) (hh:hi=none∧h=n∧mx=none∨∃ k,hi=some (.int k h)∧h≤m) (hl:lo=none∧l=0∨∃ k,lo=some (.int k l)∧l≤h) :
  (Instr.sliceAt t (.pointer (some A)) lo hi mx).run P w=.ok (.slice (if m=l then some A else (some A).map (·.add (l*sz))) (h-l) (m-l)) w:=by
 unfold Instr.sliceAt
 rw[Sem.run_bind,run_underlying hu]
 simp only[Result.andThen_ok,Sem.run_bind,Instr.sureAddr,Sem.run_pure,zit false hm hh hl,zcJ hsz]
 split<;>simp
theorem zlm {t e:TypeId} {sz:Nat} (hu:P.underlying t=some (.slice e)) (hsz:siz P e=some sz) (A:Option Addr) (len cap:Nat) {lo hi mx:Option Value} {l h m:Nat}
  (hm:mx=none∧m=cap∨∃ k,mx=some (.int k m)∧m≤cap) (hh:hi=none∧h=len∧mx=none∨∃ k,hi=some (.int k h)∧h≤m) (hl:lo=none∧l=0∨∃ k,lo=some (.int k l)∧l≤h) :
  (Instr.sliceAt t (.slice A len cap) lo hi mx).run P w=.ok (.slice (if m=l then A else A.map (·.add (l*sz))) (h-l) (m-l)) w:=by
 have hb:=zit (P:=P) (w:=w) true hm hh hl
 unfold Instr.sliceAt
 rw[Sem.run_bind,run_underlying hu]
 simp only[Result.andThen_ok]
 unfold Instr.slice
 rw[Sem.run_bind,run_underlying hu]
 simp only[Result.andThen_ok,Sem.run_bind,hb,zcJ hsz,Sem.run_pure]
theorem znI {c:Ctx} {k:IntKind} {n:Int} {v:Value} (h:rel c (.i k n) v) (h0:0≤n):v=.int k (n.toNat:Nat):=by
 simp only[rel]at h
 rw[h,Int.toNat_of_nonneg h0]
def relO (c:Ctx):Option AV→Option Value→Prop
 |none,none=>True
 |some x,some y=>rel c x y
 |_,_=>False
theorem zmD {c:Ctx} {sz:Nat} {es:List (List AV)} {ad:Option Addr} {cap:Nat} (hcap:es.length≤cap) (hr:es≠[]→∃ a:Addr,ad=some a∧¬c.A a.block∧a.block<c.w.heap.size∧zaE c sz a 0 es) (l h:Nat) (hl:l≤h) (hh:h≤es.length) :
  rel c (.sl sz ((es.take h).drop l)) (.slice (if cap=l then ad else ad.map (·.add (l*sz))) (h-l) (cap-l)):=by
 simp only[rel]
 refine ⟨_,_,by rw[List.length_drop,List.length_take,Nat.min_eq_left hh],by rw[List.length_drop,List.length_take,Nat.min_eq_left hh];omega,fun hne=>?_⟩
 have hlt:l<h:=by
  rcases Nat.lt_or_ge l h with hlt|hge
  ·exact hlt
  ·exact absurd (List.eq_nil_of_length_eq_zero (by rw[List.length_drop,List.length_take,Nat.min_eq_left hh];omega)) hne
 have hes:es≠[]:=fun e=>by rw[e]at hh;simp at hh;omega
 obtain ⟨a,rfl,hA,hb,hrows⟩:=hr hes
 rw[if_neg (by omega)]
 refine ⟨a.add (l*sz),rfl,by rw[zef];exact hA,by rw[zef];exact hb,zdJ (l*sz) ?_⟩
 have:=zgt l (zgr h hrows)
 rwa [show l*sz+0=0+l*sz by omega]
theorem zmA {l ver off n sz:Nat} {p:Place} {ad:Option Addr} {cap:Nat} (hp:zah β w σ l=some p) (hv:p.len=ver) (h1:off+n*sz≤ver) (hcap:n≤cap)
  (hr:if p.real then (cap=0∨ad=some ⟨p.block,off,none⟩)∧off+cap*sz≤p.size else cap=0) (lo h:Nat) (hl:lo≤h) (hh:h≤n) :
  rel (ctx inv M σ β w) (.sm l ver (off+lo*sz) (h-lo) sz) (.slice (if cap=lo then ad else ad.map (·.add (lo*sz))) (h-lo) (cap-lo)):=by
 simp only[rel]
 refine ⟨rfl,fun p' hp'=>?_⟩
 have:p'=p:=by have:=(show zah β w σ l=some p' from hp').symm.trans hp;simpa using this
 subst this
 have hb:lo*sz+(h-lo)*sz≤n*sz:=by rw[←Nat.add_mul];exact Nat.mul_le_mul_right _ (by omega)
 have hc2:lo*sz+(cap-lo)*sz=cap*sz:=by rw[←Nat.add_mul];congr 1;omega
 refine ⟨by omega,fun _=>⟨by omega,_,_,rfl,by omega, ?_⟩⟩
 cases hreal:p'.real with
 |false=>rw[hreal]at hr;simp only[Bool.false_eq_true,if_false]at hr ⊢;omega
 |true =>
  rw[hreal]at hr
  simp only[if_true]at hr ⊢
  obtain ⟨h2,h3⟩:=hr
  refine ⟨?_,by omega⟩
  by_cases hcl:cap=lo
  ·exact .inl (by omega)
  ·rw[if_neg hcl]
   rcases h2 with h2|h2
   ·exact .inl (by omega)
   ·rw[h2];exact .inr (by simp[zch])
theorem zpf (hm:Mem inv w0 M σ β w) {l ver off m sz:Nat} {p:Place} (hl:zbL σ l ver) (hp:zah β w σ l=some p) (hv:p.len=ver) (h0:0<ver) (hle:off+m*sz≤ver) :
  rel (ctx inv M σ β w) (.sm l ver off m sz) (.slice (some ⟨p.block,off,none⟩) m m):=by
 have hreal:p.real=true∧ver≤p.size:=by
  unfold zbL at hl
  unfold zah at hp
  split at hl
  ·rename_i cs r e
   rw[e]at hp
   cases r with
   |false=>have:=hm.ghost l cs e;subst this;simp at hl;omega
   |true =>
    simp only[Option.some.injEq]at hp
    subst hp
    refine ⟨rfl, ?_⟩
    obtain ⟨xs,ty,q1,q2,_⟩:=hm.cells l cs e
    simp only[zaG,q1]
    omega
  ·cases hl
 simp only[rel]
 refine ⟨rfl,fun p' hp'=>?_⟩
 have:p'=p:=by have:=(show zah β w σ l=some p' from hp').symm.trans hp;simpa using this
 subst this
 refine ⟨by omega,fun _=>⟨hle,_,m,rfl,Nat.le_refl _, ?_⟩⟩
 rw[hreal.1]
 exact ⟨.inr rfl,by omega⟩
def Slicer (P:Program) (w:World) (sz:Nat) (u:Value) (F:Option Value→Option Value→Option Value→Sem Value):Prop :=
 ∀ (A:Option Addr) (len cap:Nat),u=.slice A len cap→∀ (lo hi mx:Option Value) (l h m:Nat),(mx=none∧m=cap∨∃ k,mx=some (.int k m)∧m≤cap)→(hi=none∧h=len∧mx=none∨∃ k,hi=some (.int k h)∧h≤m) →
  (lo=none∧l=0∨∃ k,lo=some (.int k l)∧l≤h)→(F lo hi mx).run P w=.ok (.slice (if m=l then A else A.map (·.add (l*sz))) (h-l) (m-l)) w
theorem ziQ {sz:Nat} {x:AV} {u:Value} {F:Option Value→Option Value→Option Value→Sem Value} (hF:Slicer P w sz u F) {lo hi mx:Option AV} {lo' hi' mx':Option Value} {K:AV→Prop}
  (hx:rel (ctx inv M σ β w) x u) (hlo:relO (ctx inv M σ β w) lo lo') (hhi:relO (ctx inv M σ β w) hi hi') (hmx:relO (ctx inv M σ β w) mx mx') (h:aslc σ x lo hi mx sz K) :
  ∃ z r,K z∧rel (ctx inv M σ β w) z r∧(F lo' hi' mx').run P w=.ok r w:=by
 have rn:∀ {v:Option Value},relO (ctx inv M σ β w) none v→v=none:=by intro v hv;cases v<;>first|rfl|exact hv.elim
 have rs:∀ {v:Option Value} {k:IntKind} {n:Int},relO (ctx inv M σ β w) (some (.i k n)) v→0≤n→v=some (.int k (n.toNat:Nat)):=by
  intro v k n hv h0
  cases v with
  |none=>exact hv.elim
  |some v=>rw[znI (c:=ctx inv M σ β w) hv h0]
 unfold aslc at h
 split at h
 ·-- three bounds,all 0
  rename_i k m
  obtain ⟨rfl,rfl,rfl,h⟩:=h
  have e1:=rn hlo;subst e1
  have e2:=rs hhi (Int.le_refl 0);subst e2
  have e3:=rs hmx (Int.le_refl 0);subst e3
  have key:∀ (A:Option Addr) (len cap:Nat),u=.slice A len cap→∃ r,rel (ctx inv M σ β w) (.s0 sz) r∧(F none (some (.int .i64 ((0:Int).toNat:Nat))) (some (.int k ((0:Int).toNat:Nat)))).run P w=.ok r w:=fun A len cap hu =>
   ⟨_,by simp only[rel];exact ⟨_,rfl⟩,hF A len cap hu _ _ _ 0 0 0 (.inr ⟨k,rfl,by omega⟩) (.inr ⟨.i64,rfl,by omega⟩) (.inl ⟨rfl,rfl⟩)⟩
  split at h
  ·simp only[rel]at hx
   obtain ⟨ad,cap,eu,_⟩:=hx
   obtain ⟨r,h1,h2⟩:=key ad _ cap eu
   exact ⟨_,r,h,h1,h2⟩
  ·simp only[rel]at hx
   obtain ⟨ad,eu⟩:=hx
   obtain ⟨r,h1,h2⟩:=key ad _ _ eu
   exact ⟨_,r,h,h1,h2⟩
  ·obtain ⟨p,ad,cap,_,_,_,eu,_⟩:=zcI h.1 hx
   obtain ⟨r,h1,h2⟩:=key ad _ cap eu
   exact ⟨_,r,h.2,h1,h2⟩
  ·exact h.elim
 ·exact h.elim
 ·have e3:=rn hmx;subst e3
  split at h
  ·-- a slice that nobody writes
   rename_i sz' es
   obtain ⟨rfl,h⟩:=h
   simp only[rel]at hx
   obtain ⟨ad,cap,eu,hcap,hr⟩:=hx
   split at h
   ·have e1:=rn hlo;subst e1
    have e2:=rn hhi;subst e2
    refine ⟨_,_,h, ?_,hF ad es.length cap eu _ _ _ (0) (es.length) cap (.inl ⟨rfl,rfl⟩) (.inl ⟨rfl,rfl,rfl⟩) (.inl ⟨rfl,rfl⟩)⟩
    simpa using zmD hcap hr 0 es.length (by omega) (by omega)
   ·rename_i k hh
    obtain ⟨⟨h0,h1⟩,h⟩:=h
    have e1:=rn hlo;subst e1
    have e2:=rs hhi h0;subst e2
    refine ⟨_,_,h, ?_,hF ad es.length cap eu _ _ _ (0) (hh.toNat) cap (.inl ⟨rfl,rfl⟩) (.inr ⟨k,rfl,by omega⟩) (.inl ⟨rfl,rfl⟩)⟩
    simpa using zmD hcap hr 0 hh.toNat (by omega) (by omega)
   ·rename_i k l
    obtain ⟨⟨h0,h1⟩,h⟩:=h
    have e1:=rs hlo h0;subst e1
    have e2:=rn hhi;subst e2
    refine ⟨_,_,h, ?_,hF ad es.length cap eu _ _ _ (l.toNat) (es.length) cap (.inl ⟨rfl,rfl⟩) (.inl ⟨rfl,rfl,rfl⟩) (.inr ⟨k,rfl,by omega⟩)⟩
    have:=zmD hcap hr l.toNat es.length (by omega) (by omega)
    rwa [List.take_length]at this
   ·rename_i k l k' hh
    obtain ⟨⟨h0,h1,h2⟩,h⟩:=h
    have e1:=rs hlo h0;subst e1
    have e2:=rs hhi (by omega);subst e2
    exact ⟨_,_,h,zmD hcap hr l.toNat hh.toNat (by omega) (by omega),hF ad es.length cap eu _ _ _ (l.toNat) (hh.toNat) cap (.inl ⟨rfl,rfl⟩) (.inr ⟨k',rfl,by omega⟩) (.inr ⟨k,rfl,by omega⟩)⟩
   ·exact h.elim
  ·-- a named row
   rename_i l ver off n sz'
   obtain ⟨rfl,hlive,h⟩:=h
   obtain ⟨p,ad,cap,hp,hv,hb,eu,hcap,hr⟩:=zcI hlive hx
   split at h
   ·have e1:=rn hlo;subst e1
    have e2:=rn hhi;subst e2
    refine ⟨_,_,h, ?_,hF ad n cap eu _ _ _ (0) (n) cap (.inl ⟨rfl,rfl⟩) (.inl ⟨rfl,rfl,rfl⟩) (.inl ⟨rfl,rfl⟩)⟩
    simpa using zmA (M:=M) (inv:=inv) hp hv hb hcap hr 0 n (by omega) (by omega)
   ·rename_i k hh
    obtain ⟨⟨h0,h1⟩,h⟩:=h
    have e1:=rn hlo;subst e1
    have e2:=rs hhi h0;subst e2
    refine ⟨_,_,h, ?_,hF ad n cap eu _ _ _ (0) (hh.toNat) cap (.inl ⟨rfl,rfl⟩) (.inr ⟨k,rfl,by omega⟩) (.inl ⟨rfl,rfl⟩)⟩
    simpa using zmA (M:=M) (inv:=inv) hp hv hb hcap hr 0 hh.toNat (by omega) (by omega)
   ·rename_i k lo
    obtain ⟨⟨h0,h1⟩,h⟩:=h
    have e1:=rs hlo h0;subst e1
    have e2:=rn hhi;subst e2
    exact ⟨_,_,h,zmA (M:=M) (inv:=inv) hp hv hb hcap hr lo.toNat n (by omega) (by omega),hF ad n cap eu _ _ _ (lo.toNat) (n) cap (.inl ⟨rfl,rfl⟩) (.inl ⟨rfl,rfl,rfl⟩) (.inr ⟨k,rfl,by omega⟩)⟩
   ·rename_i k lo k' hh
    obtain ⟨⟨h0,h1,h2⟩,h⟩:=h
    have e1:=rs hlo h0;subst e1
    have e2:=rs hhi (by omega);subst e2
    exact ⟨_,_,h,zmA (M:=M) (inv:=inv) hp hv hb hcap hr lo.toNat hh.toNat (by omega) (by omega),hF ad n cap eu _ _ _ (lo.toNat) (hh.toNat) cap (.inl ⟨rfl,rfl⟩) (.inr ⟨k',rfl,by omega⟩) (.inr ⟨k,rfl,by omega⟩)⟩
   ·exact h.elim
  ·-- a slice without room
   simp only[rel]at hx
   obtain ⟨ad,eu⟩:=hx
   have fin:∀ (lo'' hi'':Option Value),(hi''=none∧(0:Nat)=0∧(none:Option Value)=none∨∃ k,hi''=some (.int k (0:Nat))∧0≤0)→(lo''=none∧(0:Nat)=0∨∃ k,lo''=some (.int k (0:Nat))∧0≤0)→∃ r,rel (ctx inv M σ β w) (.s0 sz) r∧(F lo'' hi'' none).run P w=.ok r w:=by
    intro lo'' hi'' h1 h2
    exact ⟨_,by simp only[rel];exact ⟨_,rfl⟩,hF ad 0 0 eu lo'' hi'' none 0 0 0 (.inl ⟨rfl,rfl⟩) h1 h2⟩
   split at h
   ·have e1:=rn hlo;subst e1
    have e2:=rn hhi;subst e2
    obtain ⟨r,k1,k2⟩:=fin none none (.inl ⟨rfl,rfl,rfl⟩) (.inl ⟨rfl,rfl⟩)
    exact ⟨_,r,h,k1,k2⟩
   ·rename_i k hh
    obtain ⟨rfl,h⟩:=h
    have e1:=rn hlo;subst e1
    have e2:=rs hhi (Int.le_refl 0);subst e2
    obtain ⟨r,k1,k2⟩:=fin none _ (.inr ⟨k,rfl,Nat.le_refl _⟩) (.inl ⟨rfl,rfl⟩)
    exact ⟨_,r,h,k1,k2⟩
   ·rename_i k ll
    obtain ⟨rfl,h⟩:=h
    have e1:=rs hlo (Int.le_refl 0);subst e1
    have e2:=rn hhi;subst e2
    obtain ⟨r,k1,k2⟩:=fin _ none (.inl ⟨rfl,rfl,rfl⟩) (.inr ⟨k,rfl,Nat.le_refl _⟩)
    exact ⟨_,r,h,k1,k2⟩
   ·rename_i k ll k' hh
    obtain ⟨⟨rfl,rfl⟩,h⟩:=h
    have e1:=rs hlo (Int.le_refl 0);subst e1
    have e2:=rs hhi (Int.le_refl 0);subst e2
    obtain ⟨r,k1,k2⟩:=fin _ _ (.inr ⟨k',rfl,Nat.le_refl _⟩) (.inr ⟨k,rfl,Nat.le_refl _⟩)
    exact ⟨_,r,h,k1,k2⟩
   ·exact h.elim
  ·exact h.elim
theorem one_rel {c:Ctx} {x:AV} {v:Value} (h1:x.one=true) (h:rel c x v):v.oneCell'=true:=by
 cases x<;>simp only[AV.one,Bool.false_eq_true]at h1<;>simp only[rel]at h
 ·subst h;rfl
 ·subst h;rfl
 ·subst h;exact h1
 ·obtain ⟨_,rfl⟩:=h;rfl
 ·obtain ⟨_,_,rfl,_⟩:=h;rfl
 ·obtain ⟨_,rfl,_⟩:=h;rfl
 ·exact h.1
 ·exact h.1
 ·obtain ⟨_,_,rfl,_⟩:=h;rfl
 ·exact h.1
theorem zqH {v:Value} (h:v.oneCell'=true):v.cells=#[v]:=by cases v<;>first|rfl|(simp[Value.oneCell']at h)
theorem zhV {c:Ctx} {x:AV} {v:Value} (h1:x.sound=true) (h:rel c x v):relCs c x.cells v.cells.toList:=by
 have:(∃ cs,x=.agg cs)∨(x.cells=[x]∧x.one=true):=by
  cases x<;>first|exact .inl ⟨_,rfl⟩|exact .inr ⟨rfl,h1⟩
 rcases this with ⟨cs,rfl⟩|⟨e,h2⟩
 ·simp only[rel]at h
  obtain ⟨xs,rfl,h⟩:=h
  exact h
 ·have ho:=one_rel h2 h
  rw[e,zqH ho]
  exact zcr ho h za9
theorem zbB:∀ (xs:List AV) (cs:List AV) (off:Nat),(ovl cs off xs).length=cs.length
 |[],_,_=>rfl
 |x::xs,cs,off=>by simp[ovl,zbB xs]
theorem zpo {c:Ctx} (off:Nat):∀ (xs:List AV) (us:List Value) (j:Nat) (cs:List AV) (cells:Array Value),relCs c xs us→relCs c cs cells.toList →
  relCs c (ovl cs (off+j) xs) ((us.zipIdx j).foldl (fun cs p=>cs.setIfInBounds (off+p.2) p.1) cells).toList∧((us.zipIdx j).foldl (fun cs p=>cs.setIfInBounds (off+p.2) p.1) cells).size=cells.size
 |[],us,j,cs,cells,h,h'=>by
  simp only[relCs]at h
  subst h
  exact ⟨h',rfl⟩
 |x::xs,us,j,cs,cells,h,h'=>by
  simp only[relCs]at h
  obtain ⟨u,us',rfl,h1,h2,h⟩:=h
  have h3:relCs c (cs.set (off+j) x) (cells.setIfInBounds (off+j) u).toList:=by rw[Array.toList_setIfInBounds];exact zkd _ h' h1 h2
  have:=zpo off xs us' (j+1) _ _ h h3
  simp only[ovl,List.zipIdx_cons,List.foldl_cons]
  exact ⟨this.1,this.2.trans (by simp)⟩
theorem zdC (hs:Knows inv w0 M φ σ β a w) {zah:Nat→Option (Nat×Nat×TypeId)}:∀ {l:List (Nat×Operand)} {ps:List (Nat×Nat×Opd)} {cs cs':List AV} {cells:Array Value},
  zeO P inv zah l=some ps→zc0 φ cs ps=some cs'→relCs (ctx inv M σ β w) cs cells.toList →
  ∃ cells',Instr.fill (fun i=>(zah i).map fun p=>(p.1,p.2.1)) cells (l.map fun p=>(p.1,a.eval p.2))=some cells'∧relCs (ctx inv M σ β w) cs' cells'.toList
 |[],_,_,_,cells,h,hf,hr=>by
  simp only[zeO,Option.some.injEq]at h
  subst h
  simp only[zc0,Option.some.injEq]at hf
  subst hf
  exact ⟨cells,rfl,hr⟩
 |(i,x)::l,_,cs,_,cells,h,hf,hr=>by
  simp only[zeO]at h
  split at h
  ·rename_i off n t e
   split at h
   ·rename_i d ps e1 e2
    simp only[Option.some.injEq]at h
    subst h
    simp only[zc0]at hf
    split at hf
    ·rename_i hc
     obtain ⟨c1,c2,c3⟩:=hc
     have hx:=zam hs e1
     have hxc:=zhV c1 hx
     have hl:=zav hxc
     have hl2:=zav hr
     have:=zpo off _ _ 0 _ _ hxc hr
     obtain ⟨cells',h1,h2⟩:=zdC hs e2 hf this.1
     refine ⟨cells', ?_,h2⟩
     simp only[List.map_cons,Instr.fill,e,Option.map_some]
     have hsz:(a.eval x).cells.size=n:=by rw[←Array.length_toList,←hl];exact c2
     rw[if_neg (by rw[hsz];simp;rw[←Array.length_toList,←hl2];omega)]
     rw[←h1]
     congr 1
     rw[←Array.foldl_toList,Array.toList_zipIdx]
    ·cases hf
   ·cases h
  ·cases h
end
end Go.Eng
