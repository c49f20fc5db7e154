/-
  A part of the engine that walks the functions' codes, and of the functions' contracts. Conditions: those that each theorem names.
-/
import Derived.Test.YtnjpcpdmnadadaaGreatK2
import Derived.Below
import Derived.Calls
import Derived.ChangeKeysEq
import Derived.DataReads
import Derived.Deep.LoopGhost
import Derived.Laws.AppendOwn
import Derived.Laws.Cells
import Derived.Laws.CopyRow
import Derived.Laws.Entries
import Derived.Laws.MakeOwn
import Derived.Laws.Rows
import Derived.Laws.StructEq
import Derived.Laws.Tables
import Derived.Lib.AppendZerosOnto
import Derived.MapKept
import Derived.Orders
import Derived.ProofKit
import Derived.ScopeJumps
import Derived.Tactics2
import Derived.WalkSpells
set_option linter.unusedSimpArgs false
set_option linter.unusedVariables false
set_option linter.unusedSectionVars false
namespace Go.Eng
open Go.RowKit
section
variable {P:Program} {inv:Nat→Option Nat} {w0:World} {M:Nat→Prop} {φ:AF} {σ:AS} {β:Nat→Nat} {a:Act} {w:World}
theorem ziM {c:Ctx} {cs:List AV} {zs:Array Value} (off n:Nat) (h:relCs c cs zs.toList):rel c (.agg (seg cs off n)) (.agg (zs.extract off (off+n))):=by
 simp only[rel]
 refine ⟨_,rfl, ?_⟩
 rw[Array.toList_extract]
 simp only[seg,List.extract]
 rw[show off+n-off=n by omega]
 exact zbT n (zbU off h)
theorem zke {c:Ctx} {cs:List AV} {zs:Array Value} {i:Nat} {x:AV} (h:relCs c cs zs.toList) (e:cs[i]?=some x):∃ y,zs[i]?=some y∧rel c x y:=by
 obtain ⟨y,h1,_,h2⟩:=zhr h e
 exact ⟨y,by simpa using h1,h2⟩
def keyI:Value→Option Int|.int .i64 k=>some k|_=>none
def zhM:List MapEntry→Int→Nat→Option (Nat×Value)
 |[],_,_=>none
 |e::es,b,i=>if keyI e.key=some b then some (i,e.val) else zhM es b (i+1)
theorem zgg (b:Int):∀ (l:List MapEntry) (kvs:List (Int×Int)) (i:Nat),l.map (fun e=>(e.key,e.val))=kvs.map (fun p=>(Value.int .i64 p.1,Value.int .i64 p.2))→Instr.findNow (.int .i64) (.int .i64 b) l i=some (zhM l b i)
 |[],_,_,_=>rfl
 |e::l,kvs,i,h=>by
  cases kvs with
  |nil=>simp at h
  |cons p kvs =>
   simp only[List.map_cons,List.cons.injEq,Prod.mk.injEq]at h
   have ih:=zgg b l kvs (i+1) h.2
   simp only[Instr.findNow,h.1.1,Instr.sameNow,if_true,zhM,keyI]
   by_cases hb:p.1=b
   ·rw[hb];simp
   ·have:(b == p.1)=false:=by simp;exact fun e=>hb e.symm
    rw[this]
    simp only[ih]
    rw[if_neg (by simpa using hb)]
theorem zkE (b:Int):∀ (l:List MapEntry) (kvs:List (Int×Int)) (i:Nat),l.map (fun e=>(e.key,e.val))=kvs.map (fun p=>(Value.int .i64 p.1,Value.int .i64 p.2)) →
  (zhM l b i=none∧zeM kvs b=0)∨∃ j,zhM l b i=some (j,.int .i64 (zeM kvs b))
 |[],kvs,i,h=>by
  cases kvs with
  |nil=>exact .inl ⟨rfl,rfl⟩
  |cons p kvs=>simp at h
 |e::l,kvs,i,h=>by
  cases kvs with
  |nil=>simp at h
  |cons p kvs =>
   simp only[List.map_cons,List.cons.injEq,Prod.mk.injEq]at h
   simp only[zhM,zeM,h.1.1,keyI]
   by_cases hb:p.1=b
   ·rw[if_pos (by rw[hb]),if_pos hb.symm];exact .inr ⟨i,by rw[h.1.2]⟩
   ·rw[if_neg (by simpa using hb),if_neg (fun e=>hb e.symm)];exact zkE b l kvs (i+1) h.2
theorem zeA (hs:Knows inv w0 M φ σ β a w) {t:TypeId} {x:Option Operand} {d:Option Opd} (h:copt P inv t x=some d):relO (ctx inv M σ β w) (d.map (ev φ)) (x.map a.eval):=by
 cases x with
 |none=>simp only[copt,Option.some.injEq]at h;subst h;exact trivial
 |some x =>
  simp only[copt]at h
  obtain ⟨y,h1,h2⟩:=Option.map_eq_some_iff.1 h
  subst h2
  exact zam hs h1
theorem zik (hs:Knows inv w0 M φ σ β a w) {o:Oper} {c:Call} {e:AVal} (ho:o.op=.call c) (hc:zjK P inv o.type c=some e) {K:AV→Prop} (h:zdk φ σ e K) :
  ∃ x y,K x∧rel (ctx inv M σ β w) x y∧(execOp a.eval o).run P w=.ok (.value y) w:=by
 obtain ⟨callee,⟨args⟩,⟨ts⟩⟩:=c
 unfold zjK at hc
 split at hc
 ·-- len
  rename_i x t e0 e1 e2
  simp only at e0 e1 e2
  subst e0 e1 e2
  split at hc
  ·rename_i et d e1 h1
   simp only[Option.some.injEq]at hc
   subst hc
   have r1:=zam hs h1
   have key:∀ (ad:Option Addr) (n cap:Nat),a.eval x=.slice ad n cap→(execOp a.eval o).run P w=.ok (.value (.int .i64 n)) w:=by
    intro ad n cap hv
    simp[execOp,ho,resolve,invoke,builtin,Builtin.len_,run_underlying e1,hv,goInt]
   simp only[zdk]at h
   split at h
   ·rename_i sz es ees
    rw[ees]at r1
    simp only[rel]at r1
    obtain ⟨ad,cap,q1,_⟩:=r1
    exact ⟨_,_,h,by simp only[rel],key _ _ _ q1⟩
   ·rename_i sz ees
    rw[ees]at r1
    simp only[rel]at r1
    obtain ⟨ad,q1⟩:=r1
    exact ⟨_,_,h,by simp only[rel];rfl,key _ _ _ q1⟩
   ·rename_i l ver off n sz ees
    rw[ees]at r1
    obtain ⟨p,ad,cap,_,_,_,q1,_⟩:=zcI h.1 r1
    exact ⟨_,_,h.2,by simp only[rel],key _ _ _ q1⟩
   ·exact h.elim
  ·rename_i n et d e1 h1
   simp only[Option.some.injEq]at hc
   subst hc
   refine ⟨_,.int .i64 n,h,by simp only[ev,rel], ?_⟩
   simp[execOp,ho,resolve,invoke,builtin,Builtin.len_,run_underlying e1,goInt]
  ·cases hc
 ·-- cap
  rename_i x t e0 e1 e2
  simp only at e0 e1 e2
  subst e0 e1 e2
  split at hc
  ·rename_i et d e1 h1
   simp only[Option.some.injEq]at hc
   subst hc
   have r1:=zam hs h1
   simp only[zdk]at h
   split at h
   ·rename_i sz ees
    rw[ees]at r1
    simp only[rel]at r1
    obtain ⟨ad,q1⟩:=r1
    refine ⟨_,.int .i64 0,h,by simp only[rel], ?_⟩
    simp[execOp,ho,resolve,invoke,builtin,Builtin.cap_,run_underlying e1,q1,goInt]
   ·exact h.elim
  ·cases hc
 ·-- min
  rename_i x y e0 e1
  simp only at e0 e1
  subst e0 e1
  split at hc
  ·rename_i dx dy h1 h2
   simp only[Option.some.injEq]at hc
   subst hc
   have r1:=zam hs h1
   have r2:=zam hs h2
   simp only[zdk]at h
   split at h
   ·rename_i k p k' q ep eq
    rw[ep]at r1
    rw[eq]at r2
    simp only[rel]at r1 r2
    obtain ⟨rfl,h⟩:=h
    refine ⟨_,.int k (if q<p then q else p),h,by simp only[rel,if_true], ?_⟩
    simp[execOp,ho,resolve,invoke,builtin,Builtin.min_,Builtin.min2,r1,r2,List.foldlM]
   ·exact h.elim
  ·cases hc
 ·-- max
  rename_i x y e0 e1
  simp only at e0 e1
  subst e0 e1
  split at hc
  ·rename_i dx dy h1 h2
   simp only[Option.some.injEq]at hc
   subst hc
   have r1:=zam hs h1
   have r2:=zam hs h2
   simp only[zdk]at h
   split at h
   ·rename_i k p k' q ep eq
    rw[ep]at r1
    rw[eq]at r2
    simp only[rel]at r1 r2
    obtain ⟨rfl,h⟩:=h
    refine ⟨_,.int k (if p<q then q else p),h,by simp only[rel,Bool.false_eq_true,if_false], ?_⟩
    simp[execOp,ho,resolve,invoke,builtin,Builtin.max_,Builtin.max2,r1,r2,List.foldlM]
   ·exact h.elim
  ·cases hc
 ·cases hc
set_option maxHeartbeats 1000000 in
theorem zod (hs:Knows inv w0 M φ σ β a w) {o:Oper} {e:AVal} (hc:zgi P inv o=some e) {K:AV→Prop} (h:zdk φ σ e K) :
  ∃ x y,K x∧rel (ctx inv M σ β w) x y∧(execOp a.eval o).run P w=.ok (.value y) w:=by
 unfold zgi at hc
 split at hc
 ·-- move
  rename_i x ho
  obtain ⟨d,h1,rfl⟩:=Option.map_eq_some_iff.1 hc
  refine ⟨_,_,h,zam hs h1, ?_⟩
  simp only[execOp,ho,Sem.run_pure]
 ·rename_i x ho
  obtain ⟨d,h1,rfl⟩:=Option.map_eq_some_iff.1 hc
  refine ⟨_,_,h,zam hs h1, ?_⟩
  simp only[execOp,ho,Sem.run_pure]
 ·-- pick
  rename_i oc oa ob ho
  split at hc
  ·rename_i dc da db h1 h2 h3
   simp only[Option.some.injEq]at hc
   subst hc
   have r1:=zam hs h1
   have r2:=zam hs h2
   have r3:=zam hs h3
   simp only[zdk]at h
   split at h
   ·rename_i t et
    rw[et]at r1
    simp only[rel]at r1
    cases t with
    |true=>exact ⟨_,_,h.1 rfl,r2,by simp[execOp,ho,r1,asBool]⟩
    |false=>exact ⟨_,_,h.2 rfl,r3,by simp[execOp,ho,r1,asBool]⟩
   ·exact h.elim
  ·cases hc
 ·-- binOp
  rename_i op t x y _ ho
  split at hc
  ·rename_i ty dx dy h1 h2 h3
   simp only[Option.some.injEq]at hc
   subst hc
   simp only[zdk]at h
   obtain ⟨z,r,k1,k2,k3⟩:=zol (ox:=x) (oy:=y) h1 (zam hs h2) (zam hs h3) h
   refine ⟨z,r,k1,k2, ?_⟩
   simp only[execOp,ho,Sem.run_bind,Sem.run_pure]at k3 ⊢
   rw[k3]
   rfl
  ·cases hc
 ·-- not
  rename_i x ho
  obtain ⟨d,h1,rfl⟩:=Option.map_eq_some_iff.1 hc
  have r1:=zam hs h1
  simp only[zdk]at h
  split at h
  ·rename_i t et
   rw[et]at r1
   simp only[rel]at r1
   exact ⟨_,.bool (!t),h,by simp only[rel],by simp[execOp,ho,r1,Op.unary]⟩
  ·exact h.elim
 ·-- convert
  rename_i src dst x ho
  split at hc
  ·rename_i ds k d e1 e2 h1
   simp only[Option.some.injEq]at hc
   subst hc
   have r1:=zam hs h1
   simp only[zdk]at h
   split at h
   ·rename_i k' n et
    rw[et]at r1
    simp only[rel]at r1
    refine ⟨_,.int k (k.wrap n),h,by simp only[rel], ?_⟩
    simp only[execOp,ho,r1,convert,Sem.run_bind,run_underlying e1,run_underlying e2,Result.andThen_ok]
    cases ds<;>simp[Conv.intToInt]
   ·exact h.elim
  ·cases hc
 ·-- load
  rename_i t x ho
  split at hc
  ·rename_i n d h1 h2
   simp only[Option.some.injEq]at hc
   subst hc
   simp only[zdk]at h
   obtain ⟨v,ev',h⟩:=zaM h
   obtain ⟨u,k1,k2⟩:=zh3 hs h1 (zam hs h2) ev'
   exact ⟨v,u,h,k1,by simp[execOp,ho,k2]⟩
  ·cases hc
 ·-- fieldAddr
  rename_i s x f ho
  split at hc
  ·rename_i fs d e1 h1
   split at hc
   ·rename_i fd e2
    split at hc
    ·rename_i n e3
     split at hc
     ·cases hc
     ·rename_i hn
      simp only[Option.some.injEq]at hc
      subst hc
      have r1:=zam hs h1
      have key:∀ ad:Addr,(Instr.fieldAt s (.pointer (some ad)) f).run P w=.ok (.pointer (some (ad.add fd.offset))) w:=by
       intro ad
       simp[Instr.fieldAt,run_underlying e1,e2,Instr.sureAddr,fieldPlace,zcJ e3,hn]
      simp only[zdk]at h
      split at h
      ·rename_i l ver off et
       rw[et]at r1
       obtain ⟨hl,h⟩:=h
       obtain ⟨p,hp,hv,r2⟩:=zc9 hl r1
       refine ⟨_,_,h,zdu hp hv, ?_⟩
       simp only[execOp,ho,r2,Sem.run_bind,key,Result.andThen_ok,zch,Sem.run_pure]
      ·rename_i sz es i k et
       rw[et]at r1
       simp only[rel]at r1
       obtain ⟨ad,r2,r3,r4,r5⟩:=r1
       refine ⟨_,.pointer (some (ad.add (i*sz+(k+fd.offset)))),h,by simp only[rel];exact ⟨ad,rfl,r3,r4,r5⟩, ?_⟩
       simp only[execOp,ho,r2,Sem.run_bind,key,Result.andThen_ok,zh6,Sem.run_pure,Nat.add_assoc]
      ·exact h.elim
    ·cases hc
   ·cases hc
  ·cases hc
 ·-- indexAddr
  rename_i t x i ho
  split at hc
  ·rename_i et dx di e1 h1 h2
   obtain ⟨n,h3,rfl⟩:=Option.map_eq_some_iff.1 hc
   have r1:=zam hs h1
   have r2:=zam hs h2
   have key:∀ (ad:Addr) (len cap:Nat) (k:IntKind) (j:Int),0≤j→j<len→(Instr.indexAt t (.slice (some ad) len cap) (.int k j)).run P w=.ok (.pointer (some (ad.add (j.toNat*n)))) w:=by
    intro ad len cap k j h0 hlt
    have:0≤j∧j<(len:Int):=⟨h0,hlt⟩
    simp[Instr.indexAt,asIntOf,run_underlying e1,this,zcJ h3]
   simp only[zdk]at h
   split at h
   ·rename_i k j ej
    rw[ej]at r2
    simp only[rel]at r2
    split at h
    ·rename_i sz es exx _
     rw[exx]at r1
     obtain ⟨rfl,⟨h0,hlt⟩,h⟩:=h
     simp only[rel]at r1
     obtain ⟨ad,cap,q1,q2,q3⟩:=r1
     have hne:es≠[]:=fun e=>by rw[e]at hlt;simp at hlt;omega
     obtain ⟨a',rfl,q4,q5,q6⟩:=q3 hne
     refine ⟨_,.pointer (some (a'.add (j.toNat*sz))),h,by simp only[rel];exact ⟨a',by simp,q4,q5,q6⟩, ?_⟩
     simp only[execOp,ho,q1,r2,Sem.run_bind,key a' _ cap k j h0 hlt,Result.andThen_ok,Sem.run_pure]
    ·rename_i l ver off m sz exx _
     rw[exx]at r1
     obtain ⟨rfl,hl,⟨h0,hlt⟩,h⟩:=h
     obtain ⟨p,ad,cap,hp,hv,hb,q1,hcap,hr⟩:=zcI hl r1
     have hadd:ad=some ⟨p.block,off,none⟩:=by
      cases hreal:p.real with
      |false=>rw[hreal]at hr;simp at hr;omega
      |true=>rw[hreal]at hr;simp at hr;rcases hr.1 with e|e<;>first|omega|exact e
     subst hadd
     refine ⟨_,_,h,zdu hp hv, ?_⟩
     simp only[execOp,ho,q1,r2,Sem.run_bind,key _ _ cap k j h0 hlt,Result.andThen_ok,Sem.run_pure,zch]
    ·rename_i exx e0;cases e0
    ·rename_i exx e0;cases e0
    ·exact h.elim
   ·exact h.elim
  ·rename_i m et dx di e1 h1 h2
   obtain ⟨n,h3,rfl⟩:=Option.map_eq_some_iff.1 hc
   have r1:=zam hs h1
   have r2:=zam hs h2
   have key:∀ (ad:Addr) (k:IntKind) (j:Int),0≤j→j<m→(Instr.indexAt t (.pointer (some ad)) (.int k j)).run P w=.ok (.pointer (some (ad.add (j.toNat*n)))) w:=by
    intro ad k j h0 hlt
    have:0≤j∧j<(m:Int):=⟨h0,hlt⟩
    simp[Instr.indexAt,asIntOf,run_underlying e1,Instr.sureAddr,this,zcJ h3]
   simp only[zdk]at h
   split at h
   ·rename_i k j ej
    rw[ej]at r2
    simp only[rel]at r2
    split at h
    ·rename_i e0;cases e0
    ·rename_i e0;cases e0
    ·rename_i l ver off m' exx e0
     cases e0
     rw[exx]at r1
     obtain ⟨hl,⟨h0,hlt⟩,h⟩:=h
     obtain ⟨p,hp,hv,q1⟩:=zc9 hl r1
     refine ⟨_,_,h,zdu hp hv, ?_⟩
     simp only[execOp,ho,q1,r2,Sem.run_bind,key _ k j h0 hlt,Result.andThen_ok,Sem.run_pure,zch]
    ·rename_i sz es i' k' m' exx e0
     cases e0
     rw[exx]at r1
     obtain ⟨⟨h0,hlt⟩,h⟩:=h
     simp only[rel]at r1
     obtain ⟨ad,q1,q2,q3,q4⟩:=r1
     refine ⟨_,.pointer (some (ad.add (i'*sz+(k'+j.toNat*n)))),h,by simp only[rel];exact ⟨ad,rfl,q2,q3,q4⟩, ?_⟩
     simp only[execOp,ho,q1,r2,Sem.run_bind,key _ k j h0 hlt,Result.andThen_ok,Sem.run_pure,zh6,Nat.add_assoc]
    ·exact h.elim
   ·exact h.elim
  ·cases hc
 ·-- field
  rename_i t x f ho
  split at hc
  ·rename_i fs d e1 h1
   split at hc
   ·rename_i fd e2
    obtain ⟨n,h3,rfl⟩:=Option.map_eq_some_iff.1 hc
    have r1:=zam hs h1
    simp only[zdk]at h
    split at h
    ·rename_i cs ecs
     rw[ecs]at r1
     simp only[rel]at r1
     obtain ⟨zs,q1,q2⟩:=r1
     have key:∀ v,(part fd.type zs fd.offset).run P w=.ok v w→(execOp a.eval o).run P w=.ok (.value v) w:=by
      intro v hv
      simp only[execOp,ho,Instr.field,Sem.run_bind,run_underlying e1,Result.andThen_ok,e2,q1,asAgg,Sem.run_pure,hv]
     split at h
     ·obtain ⟨v,hv,h⟩:=zaM h
      obtain ⟨y,k1,k2⟩:=zke q2 hv
      exact ⟨v,y,h,k2,key y (zbR h3 w zs _ y k1)⟩
     ·rename_i m
      exact ⟨_,_,h,ziM _ _ q2,key _ (zfm h3 w zs _)⟩
    ·exact h.elim
   ·cases hc
  ·cases hc
 ·-- index
  rename_i t x i ho
  split at hc
  ·rename_i m et dx di e1 h1 h2
   split at hc
   ·rename_i l n h3 h4
    simp only[Option.some.injEq]at hc
    subst hc
    have r1:=zam hs h1
    have r2:=zam hs h2
    simp only[zdk]at h
    split at h
    ·rename_i cs k j ecs ej
     rw[ecs]at r1
     rw[ej]at r2
     simp only[rel]at r1 r2
     obtain ⟨zs,q1,q2⟩:=r1
     obtain ⟨⟨h0,hlt⟩,h⟩:=h
     have hb:0≤j∧j<(m:Int):=⟨h0,hlt⟩
     have key:∀ v,(part et zs (j.toNat*n)).run P w=.ok v w→(execOp a.eval o).run P w=.ok (.value v) w:=by
      intro v hv
      simp[execOp,ho,Instr.index,asIntOf,run_underlying e1,q1,r2,hb,zcJ h4,hv]
     cases l with
     |none =>
      obtain ⟨v,hv,h⟩:=zaM h
      obtain ⟨y,k1,k2⟩:=zke q2 hv
      exact ⟨v,y,h,k2,key y (zbR h3 w zs _ y k1)⟩
     |some l =>
      have hl:=zlN h3
      rw[h4]at hl
      simp only[Option.some.injEq]at hl
      subst hl
      exact ⟨_,_,h,ziM _ _ q2,key _ (zfm h3 w zs _)⟩
    ·exact h.elim
   ·cases hc
  ·cases hc
 ·-- builtin
  rename_i c ho
  exact zik hs ho hc h
 ·-- extract
  rename_i x i ho
  obtain ⟨d,h1,rfl⟩:=Option.map_eq_some_iff.1 hc
  have r1:=zam hs h1
  simp only[zdk]at h
  split at h
  ·rename_i vs evs
   rw[evs]at r1
   simp only[rel]at r1
   obtain ⟨xs,q1,q2⟩:=r1
   obtain ⟨v,hv,h⟩:=zaM h
   obtain ⟨y,k1,k2⟩:=zjc q2 hv
   have k1':xs[i]?=some y:=by simpa using k1
   exact ⟨v,y,h,k2,by simp[execOp,ho,q1,Instr.extract,k1']⟩
  ·exact h.elim
 ·-- makeFunc
  rename_i f first captured ho
  split at hc
  ·rename_i hf
   split at hc
   ·rename_i j l h1 h2
    simp only[Option.some.injEq]at hc
    subst hc
    simp only[zdk]at h
    refine ⟨_,.func (.func f) #[] (captured.map a.eval),h, ?_, ?_⟩
    ·simp only[rel]
     refine ⟨f,_,rfl,h1, ?_⟩
     have:=zhS hs h2
     rw[List.map_map]at this
     rw[Array.toList_map]
     exact this
    ·have hf':first=#[]:=Array.isEmpty_iff.1 hf
     simp[execOp,ho,Instr.makeFunc,hf']
   ·cases hc
  ·cases hc
 ·-- build
  rename_i t parts ho
  have key:∀ (cells:Array Value) (cs:List AV),P.built t (parts.map fun (i,x)=>(i,a.eval x)).toList=some cells→(execOp a.eval o).run P w=.ok (.value (.agg cells)) w:=by
   intro cells cs hb
   simp only[execOp,ho,Sem.run_bind,run_build w t _ cells hb,Result.andThen_ok,Sem.run_pure]
  split at hc
  ·rename_i fs z e1 e2
   split at hc
   ·rename_i hall
    obtain ⟨ps,h1,rfl⟩:=Option.map_eq_some_iff.1 hc
    simp only[zdk]at h
    obtain ⟨cs,ecs,h⟩:=zaM h
    ·obtain ⟨it,zv,hi,hz,hzr⟩:=zbQ (c:=ctx inv M σ β w) e2
     obtain ⟨cells',k1,k2⟩:=zdC hs h1 ecs hzr
     refine ⟨_,.agg cells',h,by simp only[rel];exact ⟨_,rfl,k2⟩,key cells' cs ?_⟩
     have hplaces:∀ l:List Field,(∀ f∈l,(P.info? f.type).isSome=true)→l.mapM (fun f=>(P.info? f.type).map fun i=>(f.offset,i.size))=some (l.map fun f=>(f.offset,P.cellsOf f.type)):=by
      intro l
      induction l with
      |nil=>intro _;rfl
      |cons f l ih =>
       intro hl
       obtain ⟨i,hi⟩:=Option.isSome_iff_exists.1 (hl f (by simp))
       simp[List.mapM_cons,hi,ih (fun f hf=>hl f (by simp[hf])),Program.cellsOf]
     have hall':∀ f∈fs.toList,(P.info? f.type).isSome=true:=by unfold znk at hall;exact List.all_eq_true.1 hall
     simp only[Program.built,hi,e1,hz,hplaces fs.toList hall']
     rw[←k1,Array.toList_map]
     congr 1
     funext i
     simp only[zg2,List.getElem?_toArray,List.getElem?_map,Array.getElem?_toList]
     cases e3:fs[i]? with
     |none=>rfl
     |some f =>
      have hm:f∈fs.toList:=by
       have:=Array.mem_of_getElem? e3
       simpa using this
      obtain ⟨ii,hii⟩:=Option.isSome_iff_exists.1 (hall' f hm)
      simp[siz,hii,Program.cellsOf]
   ·cases hc
  ·rename_i m et z e1 e2
   split at hc
   ·rename_i n e3
    obtain ⟨ps,h1,rfl⟩:=Option.map_eq_some_iff.1 hc
    simp only[zdk]at h
    obtain ⟨cs,ecs,h⟩:=zaM h
    ·obtain ⟨it,zv,hi,hz,hzr⟩:=zbQ (c:=ctx inv M σ β w) e2
     obtain ⟨cells',k1,k2⟩:=zdC hs h1 ecs hzr
     obtain ⟨ie,hie,hn,_⟩:=zi3 e3
     refine ⟨_,.agg cells',h,by simp only[rel];exact ⟨_,rfl,k2⟩,key cells' cs ?_⟩
     simp only[Program.built,hi,e1,hz,hie]
     rw[←k1,Array.toList_map,hn]
     rfl
   ·cases hc
  ·cases hc
 ·-- slice
  rename_i t x lo hi mx ho
  split at hc
  ·rename_i et dx dlo dhi dmx e1 h1 h2 h3 h4
   obtain ⟨n,h5,rfl⟩:=Option.map_eq_some_iff.1 hc
   simp only[zdk]at h
   obtain ⟨z,r,k1,k2,k3⟩:=ziQ (F:=fun lo hi mx=>Instr.sliceAt t (a.eval x) lo hi mx) (fun A len cap hu lo hi mx l h m hm hh hl=>by rw[hu];exact zlm e1 h5 A len cap hm hh hl) (zam hs h1) (zeA hs h2) (zeA hs h3) (zeA hs h4) h
   exact ⟨z,r,k1,k2,by simp only[execOp,ho,Sem.run_bind,k3,Result.andThen_ok,Sem.run_pure]⟩
  ·rename_i m et dx dlo dhi dmx e1 h1 h2 h3 h4
   obtain ⟨n,h5,rfl⟩:=Option.map_eq_some_iff.1 hc
   have r1:=zam hs h1
   simp only[zdk]at h
   split at h
   ·rename_i l ver off ep
    rw[ep]at r1
    obtain ⟨hl,⟨h0,hle⟩,h⟩:=h
    obtain ⟨p,hp,hv,r2⟩:=zc9 hl r1
    have hsm:rel (ctx inv M σ β w) (.sm l ver off m n) (.slice (some ⟨p.block,off,none⟩) m m):=zpf hs.mem hl hp hv h0 hle
    obtain ⟨z,r,k1,k2,k3⟩:=ziQ (F:=fun lo hi mx=>Instr.sliceAt t (a.eval x) lo hi mx) (fun A len cap hu lo hi mx l h m hm hh hl=>by
     simp only[Value.slice.injEq]at hu
     obtain ⟨rfl,rfl,rfl⟩:=hu
     rw[r2]
     exact zhi e1 h5 _ hm hh hl) hsm (zeA hs h2) (zeA hs h3) (zeA hs h4) h
    exact ⟨z,r,k1,k2,by simp only[execOp,ho,Sem.run_bind,k3,Result.andThen_ok,Sem.run_pure]⟩
   ·exact h.elim
  ·cases hc
 ·-- nilCheck
  rename_i x ho
  obtain ⟨d,h1,rfl⟩:=Option.map_eq_some_iff.1 hc
  have r1:=zam hs h1
  simp only[zdk]at h
  split at h
  ·rename_i l ver off et
   rw[et]at r1
   obtain ⟨hl,h⟩:=h
   obtain ⟨p,hp,hv,r2⟩:=zc9 hl r1
   exact ⟨_,_,h,r1,by simp[execOp,ho,r2]⟩
  ·rename_i sz es i k et
   rw[et]at r1
   have r1':=r1
   simp only[rel]at r1
   obtain ⟨ad,r2,_⟩:=r1
   exact ⟨_,_,h,r1',by simp[execOp,ho,r2]⟩
  ·rename_i j cs et
   rw[et]at r1
   have r1':=r1
   simp only[rel]at r1
   obtain ⟨g,xs,r2,_⟩:=r1
   exact ⟨_,_,h,r1',by simp[execOp,ho,r2]⟩
  ·exact h.elim
 ·-- lookup
  rename_i t x k ho
  split at hc
  ·rename_i kt vt e1
   split at hc
   ·rename_i dx dk e2 e3 h1 h2
    simp only[Option.some.injEq]at hc
    subst hc
    have r1:=zam hs h1
    have r2:=zam hs h2
    simp only[zdk]at h
    obtain ⟨v,ev1,h⟩:=zaM h
    unfold zkX at ev1
    split at ev1
    ·rename_i l b em ek
     split at ev1
     ·rename_i kvs hg
      simp only[Option.some.injEq]at ev1
      subst ev1
      rw[em]at r1
      rw[ek]at r2
      simp only[rel]at r1 r2
      have hp:zah β w σ l=some ⟨β l,0,0,true⟩:=by unfold zah;rw[hg]
      have hm:=r1.2 _ hp rfl
      obtain ⟨es,clk,hh,hes⟩:=hs.mem.maps l kvs hg
      obtain ⟨i,hi,hz⟩:=Option.bind_eq_some_iff.1 e3
      refine ⟨_,.int .i64 (zeM kvs b),h,by simp only[rel], ?_⟩
      have hck:=fun e=>Go.MapKept.run_checkKey (w:=w) (k:=.int .i64 b) e2 rfl e 9999
      have hfk:(Instr.findKey kt (.int .i64 b) es.toList).run P w=.ok (zhM es.toList b 0) w:=by
       simp only[Instr.findKey,Sem.run_bind,run_underlying e2,Result.andThen_ok,zgg b es.toList kvs 0 hes,Sem.run_pure]
      have hz':(zeroValue vt).run P w=.ok (.int .i64 0) w:=by simp[zeroValue,typeInfo,hi,hz]
      have hl:(Instr.lookup t (a.eval x) (a.eval k) false).run P w=.ok (.int .i64 (zeM kvs b)) w:=by
       rw[hm,r2]
       rcases zkE b es.toList kvs 0 hes with ⟨f1,f2⟩|⟨j,f1⟩
       ·rw[f1]at hfk
        simp only[Instr.lookup,Sem.run_bind,run_underlying e1,Result.andThen_ok,Go.MapKept.run_getObj_map hh,Sem.run_pure,hck,hfk,hz',f2]
        rfl
       ·rw[f1]at hfk
        simp only[Instr.lookup,Sem.run_bind,run_underlying e1,Result.andThen_ok,Go.MapKept.run_getObj_map hh,Sem.run_pure,hck,hfk]
        rfl
      simp only[execOp,ho,Sem.run_bind,hl,Result.andThen_ok,Sem.run_pure]
     ·cases ev1
    ·cases ev1
   ·cases hc
  ·cases hc
 ·cases hc
end
end Go.Eng
namespace Go.Eng
open Go.RowKit
inductive AOp where
 |set (d:Nat) (e:AVal)
 |alloc (d:Nat) (zero:List (Nat×AV))
 |box (d n:Nat) (x:Opd)
 |isnil (d:Nat) (neg:Bool) (x:Opd)
 |mks0 (d sz:Nat)
 |mksl (d sz len:Nat) (zero:List (Nat×AV)) (parts:List (Nat×Nat×Opd))
 |store (n:Nat) (a x:Opd)
 |app (d:Nat) (s x:Opd) (sz:Nat)
 |make (d:Nat) (len cap:Opd) (zero:List (Nat×AV)) (sz:Nat)
 |call (d:Option Nat) (j:Nat) (args:List Opd)
 |calv (d:Option Nat) (f:Opd) (args:List Opd)
 |callp (d j:Nat) (args:List Opd)
 |gal (d back:Nat) (zero:List (Nat×AV))
 |storeA (n:Nat) (a x:Opd) (pts:List Opd)
 |bad (d:Option Nat)
 |mkmap (d:Nat)
 |mapset (m k v:Opd)
 |appz (d:Nat) (s n:Opd) (zero:List (Nat×AV)) (sz:Nat)
 |calle (d:Option Nat) (j:Nat) (args:List Opd)
 |calve (d:Option Nat) (f:Opd) (args:List Opd)
 |appe (d:Nat) (s x:Opd) (sz:Nat)
 |appA (d:Nat) (s x:Opd) (sz:Nat) (pts:List Opd)
 |mksr (d sz len:Nat) (zero:List (Nat×AV)) (parts:List (Nat×Nat×Opd))
 |callA (d:Option Nat) (j:Nat) (args:List Opd) (pts:List Opd)
 |clr (s:Opd) (zero:List (Nat×AV)) (sz:Nat)
 deriving Inhabited
def AOp.dst:AOp→Option Nat
 |.set d _=>some d|.alloc d _=>some d|.box d _ _=>some d|.isnil d _ _=>some d|.mks0 d _=>some d|.mksl d _ _ _ _=>some d|.store _ _ _=>none|.app d _ _ _=>some d|.make d _ _ _ _=>some d
 |.call d _ _=>d|.calv d _ _=>d|.callp d _ _=>some d|.gal d _ _=>some d|.storeA _ _ _ _=>none|.bad d=>d|.mkmap d=>some d|.mapset _ _ _=>none|.appz d _ _ _ _=>some d|.calle d _ _=>d|.calve d _ _=>d|.appe d _ _ _=>some d|.appA d _ _ _ _=>some d|.mksr d _ _ _ _=>some d|.callA d _ _ _=>d|.clr _ _ _=>none
abbrev GOp:=Option (Nat×Bool)×AOp
inductive ACode where
 |skip
 |reg (ops:List GOp)
 |regd (k:Nat) (ops:List GOp)
 |seq (x y:ACode)
 |cond (c:Opd) (x y:ACode)
 |block (id:Nat) (c:ACode)
 |loop (c:ACode)
 |exit (id:Nat)
 |ret
 |scope (c:ACode)
 |label (l:Nat)
 |goto (l:Nat)
 deriving Inhabited
inductive ARes where
 |tmp (t:Nat)
 |cell (t:Nat) (l:Option Nat)
 deriving Inhabited
structure AFn where
 ntmps:Nat
 res:List ARes
 body:ACode
 deriving Inhabited
def Opd.rd:Opd→List Nat|.t i=>[i]|.c _=>[]
def zlx:Option Opd→List Nat|some x=>x.rd|none=>[]
def zcX:List Opd→List Nat|[]=>[]|x::r=>x.rd++zcX r
def zgb:List (Nat×Nat×Opd)→List Nat|[]=>[]|(_,_,x)::r=>x.rd++zgb r
def AVal.rd:AVal→List Nat
 |.mov x=>x.rd|.pick c a b=>c.rd++(a.rd++b.rd)|.bin _ _ x y=>x.rd++y.rd|.not x=>x.rd|.conv _ x=>x.rd|.load _ a=>a.rd|.fadr a _=>a.rd
 |.iadr x i _ _=>x.rd++i.rd|.fld x _ _=>x.rd|.idx x i _ _ _=>x.rd++i.rd|.len x=>x.rd|.ext x _=>x.rd|.mkfn _ l=>zcX l|.build _ ps=>zgb ps
 |.slc x lo hi mx _=>x.rd++(zlx lo++(zlx hi++zlx mx))|.slca x lo hi mx _ _=>x.rd++(zlx lo++(zlx hi++zlx mx))|.nilck x=>x.rd|.mnx _ x y=>x.rd++y.rd|.cap x=>x.rd|.look m k=>m.rd++k.rd
def AOp.rd:AOp→List Nat
 |.set _ e=>e.rd|.alloc _ _=>[]|.box _ _ x=>x.rd|.isnil _ _ x=>x.rd|.mks0 _ _=>[]|.mksl _ _ _ _ ps=>zgb ps|.store _ a x=>a.rd++x.rd|.app _ s x _=>s.rd++x.rd|.make _ l c _ _=>l.rd++c.rd
 |.call _ _ l=>zcX l|.calv _ f l=>f.rd++zcX l|.callp _ _ l=>zcX l|.gal _ _ _=>[]|.storeA _ a x _=>a.rd++x.rd|.bad _=>[]|.mkmap _=>[]|.mapset m k v=>m.rd++(k.rd++v.rd)|.appz _ s n _ _=>s.rd++n.rd|.calle _ _ l=>zcX l|.calve _ f l=>f.rd++zcX l|.appe _ s x _=>s.rd++x.rd|.appA _ s x _ _=>s.rd++x.rd|.mksr _ _ _ _ ps=>zgb ps|.callA _ _ l _=>zcX l|.clr s _ _=>s.rd
def grd (g:GOp):List Nat:=match g.1 with|some (s,_)=>s::g.2.rd|none=>g.2.rd
def memN:List Nat→Nat→Bool
 |[],_=>false
 |x::r,i=>Nat.beq x i||memN r i
def znY:AOp→Bool|.set _ _=>true|.callp _ _ _=>true|_=>false
def znZ:GOp→Bool|(none,.gal _ _ _)=>true|_=>false
def zdL:AOp→Bool|.store _ _ _=>true|.storeA _ _ _ _=>true|.mapset _ _ _=>true|.appA _ _ _ _ _=>true|.callA _ _ _ _=>true|.clr _ _ _=>true|_=>false
def zlS:AOp→Bool|.appA _ _ _ _ _=>true|.callA _ _ _ _=>true|_=>false
def isFree:AOp→Bool|.set _ (.mov _)=>true|_=>false
def zie:AOp→Bool|.calle _ _ _=>true|.calve _ _ _=>true|.appe _ _ _ _=>true|_=>false
def plain:AOp→AOp|.storeA n a x _=>.store n a x|.appA d s x sz _=>.appA d s x sz []|.callA d j l _=>.callA d j l []|o=>o
def zbW (g:GOp):GOp:=(g.1,plain g.2)
def zf8:AOp→List Opd|.storeA _ _ _ pts=>pts|.appA _ _ _ _ pts=>pts|.callA _ _ _ pts=>pts|_=>[]
def ldPt:AOp→List Opd→Bool
 |.set _ (.load _ (.t s)),pts=>pts.any fun q=>match q with|.t s'=>Nat.beq s s'|.c _=>false
 |.set _ (.fadr (.t s) _),pts=>pts.any fun q=>match q with|.t s'=>Nat.beq s s'|.c _=>false
 |.set _ (.nilck (.t s)),pts=>pts.any fun q=>match q with|.t s'=>Nat.beq s s'|.c _=>false
 |_,_=>false
def isMk0:AOp→Bool|.mks0 _ _=>true|_=>false
def zpN:GOp→Bool|(none,.app _ _ _ _)=>true|(none,.appA _ _ _ _ _)=>true|_=>false
def zpM:GOp→Bool|(none,.gal _ _ z)=>zad (zcE z)|_=>false
def isLdS:AOp→Bool|.set _ (.load _ _)=>true|.set _ (.fadr _ _)=>true|.set _ (.nilck _)=>true|_=>false
def isLd:AVal→Bool|.load _ _=>true|.look _ _=>true|_=>false
def isLdO:AOp→Bool|.set _ e=>isLd e|.callp _ _ _=>true|_=>false
def zfJ (a b:Option Nat):Bool:=match a,b with|some a,some b=>!Nat.beq a b|_,_=>true
def zb4 (l:List Nat) (d:Option Nat):Bool:=match d with|some d=>memN l d|none=>false
def zfu (o:Oper):List Nat:=(o.after.toList.filter fun e=>Region.binds .any e).map (·.on)
def allIn (bits:Nat):List Nat→Bool
 |[]=>true
 |p::r=>bits.testBit p&&allIn bits r
def gAt (gs:List GOp) (i:Nat):GOp:=gs[i]?.getD (none,.set 0 (.mov (.c .u)))
def zpA (gs:List GOp) (prs:List (List Nat)) (bits:Nat):Bool→List Nat→Option Nat
 |_,[]=>none
 |v,i::r=>if !bits.testBit i&&allIn bits (prs[i]?.getD [])&&(!v||znY (gAt gs i).2) then some i else zpA gs prs bits v r
def zed (gs:List GOp) (prs:List (List Nat)) (is:List Nat):Nat→Nat→List Nat
 |0,_=>[]
 |k+1,bits=>match zpA gs prs bits true is with
  |some i=>i::zed gs prs is k (bits ||| 2 ^ i)
  |none=>match zpA gs prs bits false is with
   |some i=>i::zed gs prs is k (bits ||| 2 ^ i)
   |none=>[]
def orBits:List Nat→Nat
 |[]=>0
 |x::r=>x ||| orBits r
def zmQ:List Nat→List Nat→Nat
 |_,[]=>0
 |acc,p::r=>(2 ^ p ||| (acc[p]?.getD 0)) ||| zmQ acc r
def ancGo:List Nat→List (List Nat)→List Nat
 |acc,[]=>acc
 |acc,ps::r=>ancGo (acc++[zmQ acc ps]) r
def zfz (anc:List Nat) (i a:Nat):Bool:=(anc[i]?.getD 0).testBit a
def zkn (gs:List GOp) (anc:List Nat) (j i:Nat):Bool :=
 !Nat.beq j i&&zfJ (gAt gs j).2.dst (gAt gs i).2.dst&&(!isLdS (gAt gs j).2||!zb4 (grd (gAt gs j)) (gAt gs i).2.dst) &&
  ((ldPt (gAt gs j).2 (zf8 (gAt gs i).2)&&!zie (gAt gs i).2&&!zb4 (grd (gAt gs i)) (gAt gs j).2.dst&&!zb4 (grd (gAt gs j)) (gAt gs i).2.dst&&!zb4 (grd (gAt gs j)) (gAt gs j).2.dst)||zfz anc i j||(znZ (gAt gs j)&&znZ (gAt gs i))||(znY (gAt gs j).2&&!zie (gAt gs i).2&&!(zdL (gAt gs i).2&&isLdO (gAt gs j).2)&&(!zlS (gAt gs i).2||isFree (gAt gs j).2)&&!zb4 (grd (gAt gs i)) (gAt gs j).2.dst&&!zb4 (grd (gAt gs j)) (gAt gs i).2.dst) ||
   (isMk0 (gAt gs j).2&&!zie (gAt gs i).2&&!zb4 (grd (gAt gs i)) (gAt gs j).2.dst&&!zb4 (grd (gAt gs j)) (gAt gs i).2.dst)||(zpN (gAt gs j)&&zpM (gAt gs i)&&!zb4 (grd (gAt gs j)) (gAt gs i).2.dst&&!zb4 (zcX (zf8 (gAt gs j).2)) (gAt gs i).2.dst))
def zjj (gs:List GOp) (anc:List Nat):List Nat→Bool
 |[]=>true
 |j::r=>(r.all fun i=>zkn gs anc j i)&&zjj gs anc r
def zhu (prs:List (List Nat)):List Nat→List Nat→Bool
 |_,[]=>true
 |pre,i::r=>((prs[i]?.getD []).all fun p=>memN pre p)&&zhu prs (i::pre) r
def zqB (ord:List Nat) (n:Nat):Bool:=(List.range n).all fun i=>memN ord i
def ancOk (prs:List (List Nat)) (anc:List Nat) (n:Nat):Bool:=(List.range n).all fun i=>(List.range n).all fun a=>!zfz anc i a||(prs[i]?.getD []).any fun p=>Nat.beq p a||zfz anc p a
def zm0 (ord:List Nat) (n:Nat):Bool:=ord.all fun i=>Nat.blt i n
def zkJ (gs:List GOp) (prs:List (List Nat)) (anc ord:List Nat) (n:Nat):Bool :=
 zjj gs anc ord&&zhu prs [] ord&&zqB ord n&&ancOk prs anc n&&zm0 ord n
section compile
variable (P:Program) (inv:Nat→Option Nat) (n:Nat)
def zma (ty:TypeId) (d:Option Nat) (c:Call):Option AOp :=
 match c.callee with
 |.value (.func g)=>match inv g,zkL P inv (c.argTypes.toList.zip c.args.toList) with
  |some j,some l=>if c.argTypes.size=c.args.size then some (.call d j l) else none
  |_,_=>none
 |.value f=>match zcM P inv ty f,zkL P inv (c.argTypes.toList.zip c.args.toList) with
  |some f,some l=>if c.argTypes.size=c.args.size then some (.calv d f l) else none
  |_,_=>none
 |.builtin .clear=>match d,c.args.toList,c.argTypes.toList with
  |none,[s],[t]=>match P.underlying t,zcM P inv t s with
   |some (.slice e),some s=>match P.info? e,zdm P e with
    |some i,some z=>if 0<i.size∧(zcE z).length=i.size then some (.clr s z i.size) else none
    |_,_=>none
   |_,_=>none
  |_,_,_=>none
 |.builtin .append=>match d,c.args.toList,c.argTypes.toList with
  |some d,[s,x],[t,u]=>match P.underlying t,P.underlying u,zcM P inv t s,zcM P inv u x with
   |some (.slice e),some (.slice _),some s,some x=>match P.info? e with
    |some i=>match i.zero with
     |some z=>if 0<i.size∧z.cells.size=i.size∧i.bytes≤32768 then some (.app d s x i.size) else none
     |none=>none
    |none=>none
   |some (.slice e),some (.int _),some s,some x=>match P.info? e,zdm P e with
    |some i,some z=>if 0<i.size∧(zcE z).length=i.size∧i.bytes≤32768 then some (.appz d s x z i.size) else none
    |_,_=>none
   |_,_,_,_=>none
  |_,_,_=>none
 |_=>none
def zbq (o:Oper):Option AOp :=
 match o.op with
 |.alloc t=>(zdm P t).map (.alloc (o.dst.getD 0))
 |.box t x=>match siz P t,zcM P inv t x with|some k,some x=>some (.box (o.dst.getD 0) k x)|_,_=>none
 |.binOp op t x (.const (.slice none 0 0)) _=>match P.underlying t with
  |some (.slice _)=>match op,zcM P inv t x with
   |.eql,some x=>some (.isnil (o.dst.getD 0) false x)
   |.neq,some x=>some (.isnil (o.dst.getD 0) true x)
   |_,_=>none
  |_=>none
 |.buildSlice t len parts=>if len=0∧parts.isEmpty=true then (match P.underlying t with
  |some (.slice e)=>(siz P e).map (.mks0 (o.dst.getD 0))
  |_=>none) else match P.underlying t with
  |some (.slice e)=>match siz P e,zdm P e with
   |some k,some z=>match zeO P inv (fun i=>some (i*k,k,e)) parts.toList with
    |some ps=>if 0<k∧0<len∧len*k≤16777216∧(zcE z).length=k then some (.mksl (o.dst.getD 0) k len z ps) else none
    |none=>none
   |_,_=>none
  |_=>none
 |.store t a x=>match siz P t,zcM P inv o.type a,zcM P inv t x with|some k,some a,some x=>some (.store k a x)|_,_,_=>none
 |.makeSlice t l c=>match P.underlying t with
  |some (.slice e)=>match P.info? e,zdm P e,zcM P inv o.type l,zcM P inv o.type c with
   |some i,some z,some l,some c=>if 0<i.size∧(zcE z).length=i.size∧i.bytes≤32768 then some (.make (o.dst.getD 0) l c z i.size) else none
   |_,_,_,_=>none
  |_=>none
 |.call c=>zma P inv o.type o.dst c
 |.makeMap _ none=>some (.mkmap (o.dst.getD 0))
 |.mapUpdate t m k v=>match P.underlying t with
  |some (.map kt vt)=>match P.underlying kt,zcM P inv t m,zcM P inv kt k,zcM P inv vt v with
   |some (.int .i64),some m,some k,some v=>some (.mapset m k v)
   |_,_,_,_=>none
  |_=>none
 |_=>none
def zii:Option Nat→Bool
 |some d=>decide (d<n)
 |none=>true
def zba (o:Oper):Option AOp :=
 match zgi P inv o with
 |some e=>match o.dst with
  |some d=>if d<n then some (.set d e) else none
  |none=>none
 |none=>match zbq P inv o with
  |some op=>if op.dst=o.dst∧zii n o.dst=true then some op else none
  |none=>if zii n o.dst=true then some (.bad o.dst) else none
def zec (ops:Array Oper):Option (Nat×Bool)→Option (Option (Nat×Bool))
 |none=>some none
 |some (j,want)=>match (ops[j]?).bind (·.dst) with
  |some s=>if s<n then some (some (s,want)) else none
  |none=>none
def zbj (ops:Array Oper):List Oper→Option (List GOp)
 |[]=>some []
 |o::r=>match zec n ops o.guard,zba P inv n o,zbj ops r with
  |some g,some x,some l=>some ((g,x)::l)
  |_,_,_=>none
def zhE:List GOp→Nat
 |[]=>0
 |(none,.alloc _ _)::r=>zhE r+1
 |_::r=>zhE r
def ptsAt (gs:List GOp) (anc:List Nat) (i:Nat):List Nat→List Opd
 |[]=>[]
 |j::r=>if Nat.beq j i=true then [] else match (gAt gs j).2 with
  |.set _ (.load _ p)=>if zfz anc i j=true then ptsAt gs anc i r else p::ptsAt gs anc i r
  |_=>ptsAt gs anc i r
def zjg (gs:List GOp) (anc:List Nat) (i:Nat):List Nat→List Opd
 |[]=>[]
 |j::r=>if Nat.beq j i=true then [] else match (gAt gs j).2 with
  |.set _ (.load _ p)=>if zfz anc i j=true then zjg gs anc i r else p::zjg gs anc i r
  |.set _ (.fadr p _)=>if zfz anc i j=true then zjg gs anc i r else p::zjg gs anc i r
  |.set _ (.nilck p)=>if zfz anc i j=true then zjg gs anc i r else p::zjg gs anc i r
  |_=>zjg gs anc i r
def addPt (gs:List GOp) (anc ord:List Nat) (i:Nat):GOp:=match gAt gs i with
 |(g,.store n a x)=>(g,.storeA n a x (ptsAt gs anc i ord))
 |g=>g
def zh7 (gs:List GOp) (anc ord:List Nat):List GOp:=(List.range gs.length).map (addPt gs anc ord)
def anchored (anc:List Nat) (i:Nat) (ord:List Nat):Bool:=ord.all fun k=>Nat.beq k i||zfz anc i k||zfz anc k i
def isIns (j:Nat):Bool:=Nat.beq j 258||Nat.beq j 262
def opdIs (d:Nat):Opd→Bool|.t s=>Nat.beq s d|.c _=>false
def rowed (gs:List GOp) (d:Nat):Bool:=gs.any fun g=>match g.2 with|.call _ j l=>isIns j&&l.any (opdIs d)|.app _ s _ _=>opdIs d s|_=>false
def effOp (gs:List GOp) (anc ord:List Nat) (i:Nat) (g:GOp):GOp:=match anchored anc i ord,g with
 |true,(gd,.call d j l)=>(gd,.calle d j l)
 |true,(gd,.calv d f l)=>(gd,.calve d f l)
 |true,(gd,.app d s x sz)=>(gd,.appe d s x sz)
 |false,(gd,.app d (.t s) x sz)=>(gd,.appA d (.t s) x sz (zjg gs anc i ord))
 |false,(gd,.call d j l)=>if isIns j=true then (gd,.callA d j l (zjg gs anc i ord)) else (gd,.call d j l)
 |_,(gd,.mksl d sz len z ps)=>if rowed gs d=true then (gd,.mksr d sz len z ps) else (gd,.mksl d sz len z ps)
 |_,g=>g
def zl6 (gs:List GOp) (anc ord:List Nat):List GOp:=(List.range gs.length).map fun i=>effOp gs anc ord i (gAt gs i)
def zjf (k:Nat):Nat→List GOp→List GOp
 |_,[]=>[]
 |c,(none,.alloc d z)::r=>(none,.gal d (k-c) z)::zjf k (c+1) r
 |c,(g,.call (some d) j l)::r=>(g,.callp d j l)::zjf k c r
 |c,g::r=>g::zjf k c r
def drawn (prs:List (List Nat)) (gs:List GOp) (k:Nat):Option ACode :=
 let anc:=ancGo [] prs
 let ord:=zed gs prs (List.range gs.length) gs.length 0
 if zkJ (zl6 gs anc ord) prs anc ord gs.length then some (.regd k (ord.map (gAt (zl6 gs anc ord))))
 else if zkJ (zh7 (zl6 gs anc ord) anc ord) prs anc ord gs.length then some (.regd k (ord.map (gAt (zh7 (zl6 gs anc ord) anc ord))))
 else none
def zfK (ops:Array Oper):Option ACode :=
 match zbj P inv n ops ops.toList with
 |some gs=>match drawn (ops.toList.map zfu) gs 0 with
  |some c=>some c
  |none=>drawn (ops.toList.map zfu) (zjf (zhE gs) 0 gs) (zhE gs)
 |none=>none
def zak:Code→Option ACode
 |.skip=>some .skip
 |.region _ ops false=>(zbj P inv n ops ops.toList).map .reg
 |.region _ ops true=>zfK P inv n ops
 |.seq x y=>match zak x,zak y with|some x,some y=>some (.seq x y)|_,_=>none
 |.cond c x y=>match zcM P inv 0 c,zak x,zak y with|some c,some x,some y=>some (.cond c x y)|_,_,_=>none
 |.block id c=>(zak c).map (.block id)
 |.loop c=>(zak c).map .loop
 |.exit id=>some (.exit id)
 |.ret=>some .ret
 |.scope c=>(zak c).map .scope
 |.label l=>some (.label l)
 |.goto l=>some (.goto l)
 |_=>none
def cres:List ResultVar→Option (List ARes)
 |[]=>some []
 |.tmp t::r=>(cres r).map (.tmp t::·)
 |.cell t ty::r=>match lay P ty,cres r with|some l,some r=>some (.cell t l::r)|_,_=>none
def zkN (fn:Func):Option AFn :=
 match fn.body,cres P fn.results.toList with
 |some c,some r=>(zak P inv fn.ntmps c).map fun c=>⟨fn.ntmps,r,c⟩
 |_,_=>none
end compile
def zb0 (P:Program) (inv:Nat→Option Nat):Prop:=P.follows .mixedOrders=true∧∀ g j,inv g=some j→∃ fn,P.funcs[g]?=some fn∧fn.body.isNone=false∧(fn.name == "runtime.NumGoroutine")=false
def Has (P:Program) (inv:Nat→Option Nat) (j:Nat) (F:AFn):Prop:=∀ g,inv g=some j→∃ fn,P.funcs[g]?=some fn∧zkN P inv fn=some F
section
variable (P:Program) (inv:Nat→Option Nat) (w0:World) (M:Nat→Prop)
def AC (N:Nat) (j:Nat) (args:List AV) (σ:AS) (R:AV→AS→Prop):Prop :=
 ∀ g,inv g=some j→∀ (β:Nat→Nat) (w:World) (vs:Array Value),Mem inv w0 M σ β w→zbz (ctx inv M σ β w) args vs.toList →
  Calls P g vs w fun e w'=>∃ v r σ' β',e=.returned v∧R r σ'∧Mem inv w0 M σ' β' w'∧Ext N (ctx inv M σ β w) (ctx inv M σ' β' w')∧rel (ctx inv M σ' β' w') r v
def CallK (N:Nat) (φ:AF) (σ:AS) (j:Nat) (args:List AV) (R:AV→AS→Prop) (_:Tok R:=.mk):Prop:=∃ N',N≤N'∧zaC φ≤N'∧AC P inv w0 M N' j args σ R
def zcn (φ:AF) (d:Option Nat) (x:AV):AF:=match d with|some d=>za5 φ d x|none=>φ
def zk4 (σ:AS) (sz:Nat):AV→(Nat→List AV→Prop)→Prop
 |.s0 _,K=>K 0 []
 |.sl sz' es,K=>ob (sz'=sz) (K es.length es.flatten)
 |.sm l ver off n sz',K=>ob (sz'=sz) (match zax σ l with
  |some (.cells cs _)=>ob (cs.length=ver) (K n (seg cs off (n*sz)))
  |_=>False)
 |_,_=>False
def zk1 (φ:AF) (σ:AS) (l:Nat) (d sz:Nat) (dest:AV) (m:Nat) (new:List AV) (K:AF→AS→Prop):Prop :=
 match dest with
 |.s0 _=>ob (m≤2147483648) <| K (za5 φ d (.sm l (m*sz) 0 m sz)) (zaQ σ l (.cells new (decide (0<m))))
 |.sm l ver off n sz'=>ob (sz'=sz) <| ob (off=0) <| ob (n*sz=ver) <| ob (n+m≤2147483648) (match zax σ l with
  |some (.cells cs r)=>ob (cs.length=ver) <| K (za5 φ d (.sm l ((n+m)*sz) 0 (n+m) sz)) (zaQ σ l (.cells (cs++new) (r||decide (0<m))))
  |_=>False)
 |_=>False
def SLe (σ σ':List (Nat×AO)):Prop:=∀ l o,zax σ l=some o→o≠.rsv→zax σ' l=some o
def zqS (σ:AS) (j:Nat) (args:List AV) (K:AV→Prop) (_:Tok K:=.mk):Prop:=∃ r,(∀ N' φ' σ',SLe σ σ'→CallK P inv w0 M N' φ' σ' j args fun r' σ''=>r'=r∧σ''=σ')∧K r
def zcb (b:Nat):Nat→List (Nat×AO)→List (Nat×AO)
 |0,σ=>σ
 |k+1,σ=>zaQ (zcb b k σ) (b+k) .rsv
def znP (n:Nat) (neg:Bool) (K:Bool→Prop) (_:Tok K:=.mk):Prop:=(n=0→K (!neg))∧K neg
def zfO (l:Nat):AV→Bool|.ptr l' _ _=>!Nat.beq l' l|_=>true
def zme (φ:AF) (dest:AV) (pts:List Opd):Bool:=match dest with|.sm l _ _ _ _=>pts.all fun p=>zfO l (ev φ p)|_=>true
def zmd (φ:AF) (l:Nat) (pts:List Opd):Bool:=pts.all fun p=>zfO l (ev φ p)
def zlO (σ σ':AS):AV→Prop|.ptr l _ _=>zax σ' l=zax σ l|_=>True
def farP (φ:AF) (σ σ':AS):List Opd→Prop
 |[]=>True
 |p::r=>zlO σ σ' (ev φ p)∧farP φ σ σ' r
def aop (N:Nat) (o:AOp) (φ:AF) (σ:AS) (K:AF→AS→Prop):Prop :=
 match o with
 |.set d e=>zdk φ σ e fun x=>K (za5 φ d x) σ
 |.alloc d zero=>K (za5 φ d (.ptr (zas N φ σ) (zcE zero).length 0)) (zaQ σ (zas N φ σ) (.cells (zcE zero) true))
 |.box d n x=>ob ((ev φ x).sound=true) <| ob ((ev φ x).cells.length=n) <| K (za5 φ d (.ptr (zas N φ σ) n 0)) (zaQ σ (zas N φ σ) (.cells (ev φ x).cells true))
 |.isnil d neg x=>match ev φ x with
  |.sl _ es=>znP es.length neg fun t=>K (za5 φ d (.b t)) σ
  |.s0 _=>znP 0 neg fun t=>K (za5 φ d (.b t)) σ
  |.sm l ver _ n _=>ob (zbL σ l ver) <| znP n neg fun t=>K (za5 φ d (.b t)) σ
  |_=>False
 |.mks0 d sz=>K (za5 φ d (.s0 sz)) σ
 |.mksl d sz len zero parts=>zcl (zc0 φ (List.replicate len (zcE zero)).flatten parts) fun cs =>
  match zad cs with
  |true=>K (za5 φ d (.sl sz (zbv sz len cs))) σ
  |false=>K (za5 φ d (.sm (zas N φ σ) (len*sz) 0 len sz)) (zaQ σ (zas N φ σ) (.cells cs true))
 |.store n a x=>match ev φ a with
  |.ptr l ver off=>match zax σ l with
   |some (.cells cs r)=>ob (cs.length=ver) <| ob ((ev φ x).sound=true) <| ob ((ev φ x).cells.length=n) <| ob (0<n∧off+n≤ver) <| K φ (zaQ σ l (.cells (ovl cs off (ev φ x).cells) r))
   |_=>False
  |_=>False
 |.app d s x sz=>zk4 σ sz (ev φ x) fun m new=>zk1 φ σ (zas N φ σ) d sz (ev φ s) m new K
 |.make d len cap zero sz=>match ev φ len,ev φ cap with
  |.i _ a,.i _ c=>ob (0≤a∧a≤c∧c≤2147483648) <| K (za5 φ d (.sm (zas N φ σ) (a.toNat*sz) 0 a.toNat sz)) (zaQ σ (zas N φ σ) (.cells (List.replicate a.toNat (zcE zero)).flatten true))
  |_,_=>False
 |.call d j args=>CallK P inv w0 M N φ σ j (args.map (ev φ)) fun r σ'=>K (zcn φ d r) σ'
 |.calv d f args=>match ev φ f with
  |.fn j caps=>CallK P inv w0 M N φ σ j (args.map (ev φ)++caps) fun r σ'=>K (zcn φ d r) σ'
  |_=>False
 |.callp d j args=>zqS P inv w0 M σ j (args.map (ev φ)) fun r=>K (za5 φ d r) σ
 |.gal d back zero=>match zax σ (N-back) with
  |some .rsv=>ob (0<(zcE zero).length) <| K (za5 φ d (.ptr (N-back) (zcE zero).length 0)) (zaQ σ (N-back) (.cells (zcE zero) true))
  |_=>False
 |.storeA n a x pts=>match ev φ a with
  |.ptr l ver off=>ob (zmd φ l pts=true) (match zax σ l with
   |some (.cells cs r)=>ob (cs.length=ver) <| ob ((ev φ x).sound=true) <| ob ((ev φ x).cells.length=n) <| ob (0<n∧off+n≤ver) <| K φ (zaQ σ l (.cells (ovl cs off (ev φ x).cells) r))
   |_=>False)
  |_=>False
 |.bad _=>False
 |.calle d j args=>CallK P inv w0 M N φ σ j (args.map (ev φ)) fun r σ'=>K (zcn φ d r) σ'
 |.calve d f args=>match ev φ f with
  |.fn j caps=>CallK P inv w0 M N φ σ j (args.map (ev φ)++caps) fun r σ'=>K (zcn φ d r) σ'
  |_=>False
 |.appe d s x sz=>zk4 σ sz (ev φ x) fun m new=>zk1 φ σ (zas N φ σ) d sz (ev φ s) m new K
 |.appA d s x sz pts=>zk4 σ sz (ev φ x) fun m new=>ob (zme φ (ev φ s) pts=true) (zk1 φ σ (zas N φ σ) d sz (ev φ s) m new K)
 |.mksr d sz len zero parts=>zcl (zc0 φ (List.replicate len (zcE zero)).flatten parts) fun cs =>
  K (za5 φ d (.sm (zas N φ σ) (len*sz) 0 len sz)) (zaQ σ (zas N φ σ) (.cells cs true))
 |.callA d j args pts=>CallK P inv w0 M N φ σ j (args.map (ev φ)) fun r σ'=>ob (farP φ σ σ' pts) (K (zcn φ d r) σ')
 |.clr s zero sz=>match ev φ s with
  |.s0 _=>K φ σ
  |.sm l ver off n sz'=>ob (sz'=sz) <| ob (off+n*sz≤ver) (match zax σ l with
   |some (.cells cs r)=>ob (cs.length=ver) (K φ (zaQ σ l (.cells (ovl cs off (List.replicate n (zcE zero)).flatten) r)))
   |_=>False)
  |_=>False
 |.mkmap d=>K (za5 φ d (.mp (zas N φ σ))) (zaQ σ (zas N φ σ) (.imap []))
 |.mapset m k v=>match ev φ m,ev φ k,ev φ v with
  |.mp l,.i .i64 a,.i .i64 b=>(match zax σ l with
   |some (.imap kvs)=>K φ (zaQ σ l (.imap (zks kvs a b)))
   |_=>False)
  |_,_,_=>False
 |.appz d s n zero sz=>match ev φ s,ev φ n with
  |.s0 _,.i .i64 a=>ob (0≤a∧a≤2147483648) <| K (za5 φ d (.sm (zas N φ σ) (a.toNat*sz) 0 a.toNat sz)) (zaQ σ (zas N φ σ) (.cells (List.replicate a.toNat (zcE zero)).flatten (decide (0<a.toNat))))
  |_,_=>False
def zbw (N:Nat):List GOp→(AF→AS→Prop)→AF→AS→Prop
 |[],K,φ,σ=>K φ σ
 |(none,o)::r,K,φ,σ=>aop P inv w0 M N o φ σ (zbw N r K)
 |(some (s,true),o)::r,K,φ,σ=>match za3 φ s with
  |.b t=>zeV t (aop P inv w0 M N o (ziF φ s (.b true)) σ (zbw N r K)) (zbw N r K (zcn (ziF φ s (.b false)) o.dst .u) σ)
  |.u=>zbw N r K (zcn φ o.dst .u) σ
  |_=>False
 |(some (s,false),o)::r,K,φ,σ=>match za3 φ s with
  |.b t=>zeV t (zbw N r K (zcn (ziF φ s (.b true)) o.dst .u) σ) (aop P inv w0 M N o (ziF φ s (.b false)) σ (zbw N r K))
  |.u=>zbw N r K (zcn φ o.dst .u) σ
  |_=>False
def zaP (N:Nat) (o:AOp) (φ:AF) (σ:AS) (K:AF→AS→Prop):Prop :=
 match o with
 |.call d j args=>CallK P inv w0 M N φ σ j (args.map (ev φ)) fun r σ'=>ob (SLe σ σ') (K (zcn φ d r) σ')
 |.calv d f args=>match ev φ f with
  |.fn j caps=>CallK P inv w0 M N φ σ j (args.map (ev φ)++caps) fun r σ'=>ob (SLe σ σ') (K (zcn φ d r) σ')
  |_=>False
 |.app d s x sz=>aop P inv w0 M N (.app d s x sz) φ σ fun φ' σ'=>ob (SLe σ σ') (K φ' σ')
 |o=>aop P inv w0 M N o φ σ K
def zbi (N:Nat):List GOp→(AF→AS→Prop)→AF→AS→Prop
 |[],K,φ,σ=>K φ σ
 |(none,o)::r,K,φ,σ=>zaP P inv w0 M N o φ σ (zbi N r K)
 |(some (s,true),o)::r,K,φ,σ=>match za3 φ s with
  |.b t=>zeV t (zaP P inv w0 M N o (ziF φ s (.b true)) σ (zbi N r K)) (zbi N r K (zcn (ziF φ s (.b false)) o.dst .u) σ)
  |.u=>zbi N r K (zcn φ o.dst .u) σ
  |_=>False
 |(some (s,false),o)::r,K,φ,σ=>match za3 φ s with
  |.b t=>zeV t (zbi N r K (zcn (ziF φ s (.b true)) o.dst .u) σ) (zaP P inv w0 M N o (ziF φ s (.b false)) σ (zbi N r K))
  |.u=>zbi N r K (zcn φ o.dst .u) σ
  |_=>False
structure St (n:Nat) (φ:AF) (σ:AS) (β:Nat→Nat) (a:Act) (w:World):Prop extends Knows inv w0 M φ σ β a w where
 size:a.tmps.size=n
 defers:a.defers=[]
def AWp (N n:Nat) (c:ACode) (Q:Exit→AF→AS→Prop) (φ:AF) (σ:AS):Prop :=
 ∀ c₀,zak P inv n c₀=some c→∀ β a w,St inv w0 M n φ σ β a w →
  c₀.wp P (fun e a' w'=>∃ φ' σ' β',Q e φ' σ'∧St inv w0 M n φ' σ' β' a' w'∧Ext N (ctx inv M σ β w) (ctx inv M σ' β' w')) a w
end
def ares (φ:AF) (σ:AS):ARes→Option AV
 |.tmp t=>some (za3 φ t)
 |.cell t l=>zc2 σ l (za3 φ t)
def zh0 (φ:AF) (σ:AS):List ARes→Option (List AV)
 |[]=>some []
 |r::rs=>match ares φ σ r,zh0 φ σ rs with|some x,some l=>some (x::l)|_,_=>none
def zdP (φ:AF) (σ:AS) (rs:List ARes):Option AV :=
 match zh0 φ σ rs with
 |some [x]=>some x
 |some l=>some (.tup l)
 |none=>none
def zk5:Nat→List AV→List (Nat×AV)
 |_,[]=>[]
 |k,x::xs=>(k,x)::zk5 (k+1) xs
end Go.Eng
