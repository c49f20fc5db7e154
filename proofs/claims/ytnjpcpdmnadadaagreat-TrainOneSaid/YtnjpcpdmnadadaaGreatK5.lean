/-
  A part of the engine that walks the functions' codes, and of the functions' contracts. Conditions: those that each theorem names.
-/
import Derived.Test.YtnjpcpdmnadadaaGreatK4
import Derived.Below
import Derived.Calls
import Derived.ChangeKeysEq
import Derived.DataReads
import Derived.Deep.LoopGhost
import Derived.Laws.AppendOwn
import Derived.Laws.Cells
import Derived.Laws.CopyRow
import Derived.Laws.Entries
import Derived.Laws.MakeOwn
import Derived.Laws.Rows
import Derived.Laws.StructEq
import Derived.Laws.Tables
import Derived.Lib.AppendZerosOnto
import Derived.MapKept
import Derived.Orders
import Derived.ProofKit
import Derived.ScopeJumps
import Derived.Tactics2
import Derived.WalkSpells
set_option linter.unusedSimpArgs false
set_option linter.unusedVariables false
set_option linter.unusedSectionVars false
namespace Go.Eng
open Go.RowKit
section
variable {P:Program} {inv:Nat→Option Nat} {w0:World} {M:Nat→Prop} {n N:Nat} {φ:AF} {σ:AS} {β:Nat→Nat} {a:Act} {w:World}
theorem znd {d:Option Nat} (h:zii n d=true):∀ k,d=some k→k<n:=by
 intro k hk
 subst hk
 simpa [zii] using h
theorem ziO (hE:zb0 P inv) (hs:St inv w0 M n φ σ β a w) {g j:Nat} (hg:inv g=some j) {args:List AV} {vs:Array Value} (hr:zbz (ctx inv M σ β w) args vs.toList) {K:AF→AS→Prop} {d:Option Nat} (hd:∀ k,d=some k→k<n)
  (h:CallK P inv w0 M N φ σ j args fun r σ'=>K (zcn φ d r) σ') {o:Oper} (ho:o.dst=d) {zbf:Act→World→Prop} {Q:Exit→Act→World→Prop}
  (hn:∀ φ' σ' β' a' w',K φ' σ'→St inv w0 M n φ' σ' β' a' w'→Ext N (ctx inv M σ β w) (ctx inv M σ' β' w')→zbf a' w')
  (hx:(execOp a.eval o).run P w=(callFunc g vs).run P w):o.wp P a w zbf Q:=by
 obtain ⟨fn,h1,h2,h3⟩:=hE.2 g j hg
 unfold Oper.wp
 have hc:(callFunc g vs).run P w=.ok (.enter g vs) w:=by
  simp only[callFunc,Sem.run_bind,run_program,Result.andThen_ok,h1,h3,h2,Bool.false_eq_true,if_false,Sem.run_pure]
 rw[hx,hc]
 simp only[Oper.upon]
 obtain ⟨N',hN,hφ,hac⟩:=h
 refine (hac g hg β w vs hs.mem hr).mono fun e w' ⟨v,r,σ',β',he,hk,hm,hext,hrr⟩=>?_
 subst he
 show zbf (a.put o.dst v) w'
 rw[ho]
 cases d with
 |none=>exact hn _ _ _ _ _ hk (hs.keep hm hext hφ) (hext.mono hN)
 |some d=>exact hn _ _ _ _ _ hk (hs.put hm hext hφ (hd d rfl) hrr) (hext.mono hN)
theorem zkK (hs:Knows inv w0 M φ σ β a w) {ts:List TypeId} {xs:List Operand} {l:List Opd} (h:zkL P inv (ts.zip xs)=some l) (hl:ts.length=xs.length):zbz (ctx inv M σ β w) (l.map (ev φ)) (xs.map a.eval):=by
 have:=zhS hs h
 have e:(ts.zip xs).map (fun p=>a.eval p.2)=xs.map a.eval:=by
  show (ts.zip xs).map (a.eval∘Prod.snd)=_
  rw[←List.map_map,List.map_snd_zip (by omega)]
 rw[e]at this
 exact this
set_option maxHeartbeats 1000000 in
theorem zqw (hE:zb0 P inv) (hM:∀ b,M b→b<w0.heap.size) (hs:St inv w0 M n φ σ β a w) {o:Oper} {op:AOp} (hc:zbq P inv o=some op) (hdst:op.dst=o.dst) (hok:zii n o.dst=true) {K:AF→AS→Prop} (h:aop P inv w0 M N op φ σ K)
  {zbf:Act→World→Prop} {Q:Exit→Act→World→Prop} (hn:∀ φ' σ' β' a' w',K φ' σ'→St inv w0 M n φ' σ' β' a' w'→Ext N (ctx inv M σ β w) (ctx inv M σ' β' w')→zbf a' w'):o.wp P a w zbf Q:=by
 have hdl:=znd hok
 obtain ⟨f1,f2,f3⟩:=zbe N φ σ
 have val:∀ {v:Value} {w':World},(execOp a.eval o).run P w=.ok (.value v) w'→zbf (a.put o.dst v) w'→o.wp P a w zbf Q:=by
  intro v w' h1 h2
  unfold Oper.wp
  rw[h1]
  exact h2
 unfold zbq at hc
 split at hc
 ·-- alloc
  rename_i t ho
  obtain ⟨z,h1,rfl⟩:=Option.map_eq_some_iff.1 hc
  simp only[AOp.dst]at hdst
  obtain ⟨i,zv,hi,hz,hzr⟩:=zbQ (c:=ctx inv M σ β w) h1
  have hlen:=zav hzr
  have hnew:=hs.new_ptr (N:=N) (ty:=t) (hdl _ hdst.symm) (cs:=zcE z) (xs:=zv.cells) (by rw[zbG h1];omega) (by simpa using hlen) hzr
  refine val (v:=.pointer (some ⟨w.heap.size,0,none⟩)) (w':=w.alloc (.cells zv.cells t)) ?_ ?_
  ·simp only[execOp,ho,Sem.run_bind,zeK hi hz,Result.andThen_ok,Sem.run_pure]
  ·rw[←hdst];exact hn _ _ _ _ _ h hnew.1 hnew.2
 ·-- box
  rename_i t x ho
  split at hc
  ·rename_i k dx h1 h2
   simp only[Option.some.injEq]at hc
   subst hc
   simp only[AOp.dst]at hdst
   obtain ⟨k1,k2,h⟩:=h
   have hx:=zam hs.toKnows h2
   have hxc:=zhV k1 hx
   have hlen:=zav hxc
   have hnew:=hs.new_ptr (N:=N) (ty:=t) (hdl _ hdst.symm) (cs:=(ev φ dx).cells) (xs:=(a.eval x).cells) (Nat.le_trans (ze4 _) (Nat.le_trans (zjD dx (zgh h2)) f2)) (by simpa using hlen) hxc
   refine val (v:=.pointer (some ⟨w.heap.size,0,none⟩)) (w':=w.alloc (.cells (a.eval x).cells t)) ?_ ?_
   ·simp[execOp,ho,Instr.box,newVar,newRow]
   ·rw[←hdst]
    rw[k2]at hnew
    exact hn _ _ _ _ _ h hnew.1 hnew.2
  ·cases hc
 ·-- a slice and nil
  rename_i op0 t x _ ho
  split at hc
  ·rename_i et e1
   have hn':∀ (ad:Option Addr) (len cap:Nat) (neg:Bool),op0=(if neg=true then .neq else .eql)→a.eval x=.slice ad len cap→(ad=none→len=0)→znP len neg (fun t=>K (za5 φ (o.dst.getD 0) (.b t)) σ)→o.dst=some (o.dst.getD 0)→o.wp P a w zbf Q:=by
    intro ad len cap neg hop hx hz hk hds
    have hg:=zcd (P:=P) (w:=w) op0 t x (.const (.slice none 0 0)) (.slice ad len cap) (.slice none 0 0) (by simp) (by simp)
    have hcst:a.eval (.const (.slice none 0 0))=.slice none 0 0:=rfl
    have hv:(execOp a.eval o).run P w=.ok (.value (.bool (ad.isNone != neg))) w:=by
     cases neg with
     |true =>
      simp only[if_true]at hop
      subst hop
      simp only[execOp,ho,hx,hcst,Sem.run_bind,hg,Result.andThen_ok,run_neq_slice_nil_any w t et ad len cap 0 0 e1,Sem.run_pure]
      simp
     |false =>
      simp only[Bool.false_eq_true,if_false]at hop
      subst hop
      simp only[execOp,ho,hx,hcst,Sem.run_bind,hg,Result.andThen_ok,Lib.run_eql_slice_nil w t et ad len cap 0 0 e1,Sem.run_pure]
      simp
    refine val hv ?_
    have hput:∀ b,K (za5 φ (o.dst.getD 0) (.b b)) σ→zbf (a.put o.dst (.bool b)) w:=by
     intro b hk
     rw[hds]
     exact hn _ _ _ _ _ hk (hs.set (hdl _ hds) (by simp only[rel])) (.refl _ _)
    cases ad with
    |none=>have:=hput (!neg) (hk.1 (hz rfl));simpa using this
    |some ad=>have:=hput neg hk.2;simpa using this
   have fin:∀ (dx:Opd) (neg:Bool),op0=(if neg=true then .neq else .eql)→zcM P inv t x=some dx→op=.isnil (o.dst.getD 0) neg dx→o.wp P a w zbf Q:=by
    intro dx neg hop h1 e
    subst e
    have r1:=zam hs.toKnows h1
    simp only[AOp.dst]at hdst
    simp only[aop]at h
    split at h
    ·rename_i sz es ep
     rw[ep]at r1
     simp only[rel]at r1
     obtain ⟨ad,cap,q1,_,q3⟩:=r1
     refine hn' ad _ cap neg hop q1 (fun e=>?_) h hdst.symm
     cases es with
     |nil=>rfl
     |cons r es=>obtain ⟨a',ea,_⟩:=q3 (by simp);rw[e]at ea;cases ea
    ·rename_i sz ep
     rw[ep]at r1
     simp only[rel]at r1
     obtain ⟨ad,q1⟩:=r1
     exact hn' ad _ _ neg hop q1 (fun _=>rfl) h hdst.symm
    ·rename_i l ver off m sz ep
     rw[ep]at r1
     obtain ⟨p,ad,cap,_,_,_,q1,hcap,hr⟩:=zcI h.1 r1
     refine hn' ad _ cap neg hop q1 (fun e=>?_) h.2 hdst.symm
     subst e
     split at hr
     ·rcases hr.1 with h0|h0
      ·omega
      ·cases h0
     ·omega
    ·exact h.elim
   split at hc
   ·rename_i dx h1
    simp only[Option.some.injEq]at hc
    exact fin dx false rfl h1 hc.symm
   ·rename_i dx h1
    simp only[Option.some.injEq]at hc
    exact fin dx true rfl h1 hc.symm
   ·cases hc
  ·cases hc
 ·-- buildSlice
  rename_i t len parts ho
  split at hc
  ·rename_i h00
   obtain ⟨hlen0,hp0⟩:=h00
   split at hc
   ·rename_i e e1
    obtain ⟨k,h1,rfl⟩:=Option.map_eq_some_iff.1 hc
    simp only[AOp.dst]at hdst
    simp only[aop]at h
    have hp1:parts=#[]:=Array.isEmpty_iff.1 hp0
    have hrun:(execOp a.eval o).run P w=.ok (.value (.slice (some ⟨w.heap.size,0,none⟩) 0 0)) (w.alloc (.cells #[] e)):=by
     simp[execOp,ho,hlen0,hp1,Instr.buildSlice,Sem.run_bind,run_underlying e1,zcJ h1,Instr.fill,newRow]
     congr 2
     exact Array.eq_empty_of_size_eq_zero (by simp)
    obtain ⟨m1,m2⟩:=hs.mem.call (w':=w.alloc (.cells #[] e)) ((Below.refl _ w).alloc (Nat.le_refl _) _) (mx N (zaC φ))
    refine val hrun ?_
    rw[←hdst]
    exact hn _ _ _ _ _ h (hs.put m1 m2 (zal _ _) (hdl _ hdst.symm) (by simp only[rel];exact ⟨_,rfl⟩)) (m2.mono (zaF _ _))
   ·cases hc
  rename_i hnot
  split at hc
  ·rename_i e e1
   split at hc
   ·rename_i k z h1 h2
    split at hc
    ·rename_i ps h3
     split at hc
     ·rename_i hcond
      obtain ⟨c1,c2,c3,c4⟩:=hcond
      simp only[Option.some.injEq]at hc
      subst hc
      simp only[AOp.dst]at hdst
      obtain ⟨i,zv,hi,hz,hzr⟩:=zbQ (c:=ctx inv M σ β w) h2
      have hzl:=zav hzr
      have hzs:zv.cells.size=k:=by rw[←Array.length_toList,←hzl];exact c4
      simp only[aop]at h
      obtain ⟨cs,ecs,h⟩:=zaM h
      ·have hmade:relCs (ctx inv M σ β w) (List.replicate len (zcE z)).flatten (madeCells zv.cells (len*k)).toList:=by
        rw[←hzs,zcF]
        exact zf4 hzr len
       obtain ⟨cells',k1,k2⟩:=zdC hs.toKnows h3 ecs hmade
       have hcl:cs.length=len*k:=by
        have:∀ {ps:List (Nat×Nat×Opd)} {c c':List AV},zc0 φ c ps=some c'→c'.length=c.length:=by
         intro ps
         induction ps with
         |nil=>intro c c' h;simp only[zc0,Option.some.injEq]at h;rw[h]
         |cons p ps ih =>
          obtain ⟨o1,o2,o3⟩:=p
          intro c c' h
          simp only[zc0]at h
          split at h
          ·rw[ih h,zbB]
          ·cases h
        rw[this ecs,zbo,c4]
       have hcl2:=zav k2
       have hrun:(execOp a.eval o).run P w=.ok (.value (.slice (some ⟨w.heap.size,0,none⟩) len len)) (w.alloc (.cells cells' e)):=by
        have hne:¬len*k=0:=fun e=>by rcases Nat.mul_eq_zero.1 e with e|e<;>omega
        have hle:¬(len*k > 2 ^ 24):=by have:(2:Nat) ^ 24=16777216:=rfl;omega
        have k1':Instr.fill (fun i=>some (i*k,k)) (Array.map (fun x=>zv.cells[x % zv.cells.size]!) (Array.range (len*k))) (parts.toList.map fun p=>(p.1,a.eval p.2))=some cells':=by
         rw[←k1]
         simp only[Option.map_some]
         rfl
        simp only[execOp,ho,Instr.buildSlice,Sem.run_bind,run_underlying e1,Result.andThen_ok,zcJ h1,if_neg hle,Sem.run_pure,if_neg hne,zeroValue,run_typeInfo w hi,hz]
        simp only[Array.toList_map]at k1' ⊢
        rw[k1']
        simp[newRow]
       have hb:zab cs≤zas N φ σ:=ze3 ecs (zeb h3) _ f2 (zd1 (by rw[zbG h2];omega) len)
       have hrow:relCs (ctx inv M σ β w) cs (cells'.toList.take cs.length):=by
        rw[show cs.length=cells'.toList.length from hcl2,List.take_length]
        exact k2
       have hnew:=hs.new_sm (N:=N) (hdl _ hdst.symm) (cs:=cs) (xs:=cells') (ty:=e) (sz:=k) (m:=len) (cap:=len) (w':=w.alloc (.cells cells' e)) rfl rfl rfl rfl hb hcl (Nat.le_refl _) (by rw[←Array.length_toList,←hcl2,hcl];exact Nat.le_refl _) hrow
       refine val hrun ?_
       rw[←hdst]
       split at h
       ·rename_i hbare
        have hcall:=hs.mem.call (w':=w.alloc (.cells cells' e)) ((Below.refl _ _).alloc (Nat.le_refl _) _) (zaC φ)
        have hcallN:=hs.mem.call (w':=w.alloc (.cells cells' e)) ((Below.refl _ _).alloc (Nat.le_refl _) _) N
        refine hn _ _ _ _ _ h (hs.put hcall.1 hcall.2 (Nat.le_refl _) (hdl _ hdst.symm) ?_) hcallN.2
        simp only[rel]
        refine ⟨_,_,by rw[zce],by rw[zce];exact Nat.le_refl _,fun _=>⟨_,rfl, ?_, ?_, ?_⟩⟩
        ·rintro (hm|⟨l',o',e',hr',hb'⟩)
         ·have h6:=hM _ hm
          have h7:=hs.mem.below.size
          simp only at h6
          omega
         ·have:=(hs.mem.own l' o' e' hr').2
          simp only at hb'
          omega
        ·show w.heap.size<(w.alloc (.cells cells' e)).heap.size
         simp
        ·refine zdf len (by omega) hbare (ys:=cells'.toList) ?_ fun j u hu=>?_
         ·have h5:=hcall.2.relCs (zat cs (by rw[za7 cs hbare];omega)) k2
          exact zdw (S:=fun _=>none) cs _ hbare h5
         ·show (w.alloc (.cells cells' e)).cell? _=some u
          rw[Nat.zero_add,zch,Nat.zero_add]
          have:(w.alloc (.cells cells' e)).heap[w.heap.size]?=some (.cells cells' e (0,0)):=heap_alloc_new w _
          simp only[World.cell?,this,Option.isSome_none,Bool.false_eq_true,if_false]
          simpa using hu
       ·exact hn _ _ _ _ _ h hnew.1 hnew.2
     ·cases hc
    ·cases hc
   ·cases hc
  ·cases hc
 ·-- store
  rename_i t x y ho
  split at hc
  ·rename_i k dx dy h1 h2 h3
   simp only[Option.some.injEq]at hc
   subst hc
   simp only[AOp.dst]at hdst
   have r1:=zam hs.toKnows h2
   have r2:=zam hs.toKnows h3
   simp only[aop]at h
   split at h
   ·rename_i l ver off ep
    rw[ep]at r1
    split at h
    ·rename_i cs r hg
     obtain ⟨q1,q2,q3,⟨q4,q5⟩,h⟩:=h
     obtain ⟨w',hrun,hst,hext⟩:=zlf (N:=N) hs h1 r1 r2 (zjD dy (zgh h3)) hg q1 q2 q3 q4 q5
     unfold Oper.wp
     have hx:(execOp a.eval o).run P w=.ok .skip w':=by simp only[execOp,ho,Sem.run_bind,hrun,Result.andThen_ok,Sem.run_pure]
     rw[hx]
     show zbf (a.put o.dst undef) w'
     rw[←hdst]
     exact hn _ _ _ _ _ h hst hext
    ·exact h.elim
   ·exact h.elim
  ·cases hc
 ·-- makeSlice
  rename_i t l c ho
  split at hc
  ·rename_i e e1
   split at hc
   ·rename_i i z dl dc hi h2 h3 h4
    split at hc
    ·rename_i hcond
     obtain ⟨c1,c2,c3⟩:=hcond
     simp only[Option.some.injEq]at hc
     subst hc
     simp only[AOp.dst]at hdst
     obtain ⟨i',zv,hi',hz,hzr⟩:=zbQ (c:=ctx inv M σ β w) h2
     rw[hi]at hi'
     simp only[Option.some.injEq]at hi'
     subst hi'
     have hzl:=zav hzr
     have hzs:zv.cells.size=i.size:=by rw[←Array.length_toList,←hzl];exact c2
     have r1:=zam hs.toKnows h3
     have r2:=zam hs.toKnows h4
     simp only[aop]at h
     split at h
     ·rename_i kl al kc ac el ec
      rw[el]at r1
      rw[ec]at r2
      simp only[rel]at r1 r2
      obtain ⟨⟨q1,q2,q3⟩,h⟩:=h
      have hbytes:(i.bytes:Int)*ac≤281474976710656:=by
       have h5:(i.bytes:Int)*ac≤32768*ac:=Int.mul_le_mul_of_nonneg_right (by omega) (by omega)
       omega
      have hrun:=run_make (P:=P) w t e i zv e1 hi hz kl kc al ac q1 q2 hbytes (by omega)
      have hle:al.toNat≤ac.toNat:=by omega
      have hnew:=hs.new_sm (N:=N) (hdl _ hdst.symm) (cs:=(List.replicate al.toNat (zcE z)).flatten) (xs:=madeCells zv.cells (ac.toNat*i.size)) (ty:=e) (sz:=i.size) (m:=al.toNat) (cap:=ac.toNat) (w':=w.alloc (.cells (madeCells zv.cells (ac.toNat*i.size)) e)) rfl rfl rfl rfl
       (zd1 (by rw[zbG h2];omega) _) (by rw[zbo,c2]) hle (by rw[size_madeCells];exact Nat.le_refl _)
       (by rw[zbo,c2,←hzs,zic zv.cells _ _ hle];exact zf4 hzr _)
      refine val (v:=.slice (some ⟨w.heap.size,0,none⟩) al.toNat ac.toNat) (w':=w.alloc (.cells (madeCells zv.cells (ac.toNat*i.size)) e)) ?_ ?_
      ·simp only[execOp,ho,r1,r2,Sem.run_bind,hrun,Result.andThen_ok,Sem.run_pure]
      ·rw[←hdst];exact hn _ _ _ _ _ h hnew.1 hnew.2
     ·exact h.elim
    ·cases hc
   ·cases hc
  ·cases hc
 ·-- call
  rename_i c ho
  unfold zma at hc
  split at hc
  ·rename_i g ecal
   split at hc
   ·rename_i j l h1 h2
    split at hc
    ·rename_i hsz
     simp only[Option.some.injEq]at hc
     subst hc
     simp only[aop]at h
     refine ziO hE hs h1 (vs:=c.args.map a.eval) ?_ hdl h rfl hn ?_
     ·rw[Array.toList_map];exact zkK hs.toKnows h2 (by simpa using hsz)
     ·simp[execOp,ho,resolve,ecal,invoke,Act.eval,Deferred.ofValue]
    ·cases hc
   ·cases hc
  ·rename_i f _ ecal
   split at hc
   ·rename_i df l h1 h2
    split at hc
    ·rename_i hsz
     simp only[Option.some.injEq]at hc
     subst hc
     have r1:=zam hs.toKnows h1
     simp only[aop]at h
     split at h
     ·rename_i j caps ej
      rw[ej]at r1
      simp only[rel]at r1
      obtain ⟨g,xs,q1,q2,q3⟩:=r1
      refine ziO hE hs q2 (vs:=c.args.map a.eval++xs) ?_ hdl h rfl hn ?_
      ·rw[Array.toList_append,Array.toList_map];exact zhp (zkK hs.toKnows h2 (by simpa using hsz)) q3
      ·simp[execOp,ho,resolve,ecal,q1,invoke,Deferred.ofValue]
     ·exact h.elim
    ·cases hc
   ·cases hc
  ·-- clear
   rename_i ecal
   split at hc
   ·rename_i s t e0 e1 e2
    split at hc
    ·rename_i e ds e3 e4
     split at hc
     ·rename_i i z hi e8
      split at hc
      ·rename_i hcond
       simp only[Option.some.injEq]at hc
       subst hc
       simp only[aop]at h
       obtain ⟨callee,⟨args⟩,⟨ts⟩⟩:=c
       simp only at ecal e1 e2
       subst ecal e1 e2
       obtain ⟨w',σ',hrun,hst,hext,hk⟩:=zqF (N:=N) (ty:=o.type) hs e3 e8 hi hcond.2 hcond.1 h (zam hs.toKnows e4)
       refine val (v:=.tuple #[]) (w':=w') ?_ ?_
       ·simp[execOp,ho,resolve,invoke,builtin,hrun]
       ·rw[e0];exact hn _ _ _ _ _ hk hst hext
      ·cases hc
     ·cases hc
    ·cases hc
   ·cases hc
  ·rename_i ecal
   split at hc
   ·rename_i d s x t u e0 e1 e2
    split at hc
    ·rename_i e d' ds dx e3 e4 e5 e6
     split at hc
     ·rename_i i e7
      split at hc
      ·rename_i z e8
       split at hc
       ·rename_i hcond
        simp only[Option.some.injEq]at hc
        subst hc
        simp only[aop]at h
        obtain ⟨v,w',φ',σ',β',hk,hrun,hst,hext⟩:=zqP (N:=N) (ty:=o.type) hs e3 e4 e7 e8 hcond.2.1 hcond.1 hcond.2.2 (hdl d e0) (zam hs.toKnows e5) (zam hs.toKnows e6) h
        obtain ⟨callee,⟨args⟩,⟨ts⟩⟩:=c
        simp only at ecal e1 e2
        subst ecal e1 e2
        refine val (v:=v) (w':=w') ?_ ?_
        ·simp[execOp,ho,resolve,invoke,builtin,hrun]
        ·rw[e0];exact hn _ _ _ _ _ hk hst hext
       ·cases hc
      ·cases hc
     ·cases hc
    ·-- so many zeros
     rename_i e kq ds dx e3 e4 e5 e6
     split at hc
     ·rename_i i z hi e8
      split at hc
      ·rename_i hcond
       obtain ⟨c1,c2,c3⟩:=hcond
       simp only[Option.some.injEq]at hc
       subst hc
       obtain ⟨i',zv,hi',hz,hzr⟩:=zbQ (c:=ctx inv M σ β w) e8
       rw[hi]at hi'
       simp only[Option.some.injEq]at hi'
       subst hi'
       have hzl:=zav hzr
       have hzs:zv.cells.size=i.size:=by rw[←Array.length_toList,←hzl];exact c2
       have r1:=zam hs.toKnows e5
       have r2:=zam hs.toKnows e6
       simp only[aop]at h
       obtain ⟨callee,⟨args⟩,⟨ts⟩⟩:=c
       simp only at ecal e1 e2
       subst ecal e1 e2
       split at h
       ·rename_i sz0 b el eb
        rw[el]at r1
        rw[eb]at r2
        simp only[rel]at r1 r2
        obtain ⟨ad,r1⟩:=r1
        obtain ⟨⟨q1,q2⟩,h⟩:=h
        obtain ⟨m,rfl⟩:=Int.eq_ofNat_of_zero_le q1
        simp only[Int.toNat_natCast]at h
        rcases Nat.eq_zero_or_pos m with h0|h0
        ·subst h0
         simp only[Nat.lt_irrefl,decide_false,List.replicate_zero,List.flatten_nil]at h
         have hg:=hs.mem.ghost_put f3
         have hrun:(Builtin.append_ #[t,u] o.type #[.slice ad 0 0,.int .i64 ((0:Nat):Int)]).run P w=.ok (.slice ad 0 0) w:=by
          have hw:IntKind.i64.wrap (0:Int)=0:=by rw[IntKind.wrap_i64];rfl
          cases ad<;>simp[Builtin.append_,run_underlying e3,run_underlying e4,sizeOf,typeInfo,hi,asInt,asIntOf,hw,storeCells]
         refine val (v:=.slice ad 0 0) (w':=w) ?_ ?_
         ·simp only[Int.natCast_zero]at hrun
          simp[execOp,ho,resolve,invoke,builtin,r1,r2,hrun]
         ·rw[e0]
          refine hn _ _ _ _ _ h (hs.put hg.1 hg.2.1 f2 (hdl d e0) ?_) (hg.2.1.mono f1)
          simp only[rel]
          refine ⟨rfl,fun p' hp'=>?_⟩
          have:p'=⟨0,0,0,false⟩:=by have:=(show zah β w _ _=some p' from hp').symm.trans hg.2.2;simpa using this
          subst this
          exact ⟨by simp,fun _=>⟨by simp,ad,0,rfl,Nat.le_refl _,by simp⟩⟩
        ·have hm31:m≤2147483648:=by omega
         have hby:m*i.bytes≤140737488355328:=Nat.le_trans (Nat.mul_le_mul_left _ c3) (by omega)
         have hfo:(Builtin.firstCells i.size 0 (.slice ad 0 0)).run P w.drew=.ok #[] w.drew:=by cases ad<;>simp[Builtin.firstCells,loadCells,loadCellsFrom]
         have hrun:=Lib.run_append_grow_zeros (P:=P) w t u o.type e i zv .i64 kq e3 e4 hi hz ad 0 0 [] hfo m h0 c1 (by omega) (by omega) (by omega) (growslice_fits (by omega) (by simpa using hby))
         simp only[Nat.zero_add]at hrun
         have hge:=grownCap_ge w m 0 e
         rw[show decide (0<m)=true by simpa using h0]at h
         have hnew:=hs.new_sm (N:=N) (hdl d e0) (cs:=(List.replicate m (zcE z)).flatten) (m:=m) (sz:=i.size) (cap:=grownCap w m 0 e) (w':=w.drew.alloc (.cells ([].toArray++Builtin.zeroCells zv.cells m++Builtin.zeroCells zv.cells (grownCap w m 0 e-m)) e))
          rfl rfl rfl rfl (zd1 (by rw[zbG e8];omega) _) (by rw[zbo,c2]) hge
          (by simp[size_zeroCells,hzs];rw[←Nat.add_mul];exact Nat.mul_le_mul_right _ (by omega))
          (by
           have hz2:(Builtin.zeroCells zv.cells m).toList=(List.replicate m zv.cells.toList).flatten:=zcF zv.cells m
           have:([].toArray++Builtin.zeroCells zv.cells m++Builtin.zeroCells zv.cells (grownCap w m 0 e-m)).toList.take (List.replicate m (zcE z)).flatten.length=(List.replicate m zv.cells.toList).flatten:=by
            simp only[Array.toList_append,hz2,List.nil_append]
            rw[List.take_left' (by rw[zbo,zbo,c2];simp[hzs])]
           rw[this]
           exact zf4 hzr m)
         refine val (v:=.slice (some ⟨w.heap.size,0,none⟩) m (grownCap w m 0 e)) (w':=w.drew.alloc (.cells ([].toArray++Builtin.zeroCells zv.cells m++Builtin.zeroCells zv.cells (grownCap w m 0 e-m)) e)) ?_ ?_
         ·simp only[execOp,ho,resolve,invoke,builtin,r1,r2]
          simp[hrun,r1,r2]
         ·rw[e0];exact hn _ _ _ _ _ h hnew.1 hnew.2
       ·exact h.elim
      ·cases hc
     ·cases hc
    ·cases hc
   ·cases hc
  ·cases hc
 ·-- makeMap
  rename_i t ho
  simp only[Option.some.injEq]at hc
  subst hc
  simp only[AOp.dst]at hdst
  simp only[aop]at h
  have hnew:=hs.new_map (N:=N) (hdl _ hdst.symm)
  refine val (v:=.map (some w.heap.size)) (w':=w.alloc (.map #[] 0)) ?_ ?_
  ·simp[execOp,ho,Instr.makeMap]
  ·rw[←hdst];exact hn _ _ _ _ _ h hnew.1 hnew.2
 ·-- mapUpdate
  rename_i t m k v ho
  split at hc
  ·rename_i kt vt e1
   split at hc
   ·rename_i dm dk dv e2 h1 h2 h3
    simp only[Option.some.injEq]at hc
    subst hc
    simp only[AOp.dst]at hdst
    have r1:=zam hs.toKnows h1
    have r2:=zam hs.toKnows h2
    have r3:=zam hs.toKnows h3
    simp only[aop]at h
    split at h
    ·rename_i l b x em ek exv
     split at h
     ·rename_i kvs hg
      rw[em]at r1
      rw[ek]at r2
      rw[exv]at r3
      simp only[rel]at r1 r2 r3
      have hp:zah β w σ l=some ⟨β l,0,0,true⟩:=by unfold zah;rw[hg]
      have hm:=r1.2 _ hp rfl
      simp only at hm
      obtain ⟨es,clk,hh,hes⟩:=hs.mem.maps l kvs hg
      have hfk:(Instr.findKey kt (.int .i64 b) es.toList).run P w=.ok (zhM es.toList b 0) w:=by
       simp only[Instr.findKey,Sem.run_bind,run_underlying e2,Result.andThen_ok,zgg b es.toList kvs 0 hes,Sem.run_pure]
      have hck:=Go.MapKept.run_checkKey (w:=w) (k:=.int .i64 b) e2 rfl false 9999
      have hown:=hs.mem.own l _ hg rfl
      have hu:upd β l (β l)=β:=by funext k;unfold upd;split<;>simp_all
      have fin:∀ (es':Array MapEntry) (clk':Nat),es'.toList.map (fun e=>(e.key,e.val))=(zks kvs b x).map (fun p=>(Value.int .i64 p.1,Value.int .i64 p.2)) →
        (Instr.mapUpdate t (a.eval m) (a.eval k) (a.eval v)).run P w=.ok () { w with heap:=w.heap.setIfInBounds (β l) (.map es' clk') }→o.wp P a w zbf Q:=by
       intro es' clk' he hrun
       have hput:=hs.mem.put_imap (l:=l) (b':=β l) (kvs:=zks kvs b x) (es:=es') (clk:=clk') (w':={ w with heap:=w.heap.setIfInBounds (β l) (.map es' clk') }) (N:=zas N φ σ)
        (hs.mem.below.trans ⟨rfl,rfl,rfl,by simp,fun b' hb'=>(Go.MapKept.heap_set hh).2 b' (by omega)⟩) (by simp)
        (fun b' _ hne=>(Go.MapKept.heap_set hh).2 b' hne) (Go.MapKept.heap_set hh).1 hown.1 (fun l' o' hne e hr he=>hne (hs.mem.inj l' l o' _ e hg hr rfl he)) (.inr ⟨kvs,hg,rfl⟩) (fun hle=>by omega) f3 (fun hle=>by omega) he
       rw[hu]at hput
       unfold Oper.wp
       have hx:(execOp a.eval o).run P w=.ok .skip { w with heap:=w.heap.setIfInBounds (β l) (.map es' clk') }:=by simp only[execOp,ho,Sem.run_bind,hrun,Result.andThen_ok,Sem.run_pure]
       rw[hx]
       show zbf (a.put o.dst undef) _
       rw[←hdst]
       exact hn _ _ _ _ _ h (hs.keep hput.1 hput.2.1 f2) (hput.2.1.mono f1)
      rcases zkD b x es.toList kvs 0 hes with ⟨g1,g2⟩|⟨j,y,e',g1,g2,g3,g4⟩
      ·rw[g1]at hfk
       refine fin (es.push { key:=.int .i64 b,val:=.int .i64 x,born:=clk }) (clk+1) (by rw[g2];simp[hes]) ?_
       rw[hm,r2,r3]
       simp only[Instr.mapUpdate,Sem.run_bind,run_underlying e1,Result.andThen_ok,Go.MapKept.run_getObj_map hh,hck,hfk,Go.MapKept.run_setObj_map _ hh]
      ·rw[g1,Nat.zero_add]at hfk
       refine fin (es.modify j fun e=>{ e with key:=.int .i64 b,val:=.int .i64 x }) clk (by rw[←g4];simp) ?_
       rw[hm,r2,r3]
       have g5:es[j]?=some e':=by simpa using g2
       have hks:(Instr.keyThatStays (.int .i64 b) (.int .i64 b)).run P w=.ok (.int .i64 b) w:=Go.MapKept.run_keyThatStays (d:=.int .i64) rfl
       simp only[Instr.mapUpdate,Sem.run_bind,run_underlying e1,Result.andThen_ok,Go.MapKept.run_getObj_map hh,hck,hfk,g5,Option.map_some,Option.getD_some,g3,hks,Go.MapKept.run_setObj_map _ hh]
     ·exact h.elim
    ·exact h.elim
   ·cases hc
  ·cases hc
 ·cases hc
theorem znT (hs:St inv w0 M n φ σ β a w) {o:Oper} {d sz len0:Nat} {z0:List (Nat×AV)} {ps0:List (Nat×Nat×Opd)} (hc:zbq P inv o=some (.mksl d sz len0 z0 ps0)) (hdst0:some d=o.dst) (hok:zii n o.dst=true) {K:AF→AS→Prop} (h:aop P inv w0 M N (.mksr d sz len0 z0 ps0) φ σ K)
  {zbf:Act→World→Prop} {Q:Exit→Act→World→Prop} (hn:∀ φ' σ' β' a' w',K φ' σ'→St inv w0 M n φ' σ' β' a' w'→Ext N (ctx inv M σ β w) (ctx inv M σ' β' w')→zbf a' w'):o.wp P a w zbf Q:=by
 have hdl:=znd hok
 obtain ⟨f1,f2,f3⟩:=zbe N φ σ
 have val:∀ {v:Value} {w':World},(execOp a.eval o).run P w=.ok (.value v) w'→zbf (a.put o.dst v) w'→o.wp P a w zbf Q:=by
  intro v w' h1 h2
  unfold Oper.wp
  rw[h1]
  exact h2
 have inv:∃ t len parts,o.op=.buildSlice t len parts:=by
  clear h hn val
  unfold zbq at hc
  split at hc
  all_goals first|(rename_i t len parts ho;exact ⟨t,len,parts,ho⟩)|skip
  all_goals (exfalso;revert hc;try unfold zma)
  all_goals (repeat' split)
  all_goals first|(intro hop;cases hop;done)|(intro hop;simp at hop;done)|(intro hop;obtain ⟨_,_,e⟩:=Option.map_eq_some_iff.1 hop;cases e)
 obtain ⟨t,len,parts,ho⟩:=inv
 unfold zbq at hc
 rw[ho]at hc
 simp only at hc
 split at hc
 ·split at hc
  ·obtain ⟨_,_,e⟩:=Option.map_eq_some_iff.1 hc;cases e
  ·cases hc
 rename_i hnot
 split at hc
 ·rename_i e e1
  split at hc
  ·rename_i k z h1 h2
   split at hc
   ·rename_i ps h3
    split at hc
    ·rename_i hcond
     obtain ⟨c1,c2,c3,c4⟩:=hcond
     simp only[Option.some.injEq,AOp.mksl.injEq]at hc
     obtain ⟨hd0,rfl,rfl,rfl,rfl⟩:=hc
     have hdst:some d=o.dst:=hdst0
     obtain ⟨i,zv,hi,hz,hzr⟩:=zbQ (c:=ctx inv M σ β w) h2
     have hzl:=zav hzr
     have hzs:zv.cells.size=k:=by rw[←Array.length_toList,←hzl];exact c4
     simp only[aop]at h
     obtain ⟨cs,ecs,h⟩:=zaM h
     ·have hmade:relCs (ctx inv M σ β w) (List.replicate len (zcE z)).flatten (madeCells zv.cells (len*k)).toList:=by
       rw[←hzs,zcF]
       exact zf4 hzr len
      obtain ⟨cells',k1,k2⟩:=zdC hs.toKnows h3 ecs hmade
      have hcl:cs.length=len*k:=by
       have:∀ {ps:List (Nat×Nat×Opd)} {c c':List AV},zc0 φ c ps=some c'→c'.length=c.length:=by
        intro ps
        induction ps with
        |nil=>intro c c' h;simp only[zc0,Option.some.injEq]at h;rw[h]
        |cons p ps ih =>
         obtain ⟨o1,o2,o3⟩:=p
         intro c c' h
         simp only[zc0]at h
         split at h
         ·rw[ih h,zbB]
         ·cases h
       rw[this ecs,zbo,c4]
      have hcl2:=zav k2
      have hrun:(execOp a.eval o).run P w=.ok (.value (.slice (some ⟨w.heap.size,0,none⟩) len len)) (w.alloc (.cells cells' e)):=by
       have hne:¬len*k=0:=fun e=>by rcases Nat.mul_eq_zero.1 e with e|e<;>omega
       have hle:¬(len*k > 2 ^ 24):=by have:(2:Nat) ^ 24=16777216:=rfl;omega
       have k1':Instr.fill (fun i=>some (i*k,k)) (Array.map (fun x=>zv.cells[x % zv.cells.size]!) (Array.range (len*k))) (parts.toList.map fun p=>(p.1,a.eval p.2))=some cells':=by
        rw[←k1]
        simp only[Option.map_some]
        rfl
       simp only[execOp,ho,Instr.buildSlice,Sem.run_bind,run_underlying e1,Result.andThen_ok,zcJ h1,if_neg hle,Sem.run_pure,if_neg hne,zeroValue,run_typeInfo w hi,hz]
       simp only[Array.toList_map]at k1' ⊢
       rw[k1']
       simp[newRow]
      have hb:zab cs≤zas N φ σ:=ze3 ecs (zeb h3) _ f2 (zd1 (by rw[zbG h2];omega) len)
      have hrow:relCs (ctx inv M σ β w) cs (cells'.toList.take cs.length):=by
       rw[show cs.length=cells'.toList.length from hcl2,List.take_length]
       exact k2
      have hnew:=hs.new_sm (N:=N) (hdl _ hdst.symm) (cs:=cs) (xs:=cells') (ty:=e) (sz:=k) (m:=len) (cap:=len) (w':=w.alloc (.cells cells' e)) rfl rfl rfl rfl hb hcl (Nat.le_refl _) (by rw[←Array.length_toList,←hcl2,hcl];exact Nat.le_refl _) hrow
      refine val hrun ?_
      rw[←hdst]
      exact hn _ _ _ _ _ h hnew.1 hnew.2
    ·cases hc
   ·cases hc
  ·cases hc
 ·cases hc
end
end Go.Eng
namespace Go.Eng
open Go.RowKit
section
variable {P:Program} {inv:Nat→Option Nat} {w0:World} {M:Nat→Prop} {n N:Nat} {φ:AF} {σ:AS} {β:Nat→Nat} {a:Act} {w:World}
theorem zmT (hE:zb0 P inv) (hM:∀ b,M b→b<w0.heap.size) (hs:St inv w0 M n φ σ β a w) {o:Oper} {op:AOp} (hc:zba P inv n o=some op) {K:AF→AS→Prop} (h:aop P inv w0 M N op φ σ K)
  {zbf:Act→World→Prop} {Q:Exit→Act→World→Prop} (hn:∀ φ' σ' β' a' w',K φ' σ'→St inv w0 M n φ' σ' β' a' w'→Ext N (ctx inv M σ β w) (ctx inv M σ' β' w')→zbf a' w'):o.wp P a w zbf Q:=by
 unfold zba at hc
 split at hc
 ·rename_i e he
  split at hc
  ·rename_i d hd
   split at hc
   ·rename_i hlt
    simp only[Option.some.injEq]at hc
    subst hc
    obtain ⟨x,y,hk,hr,hrun⟩:=zod hs.toKnows he (K:=fun x=>K (za5 φ d x) σ) h
    unfold Oper.wp
    rw[hrun]
    show zbf (a.put o.dst y) w
    rw[hd]
    exact hn _ _ _ _ _ hk (hs.set hlt hr) (.refl _ _)
   ·cases hc
  ·cases hc
 ·split at hc
  ·rename_i op' he
   split at hc
   ·rename_i hcond
    simp only[Option.some.injEq]at hc
    subst hc
    exact zqw hE hM hs he hcond.1 hcond.2 h hn
   ·cases hc
  ·split at hc
   ·simp only[Option.some.injEq]at hc
    subst hc
    exact h.elim
   ·cases hc
theorem zcR {o:Oper} {op:AOp} (hc:zba P inv n o=some op):op.dst=o.dst∧zii n o.dst=true:=by
 unfold zba at hc
 split at hc
 ·split at hc
  ·rename_i d hd
   split at hc
   ·rename_i hlt
    simp only[Option.some.injEq]at hc
    subst hc
    exact ⟨hd.symm,by rw[hd];simpa [zii] using hlt⟩
   ·cases hc
  ·cases hc
 ·split at hc
  ·split at hc
   ·rename_i hcond
    simp only[Option.some.injEq]at hc
    subst hc
    exact hcond
   ·cases hc
  ·split at hc
   ·rename_i hcond
    simp only[Option.some.injEq]at hc
    subst hc
    exact ⟨rfl,hcond⟩
   ·cases hc
theorem St.skip (hs:St inv w0 M n φ σ β a w) {d:Option Nat} (hd:zii n d=true):St inv w0 M n (zcn φ d .u) σ β (a.put d undef) w:=by
 cases d with
 |none=>exact hs
 |some d=>exact hs.set (znd hd d rfl) (by simp only[rel])
theorem St.known (hs:St inv w0 M n φ σ β a w) {s:Nat} {x:AV} (h:∀ y,rel (ctx inv M σ β w) (za3 φ s) y→rel (ctx inv M σ β w) x y):St inv w0 M n (za5 φ s x) σ β a w:=by
 refine ⟨⟨fun i=>?_,hs.mem⟩,hs.size,hs.defers⟩
 rw[zaU]
 split
 ·rename_i e;rw[e];exact h _ (hs.slots s)
 ·exact hs.slots i
theorem zil {ops:Array Oper} {j s:Nat} (hj:(ops[j]?).bind (·.dst)=some s) (hs:s<a.tmps.size):yielded ops a.tmps j=match a.tmps.getD s undef with|.bool b=>some b|_=>none:=by
 have h:a.tmps[s]?=some (a.tmps.getD s undef):=by simp[hs]
 simp only[yielded,hj,Option.bind_some,h]
 cases a.tmps.getD s undef<;>rfl
theorem zhB (hE:zb0 P inv) (hM:∀ b,M b→b<w0.heap.size) {ops:Array Oper} {Q:Exit→Act→World→Prop} {K:AF→AS→Prop} :
  ∀ {l:List Oper} {al:List GOp} {φ:AF} {σ:AS} {β:Nat→Nat} {a:Act} {w:World},zbj P inv n ops l=some al→zbw P inv w0 M N al K φ σ→St inv w0 M n φ σ β a w →
   (∀ φ' σ' β' a' w',K φ' σ'→St inv w0 M n φ' σ' β' a' w'→Ext N (ctx inv M σ β w) (ctx inv M σ' β' w')→Q .normal a' w')→wpList P ops Q l a w
 |[],al,φ,σ,β,a,w,hc,h,hs,hn=>by
  simp only[zbj,Option.some.injEq]at hc
  subst hc
  exact hn _ _ _ _ _ h hs (.refl _ _)
 |o::l,al,φ,σ,β,a,w,hc,h,hs,hn=>by
  simp only[zbj]at hc
  split at hc
  ·rename_i g op al' hg hop hal
   simp only[Option.some.injEq]at hc
   subst hc
   obtain ⟨hd1,hd2⟩:=zcR hop
   have go:∀ {φ:AF},St inv w0 M n φ σ β a w→Region.wanted o (yielded ops a.tmps)=true→aop P inv w0 M N op φ σ (zbw P inv w0 M N al' K)→wpList P ops Q (o::l) a w:=by
    intro φ hs hw h
    unfold wpList
    rw[if_pos hw]
    refine .inl (zmT hE hM hs hop h fun φ' σ' β' a' w' hk hst hext=>?_)
    exact zhB hE hM hal hk hst fun φ2 σ2 β2 a2 w2 k2 s2 e2=>hn _ _ _ _ _ k2 s2 (hext.trans e2)
   have skip:∀ {φ:AF},St inv w0 M n φ σ β a w→Region.wanted o (yielded ops a.tmps)=false→zbw P inv w0 M N al' K (zcn φ op.dst .u) σ→wpList P ops Q (o::l) a w:=by
    intro φ hs hw h
    refine wpList_skip hw ?_
    rw[hd1]at h
    exact zhB hE hM hal h (hs.skip hd2) hn
   cases hgd:o.guard with
   |none =>
    rw[hgd]at hg
    simp only[zec,Option.some.injEq]at hg
    subst hg
    exact go hs (by simp[Region.wanted,hgd]) h
   |some jw =>
    obtain ⟨j,want⟩:=jw
    rw[hgd]at hg
    simp only[zec]at hg
    split at hg
    ·rename_i s hj
     split at hg
     ·rename_i hlt
      simp only[Option.some.injEq]at hg
      subst hg
      have hy:=zil (a:=a) hj (by rw[hs.size];exact hlt)
      have hsl:=hs.slots s
      have hcs:(∃ t,za3 φ s=.b t∧(t=want→aop P inv w0 M N op φ σ (zbw P inv w0 M N al' K))∧(¬t=want→zbw P inv w0 M N al' K (zcn φ op.dst .u) σ))∨(za3 φ s=.u∧zbw P inv w0 M N al' K (zcn φ op.dst .u) σ):=by
       cases want<;>simp only[zbw]at h<;>split at h
       all_goals first|exact h.elim|skip
       ·rename_i t et
        refine .inl ⟨t,et,fun e=>?_,fun e=>?_⟩
        ·have:=h.2 e;rwa [zdO (by rw[et,e])]at this
        ·have e':t=true:=by simpa using e
         have:=h.1 e';rwa [zdO (by rw[et,e'])]at this
       ·rename_i et;exact .inr ⟨et,h⟩
       ·rename_i t et
        refine .inl ⟨t,et,fun e=>?_,fun e=>?_⟩
        ·have:=h.1 e;rwa [zdO (by rw[et,e])]at this
        ·have e':t=false:=by simpa using e
         have:=h.2 e';rwa [zdO (by rw[et,e'])]at this
       ·rename_i et;exact .inr ⟨et,h⟩
      rcases hcs with ⟨t,et,h1,h2⟩|⟨et,h⟩
      ·rw[et]at hsl
       simp only[rel]at hsl
       have hw:Region.wanted o (yielded ops a.tmps)=decide (t=want):=by
        simp only[Region.wanted,hgd,hy,hsl]
        cases t<;>cases want<;>rfl
       by_cases htw:t=want
       ·exact go hs (by rw[hw];simpa using htw) (h1 htw)
       ·exact skip hs (by rw[hw];simpa using htw) (h2 htw)
      ·rw[et]at hsl
       simp only[rel]at hsl
       refine skip hs ?_ h
       simp only[Region.wanted,hgd,hy,hsl]
       rfl
     ·cases hg
    ·cases hg
  ·cases hc
theorem AWp.mono {c:ACode} {Q Q':Exit→AF→AS→Prop} (hq:∀ e φ σ,Q e φ σ→Q' e φ σ) (h:AWp P inv w0 M N n c Q φ σ):AWp P inv w0 M N n c Q' φ σ :=
 fun c₀ hc β a w hs=>Code.wp_mono (fun _ _ _ ⟨φ',σ',β',q,r⟩=>⟨φ',σ',β',hq _ _ _ q,r⟩) (h c₀ hc β a w hs)
theorem zdS {prs:List (List Nat)} {gs:List GOp} {k:Nat} {c:ACode} (h:drawn prs gs k=some c):∃ l,c=.regd k l:=by
 unfold drawn at h
 simp only at h
 split at h
 ·simp only[Option.some.injEq]at h;exact ⟨_,h.symm⟩
 ·split at h
  ·simp only[Option.some.injEq]at h;exact ⟨_,h.symm⟩
  ·cases h
theorem zaL {ops:Array Oper} {c:ACode} (h:zfK P inv n ops=some c):∃ kl:Nat×List GOp,c=.regd kl.1 kl.2:=by
 unfold zfK at h
 split at h
 ·split at h
  ·rename_i e
   simp only[Option.some.injEq]at h
   obtain ⟨l,rfl⟩:=zdS e
   exact ⟨(_,l),h.symm⟩
  ·obtain ⟨l,rfl⟩:=zdS h
   exact ⟨(_,l),rfl⟩
 ·cases h
theorem inv_skip {c₀:Code} (h:zak P inv n c₀=some .skip):c₀=.skip:=by
 unfold zak at h
 split at h<;>first|rfl|(cases h;done)|(obtain ⟨_,e⟩:=zaL h;cases e;done)|(obtain ⟨_,_,e⟩:=Option.map_eq_some_iff.1 h;cases e;done)|(split at h<;>simp at h)
theorem inv_exit {c₀:Code} {id:Nat} (h:zak P inv n c₀=some (.exit id)):c₀=.exit id:=by
 unfold zak at h
 split at h<;>first|(cases h;done)|(obtain ⟨_,e⟩:=zaL h;cases e;done)|(obtain ⟨_,_,e⟩:=Option.map_eq_some_iff.1 h;cases e;done)|(simp only[Option.some.injEq,ACode.exit.injEq]at h;rw[h];done)|(split at h<;>simp at h)
theorem inv_ret {c₀:Code} (h:zak P inv n c₀=some .ret):c₀=.ret:=by
 unfold zak at h
 split at h<;>first|rfl|(cases h;done)|(obtain ⟨_,e⟩:=zaL h;cases e;done)|(obtain ⟨_,_,e⟩:=Option.map_eq_some_iff.1 h;cases e;done)|(split at h<;>simp at h)
theorem inv_reg {c₀:Code} {l:List GOp} (h:zak P inv n c₀=some (.reg l)):∃ id ops,c₀=.region id ops false∧zbj P inv n ops ops.toList=some l:=by
 unfold zak at h
 split at h<;>first|(cases h;done)|(obtain ⟨_,e⟩:=zaL h;cases e;done)|(obtain ⟨l',h1,e⟩:=Option.map_eq_some_iff.1 h;cases e;exact ⟨_,_,rfl,h1⟩)|(obtain ⟨_,_,e⟩:=Option.map_eq_some_iff.1 h;cases e;done)|(split at h<;>simp at h)
theorem inv_seq {c₀:Code} {x y:ACode} (h:zak P inv n c₀=some (.seq x y)):∃ x₀ y₀,c₀=.seq x₀ y₀∧zak P inv n x₀=some x∧zak P inv n y₀=some y:=by
 unfold zak at h
 split at h<;>first|(cases h;done)|(obtain ⟨_,e⟩:=zaL h;cases e;done)|(obtain ⟨_,_,e⟩:=Option.map_eq_some_iff.1 h;cases e;done)|skip
 all_goals (split at h<;>first|(cases h;done)|skip)
 all_goals (simp only[Option.some.injEq,ACode.seq.injEq]at h)
 rename_i h1 h2
 exact ⟨_,_,rfl,by rw[h1,h.1],by rw[h2,h.2]⟩
theorem inv_cond {c₀:Code} {c:Opd} {x y:ACode} (h:zak P inv n c₀=some (.cond c x y)):∃ d x₀ y₀,c₀=.cond d x₀ y₀∧zcM P inv 0 d=some c∧zak P inv n x₀=some x∧zak P inv n y₀=some y:=by
 unfold zak at h
 split at h<;>first|(cases h;done)|(obtain ⟨_,e⟩:=zaL h;cases e;done)|(obtain ⟨_,_,e⟩:=Option.map_eq_some_iff.1 h;cases e;done)|skip
 all_goals (split at h<;>first|(cases h;done)|skip)
 all_goals (simp only[Option.some.injEq,ACode.cond.injEq]at h)
 rename_i h1 h2 h3
 exact ⟨_,_,_,rfl,by rw[h1,h.1],by rw[h2,h.2.1],by rw[h3,h.2.2]⟩
theorem zpQ {c₀:Code} {id:Nat} {x:ACode} (h:zak P inv n c₀=some (.block id x)):∃ x₀,c₀=.block id x₀∧zak P inv n x₀=some x:=by
 unfold zak at h
 split at h<;>first|(cases h;done)|(obtain ⟨_,e⟩:=zaL h;cases e;done)|(obtain ⟨l',h1,e⟩:=Option.map_eq_some_iff.1 h;cases e;exact ⟨_,rfl,h1⟩)|(obtain ⟨_,_,e⟩:=Option.map_eq_some_iff.1 h;cases e;done)|(split at h<;>simp at h)
theorem zmZ {c₀:Code} {x:ACode} (h:zak P inv n c₀=some (.loop x)):∃ x₀,c₀=.loop x₀∧zak P inv n x₀=some x:=by
 unfold zak at h
 split at h<;>first|(cases h;done)|(obtain ⟨_,e⟩:=zaL h;cases e;done)|(obtain ⟨l',h1,e⟩:=Option.map_eq_some_iff.1 h;cases e;exact ⟨_,rfl,h1⟩)|(obtain ⟨_,_,e⟩:=Option.map_eq_some_iff.1 h;cases e;done)|(split at h<;>simp at h)
theorem AWp.skip {Q:Exit→AF→AS→Prop} (h:Q .normal φ σ):AWp P inv w0 M N n .skip Q φ σ:=by
 intro c₀ hc β a w hs
 rw[inv_skip hc]
 exact wp_skip ⟨φ,σ,β,h,hs,.refl _ _⟩
theorem AWp.exit {id:Nat} {Q:Exit→AF→AS→Prop} (h:Q (.exit id) φ σ):AWp P inv w0 M N n (.exit id) Q φ σ:=by
 intro c₀ hc β a w hs
 rw[inv_exit hc]
 exact wp_exit ⟨φ,σ,β,h,hs,.refl _ _⟩
theorem AWp.ret {Q:Exit→AF→AS→Prop} (h:Q .ret φ σ):AWp P inv w0 M N n .ret Q φ σ:=by
 intro c₀ hc β a w hs
 rw[inv_ret hc]
 exact wp_ret ⟨φ,σ,β,h,hs,.refl _ _⟩
theorem AWp.reg (hE:zb0 P inv) (hM:∀ b,M b→b<w0.heap.size) {l:List GOp} {Q:Exit→AF→AS→Prop} (h:zbw P inv w0 M N l (Q .normal) φ σ):AWp P inv w0 M N n (.reg l) Q φ σ:=by
 intro c₀ hc β a w hs
 obtain ⟨id,ops,rfl,hl⟩:=inv_reg hc
 exact wp_region_list (zhB hE hM hl h hs fun φ' σ' β' a' w' hk hst hext=>⟨φ',σ',β',hk,hst,hext⟩)
def zou (K:AF→AS→Prop) (Q:Exit→AF→AS→Prop):Exit→AF→AS→Prop
 |.normal,φ,σ=>K φ σ
 |e,φ,σ=>Q e φ σ
theorem AWp.seq {x y:ACode} {Q:Exit→AF→AS→Prop} (h:∀ K:AF→AS→Prop,(∀ φ σ,AWp P inv w0 M N n y Q φ σ→K φ σ)→AWp P inv w0 M N n x (zou K Q) φ σ):AWp P inv w0 M N n (.seq x y) Q φ σ:=by
 intro c₀ hc β a w hs
 obtain ⟨x₀,y₀,rfl,hx,hy⟩:=inv_seq hc
 refine wp_seq ?_
 refine Code.wp_mono ?_ (h _ (fun _ _ h=>h) x₀ hx β a w hs)
 rintro e a' w' ⟨φ',σ',β',q,hst,hext⟩
 cases e with
 |normal=>exact Code.wp_mono (fun _ _ _ ⟨φ2,σ2,β2,q2,hst2,hext2⟩=>⟨φ2,σ2,β2,q2,hst2,hext.trans hext2⟩) (q y₀ hy β' a' w' hst)
 |exit id=>exact ⟨φ',σ',β',q,hst,hext⟩
 |goto l=>exact ⟨φ',σ',β',q,hst,hext⟩
 |ret=>exact ⟨φ',σ',β',q,hst,hext⟩
 |panic ch=>exact ⟨φ',σ',β',q,hst,hext⟩
 |outgrown=>exact ⟨φ',σ',β',q,hst,hext⟩
theorem AWp.cond {c:Opd} {x y:ACode} {Q:Exit→AF→AS→Prop} {t:Bool} (ht:ev φ c=.b t) (h1:t=true→AWp P inv w0 M N n x Q φ σ) (h2:t=false→AWp P inv w0 M N n y Q φ σ):AWp P inv w0 M N n (.cond c x y) Q φ σ:=by
 intro c₀ hc β a w hs
 obtain ⟨d,x₀,y₀,rfl,hd,hx,hy⟩:=inv_cond hc
 have hr:=zam hs.toKnows hd
 rw[ht]at hr
 simp only[rel]at hr
 exact wp_cond_split hr (fun e=>h1 e x₀ hx β a w hs) (fun e=>h2 e y₀ hy β a w hs)
def zmm (id:Nat) (Q:Exit→AF→AS→Prop):Exit→AF→AS→Prop
 |.exit id',φ,σ=>if id'=id then Q .normal φ σ else Q (.exit id') φ σ
 |e,φ,σ=>Q e φ σ
theorem AWp.block {id:Nat} {x:ACode} {Q:Exit→AF→AS→Prop} (h:AWp P inv w0 M N n x (zmm id Q) φ σ):AWp P inv w0 M N n (.block id x) Q φ σ:=by
 intro c₀ hc β a w hs
 obtain ⟨x₀,rfl,hx⟩:=zpQ hc
 refine wp_block ?_
 refine Code.wp_mono ?_ (h x₀ hx β a w hs)
 rintro e a' w' ⟨φ',σ',β',q,hst,hext⟩
 cases e with
 |exit id' =>
  simp only[zmm]at q
  simp only[Exit.inBlock]
  split
  ·rename_i e;rw[if_pos e]at q;exact ⟨φ',σ',β',q,hst,hext⟩
  ·rename_i e;rw[if_neg e]at q;exact ⟨φ',σ',β',q,hst,hext⟩
 |normal=>exact ⟨φ',σ',β',q,hst,hext⟩
 |goto l=>exact ⟨φ',σ',β',q,hst,hext⟩
 |ret=>exact ⟨φ',σ',β',q,hst,hext⟩
 |panic ch=>exact ⟨φ',σ',β',q,hst,hext⟩
 |outgrown=>exact ⟨φ',σ',β',q,hst,hext⟩
def zgA:List (Nat×AV)→AF→Prop
 |[],_=>True
 |(i,x)::r,φ=>za3 φ i=x∧zgA r φ
def ze7:List (Nat×AO)→AS→Prop
 |[],_=>True
 |(l,o)::r,σ=>zax σ l=some o∧ze7 r σ
theorem zjz:∀ {φ' φ:AF},zgA φ' φ→∀ i,za3 φ' i=.top∨za3 φ' i=za3 φ i
 |[],_,_,i=>.inl rfl
 |(j,x)::r,φ,h,i=>by
  simp only[zgA]at h
  simp only[za3]
  split
  ·rename_i e;subst e;exact .inr h.1.symm
  ·exact zjz h.2 i
theorem zek:∀ {σ' σ:AS},ze7 σ' σ→∀ l o,zax σ' l=some o→zax σ l=some o
 |[],_,_,l,o,h=>by simp[zax]at h
 |(j,x)::r,σ,hs,l,o,h=>by
  simp only[ze7]at hs
  simp only[zax]at h
  split at h
  ·rename_i e;subst e;simp only[Option.some.injEq]at h;subst h;exact hs.1
  ·exact zek hs.2 l o h
theorem St.sub {φ':AF} {σ':AS} (hs:St inv w0 M n φ σ β a w) (h1:zgA φ' φ) (h2:ze7 σ' σ) (N1:Nat):St inv w0 M n φ' σ' β a w∧Ext N1 (ctx inv M σ β w) (ctx inv M σ' β w):=by
 have hd:=fun N=>hs.mem.drop (zek h2) N
 refine ⟨⟨⟨fun i=>?_,(hd 0).1⟩,hs.size,hs.defers⟩,(hd N1).2⟩
 rcases zjz h1 i with e|e
 ·rw[e];simp only[rel]
 ·rw[e];exact (hd (zaC φ)).2.rel (zaI _ (zbC φ i)) (hs.slots i)
theorem AWp.sub {φ':AF} {σ':AS} {c:ACode} {Q:Exit→AF→AS→Prop} (h:AWp P inv w0 M N n c Q φ' σ') (h1:zgA φ' φ) (h2:ze7 σ' σ):AWp P inv w0 M N n c Q φ σ:=by
 intro c₀ hc β a w hs
 obtain ⟨hs',hx⟩:=hs.sub h1 h2 N
 exact Code.wp_mono (fun _ _ _ ⟨φ2,σ2,β2,q2,hst2,hext2⟩=>⟨φ2,σ2,β2,q2,hst2,hx.trans hext2⟩) (h c₀ hc β a w hs')
theorem AWp.loop {x:ACode} {Q:Exit→AF→AS→Prop} (I:Nat→AF→AS→Prop) (m:Nat) (h0:∃ φ' σ',I m φ' σ'∧zgA φ' φ∧ze7 σ' σ)
  (hr:∀ m φ σ,I m φ σ→AWp P inv w0 M N n x (zou (fun φ' σ'=>∃ m' φ2 σ2,m'<m∧I m' φ2 σ2∧zgA φ2 φ'∧ze7 σ2 σ') Q) φ σ):AWp P inv w0 M N n (.loop x) Q φ σ:=by
 intro c₀ hc β a w hs
 obtain ⟨x₀,rfl,hx⟩:=zmZ hc
 obtain ⟨φ0,σ0,hI,hf,hss⟩:=h0
 obtain ⟨hs0,he0⟩:=hs.sub hf hss N
 refine Code.wp_mono (fun _ _ _ h=>h) (wp_loop_ghost (fun m' a' w'=>∃ φ' σ' β',I m' φ' σ'∧St inv w0 M n φ' σ' β' a' w'∧Ext N (ctx inv M σ β w) (ctx inv M σ' β' w')) m ⟨φ0,σ0,β,hI,hs0,he0⟩ ?_)
 rintro m1 a1 w1 ⟨φ1,σ1,β1,hI1,hs1,he1⟩
 refine Code.wp_mono ?_ (hr m1 φ1 σ1 hI1 x₀ hx β1 a1 w1 hs1)
 rintro e a2 w2 ⟨φ2,σ2,β2,q,hst,hext⟩
 cases e with
 |normal =>
  obtain ⟨m',φ3,σ3,hlt,hI3,hf3,hs3⟩:=q
  obtain ⟨hst3,hext3⟩:=hst.sub hf3 hs3 N
  exact ⟨m',hlt,φ3,σ3,β2,hI3,hst3,he1.trans (hext.trans hext3)⟩
 |exit id=>exact ⟨φ2,σ2,β2,q,hst,he1.trans hext⟩
 |goto l=>exact ⟨φ2,σ2,β2,q,hst,he1.trans hext⟩
 |ret=>exact ⟨φ2,σ2,β2,q,hst,he1.trans hext⟩
 |panic ch=>exact ⟨φ2,σ2,β2,q,hst,he1.trans hext⟩
 |outgrown=>exact ⟨φ2,σ2,β2,q,hst,he1.trans hext⟩
end
end Go.Eng
