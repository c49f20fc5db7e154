/-
  A part of the engine that walks the functions' codes, and of the functions' contracts. Conditions: those that each theorem names.
-/
import Derived.Test.YtibpmipffibbpaaGreatK2
import Derived.Below
import Derived.Calls
import Derived.ChangeKeysEq
import Derived.DataReads
import Derived.Deep.LoopGhost
import Derived.Laws.AppendOwn
import Derived.Laws.Cells
import Derived.Laws.CopyRow
import Derived.Laws.Entries
import Derived.Laws.MakeOwn
import Derived.Laws.Rows
import Derived.Laws.StructEq
import Derived.Laws.Tables
import Derived.Lib.AppendZerosOnto
import Derived.MapKept
import Derived.Orders
import Derived.ProofKit
import Derived.ScopeJumps
import Derived.Tactics2
import Derived.WalkSpells
set_option linter.unusedSimpArgs false
set_option linter.unusedVariables false
set_option linter.unusedSectionVars false
namespace Go.Eng
open Go.RowKit
section
variable {P:Program} {inv:Nat→Option Nat} {w0:World} {M:Nat→Prop} {n N:Nat} {φ:AF} {σ:AS} {β:Nat→Nat} {a:Act} {w:World}
theorem zqf {d:Option Nat} (h:zla n d=true):∀ k,d=some k→k<n:=by
 intro k hk
 subst hk
 simpa [zla] using h
theorem zi2 (hE:zbZ P inv) (hs:St inv w0 M n φ σ β a w) {g j:Nat} (hg:inv g=some j) {args:List AV} {vs:Array Value} (hr:zbQ (ctx inv M σ β w) args vs.toList) {K:AF→AS→Prop} {d:Option Nat} (hd:∀ k,d=some k→k<n)
  (h:CallK P inv w0 M N φ σ j args fun r σ'=>K (zcF φ d r) σ') {o:Oper} (ho:o.dst=d) {za9:Act→World→Prop} {Q:Exit→Act→World→Prop}
  (hn:∀ φ' σ' β' a' w',K φ' σ'→St inv w0 M n φ' σ' β' a' w'→Ext N (ctx inv M σ β w) (ctx inv M σ' β' w')→za9 a' w')
  (hx:(execOp a.eval o).run P w=(callFunc g vs).run P w):o.wp P a w za9 Q:=by
 obtain ⟨fn,h1,h2,h3⟩:=hE.2 g j hg
 unfold Oper.wp
 have hc:(callFunc g vs).run P w=.ok (.enter g vs) w:=by
  simp only[callFunc,Sem.run_bind,run_program,Result.andThen_ok,h1,h3,h2,Bool.false_eq_true,if_false,Sem.run_pure]
 rw[hx,hc]
 simp only[Oper.upon]
 obtain ⟨N',hN,hφ,hac⟩:=h
 refine (hac g hg β w vs hs.mem hr).mono fun e w' ⟨v,r,σ',β',he,hk,hm,hext,hrr⟩=>?_
 subst he
 show za9 (a.put o.dst v) w'
 rw[ho]
 cases d with
 |none=>exact hn _ _ _ _ _ hk (hs.keep hm hext hφ) (hext.mono hN)
 |some d=>exact hn _ _ _ _ _ hk (hs.put hm hext hφ (hd d rfl) hrr) (hext.mono hN)
theorem zlc (hs:Knows inv w0 M φ σ β a w) {ts:List TypeId} {xs:List Operand} {l:List Opd} (h:zld P inv (ts.zip xs)=some l) (hl:ts.length=xs.length):zbQ (ctx inv M σ β w) (l.map (ev φ)) (xs.map a.eval):=by
 have:=zid hs h
 have e:(ts.zip xs).map (fun p=>a.eval p.2)=xs.map a.eval:=by
  show (ts.zip xs).map (a.eval∘Prod.snd)=_
  rw[←List.map_map,List.map_snd_zip (by omega)]
 rw[e]at this
 exact this
set_option maxHeartbeats 1000000 in
theorem zqd (hE:zbZ P inv) (hM:∀ b,M b→b<w0.heap.size) (hs:St inv w0 M n φ σ β a w) {o:Oper} {op:AOp} (hc:zcX P inv o=some op) (hdst:op.dst=o.dst) (hok:zla n o.dst=true) {K:AF→AS→Prop} (h:aop P inv w0 M N op φ σ K)
  {za9:Act→World→Prop} {Q:Exit→Act→World→Prop} (hn:∀ φ' σ' β' a' w',K φ' σ'→St inv w0 M n φ' σ' β' a' w'→Ext N (ctx inv M σ β w) (ctx inv M σ' β' w')→za9 a' w'):o.wp P a w za9 Q:=by
 have hdl:=zqf hok
 obtain ⟨f1,f2,f3⟩:=zbB N φ σ
 have val:∀ {v:Value} {w':World},(execOp a.eval o).run P w=.ok (.value v) w'→za9 (a.put o.dst v) w'→o.wp P a w za9 Q:=by
  intro v w' h1 h2
  unfold Oper.wp
  rw[h1]
  exact h2
 unfold zcX at hc
 split at hc
 ·-- alloc
  rename_i t ho
  obtain ⟨z,h1,rfl⟩:=Option.map_eq_some_iff.1 hc
  simp only[AOp.dst]at hdst
  obtain ⟨i,zv,hi,hz,hzr⟩:=zco (c:=ctx inv M σ β w) h1
  have hlen:=zaF hzr
  have hnew:=hs.new_ptr (N:=N) (ty:=t) (hdl _ hdst.symm) (cs:=zdZ z) (xs:=zv.cells) (by rw[zcB h1];omega) (by simpa using hlen) hzr
  refine val (v:=.pointer (some ⟨w.heap.size,0,none⟩)) (w':=w.alloc (.cells zv.cells t)) ?_ ?_
  ·simp only[execOp,ho,Sem.run_bind,zeS hi hz,Result.andThen_ok,Sem.run_pure]
  ·rw[←hdst];exact hn _ _ _ _ _ h hnew.1 hnew.2
 ·-- box
  rename_i t x ho
  split at hc
  ·rename_i k dx h1 h2
   simp only[Option.some.injEq]at hc
   subst hc
   simp only[AOp.dst]at hdst
   obtain ⟨k1,k2,h⟩:=h
   have hx:=zao hs.toKnows h2
   have hxc:=zig k1 hx
   have hlen:=zaF hxc
   have hnew:=hs.new_ptr (N:=N) (ty:=t) (hdl _ hdst.symm) (cs:=(ev φ dx).cells) (xs:=(a.eval x).cells) (Nat.le_trans (ze7 _) (Nat.le_trans (zj1 dx (zgi h2)) f2)) (by simpa using hlen) hxc
   refine val (v:=.pointer (some ⟨w.heap.size,0,none⟩)) (w':=w.alloc (.cells (a.eval x).cells t)) ?_ ?_
   ·simp[execOp,ho,Instr.box,newVar,newRow]
   ·rw[←hdst]
    rw[k2]at hnew
    exact hn _ _ _ _ _ h hnew.1 hnew.2
  ·cases hc
 ·-- a slice and nil
  rename_i op0 t x _ ho
  split at hc
  ·rename_i et e1
   have hn':∀ (ad:Option Addr) (len cap:Nat) (neg:Bool),op0=(if neg=true then .neq else .eql)→a.eval x=.slice ad len cap→(ad=none→len=0)→znV len neg (fun t=>K (zbx φ (o.dst.getD 0) (.b t)) σ)→o.dst=some (o.dst.getD 0)→o.wp P a w za9 Q:=by
    intro ad len cap neg hop hx hz hk hds
    have hg:=zch (P:=P) (w:=w) op0 t x (.const (.slice none 0 0)) (.slice ad len cap) (.slice none 0 0) (by simp) (by simp)
    have hcst:a.eval (.const (.slice none 0 0))=.slice none 0 0:=rfl
    have hv:(execOp a.eval o).run P w=.ok (.value (.bool (ad.isNone != neg))) w:=by
     cases neg with
     |true =>
      simp only[if_true]at hop
      subst hop
      simp only[execOp,ho,hx,hcst,Sem.run_bind,hg,Result.andThen_ok,run_neq_slice_nil_any w t et ad len cap 0 0 e1,Sem.run_pure]
      simp
     |false =>
      simp only[Bool.false_eq_true,if_false]at hop
      subst hop
      simp only[execOp,ho,hx,hcst,Sem.run_bind,hg,Result.andThen_ok,Lib.run_eql_slice_nil w t et ad len cap 0 0 e1,Sem.run_pure]
      simp
    refine val hv ?_
    have hput:∀ b,K (zbx φ (o.dst.getD 0) (.b b)) σ→za9 (a.put o.dst (.bool b)) w:=by
     intro b hk
     rw[hds]
     exact hn _ _ _ _ _ hk (hs.set (hdl _ hds) (by simp only[rel])) (.refl _ _)
    cases ad with
    |none=>have:=hput (!neg) (hk.1 (hz rfl));simpa using this
    |some ad=>have:=hput neg hk.2;simpa using this
   have fin:∀ (dx:Opd) (neg:Bool),op0=(if neg=true then .neq else .eql)→zcS P inv t x=some dx→op=.isnil (o.dst.getD 0) neg dx→o.wp P a w za9 Q:=by
    intro dx neg hop h1 e
    subst e
    have r1:=zao hs.toKnows h1
    simp only[AOp.dst]at hdst
    simp only[aop]at h
    split at h
    ·rename_i sz es ep
     rw[ep]at r1
     simp only[rel]at r1
     obtain ⟨ad,cap,q1,_,q3⟩:=r1
     refine hn' ad _ cap neg hop q1 (fun e=>?_) h hdst.symm
     cases es with
     |nil=>rfl
     |cons r es=>obtain ⟨a',ea,_⟩:=q3 (by simp);rw[e]at ea;cases ea
    ·rename_i sz ep
     rw[ep]at r1
     simp only[rel]at r1
     obtain ⟨ad,q1⟩:=r1
     exact hn' ad _ _ neg hop q1 (fun _=>rfl) h hdst.symm
    ·rename_i l ver off m sz ep
     rw[ep]at r1
     obtain ⟨p,ad,cap,_,_,_,q1,hcap,hr⟩:=zdE h.1 r1
     refine hn' ad _ cap neg hop q1 (fun e=>?_) h.2 hdst.symm
     subst e
     split at hr
     ·rcases hr.1 with h0|h0
      ·omega
      ·cases h0
     ·omega
    ·exact h.elim
   split at hc
   ·rename_i dx h1
    simp only[Option.some.injEq]at hc
    exact fin dx false rfl h1 hc.symm
   ·rename_i dx h1
    simp only[Option.some.injEq]at hc
    exact fin dx true rfl h1 hc.symm
   ·cases hc
  ·cases hc
 ·-- buildSlice
  rename_i t len parts ho
  split at hc
  ·rename_i h00
   obtain ⟨hlen0,hp0⟩:=h00
   split at hc
   ·rename_i e e1
    obtain ⟨k,h1,rfl⟩:=Option.map_eq_some_iff.1 hc
    simp only[AOp.dst]at hdst
    simp only[aop]at h
    have hp1:parts=#[]:=Array.isEmpty_iff.1 hp0
    have hrun:(execOp a.eval o).run P w=.ok (.value (.slice (some ⟨w.heap.size,0,none⟩) 0 0)) (w.alloc (.cells #[] e)):=by
     simp[execOp,ho,hlen0,hp1,Instr.buildSlice,Sem.run_bind,run_underlying e1,zcY h1,Instr.fill,newRow]
     congr 2
     exact Array.eq_empty_of_size_eq_zero (by simp)
    obtain ⟨m1,m2⟩:=hs.mem.call (w':=w.alloc (.cells #[] e)) ((Below.refl _ w).alloc (Nat.le_refl _) _) (mx N (zaL φ))
    refine val hrun ?_
    rw[←hdst]
    exact hn _ _ _ _ _ h (hs.put m1 m2 (zav _ _) (hdl _ hdst.symm) (by simp only[rel];exact ⟨_,rfl⟩)) (m2.mono (zaY _ _))
   ·cases hc
  rename_i hnot
  split at hc
  ·rename_i e e1
   split at hc
   ·rename_i k z h1 h2
    split at hc
    ·rename_i ps h3
     split at hc
     ·rename_i hcond
      obtain ⟨c1,c2,c3,c4⟩:=hcond
      simp only[Option.some.injEq]at hc
      subst hc
      simp only[AOp.dst]at hdst
      obtain ⟨i,zv,hi,hz,hzr⟩:=zco (c:=ctx inv M σ β w) h2
      have hzl:=zaF hzr
      have hzs:zv.cells.size=k:=by rw[←Array.length_toList,←hzl];exact c4
      simp only[aop]at h
      obtain ⟨cs,ecs,h⟩:=za3 h
      ·have hmade:relCs (ctx inv M σ β w) (List.replicate len (zdZ z)).flatten (madeCells zv.cells (len*k)).toList:=by
        rw[←hzs,zej]
        exact zjw hzr len
       obtain ⟨cells',k1,k2⟩:=zeH hs.toKnows h3 ecs hmade
       have hcl:cs.length=len*k:=by
        have:∀ {ps:List (Nat×Nat×Opd)} {c c':List AV},zdX φ c ps=some c'→c'.length=c.length:=by
         intro ps
         induction ps with
         |nil=>intro c c' h;simp only[zdX,Option.some.injEq]at h;rw[h]
         |cons p ps ih =>
          obtain ⟨o1,o2,o3⟩:=p
          intro c c' h
          simp only[zdX]at h
          split at h
          ·rw[ih h,zcV]
          ·cases h
        rw[this ecs,zb5,c4]
       have hcl2:=zaF k2
       have hrun:(execOp a.eval o).run P w=.ok (.value (.slice (some ⟨w.heap.size,0,none⟩) len len)) (w.alloc (.cells cells' e)):=by
        have hne:¬len*k=0:=fun e=>by rcases Nat.mul_eq_zero.1 e with e|e<;>omega
        have hle:¬(len*k > 2 ^ 24):=by have:(2:Nat) ^ 24=16777216:=rfl;omega
        have k1':Instr.fill (fun i=>some (i*k,k)) (Array.map (fun x=>zv.cells[x % zv.cells.size]!) (Array.range (len*k))) (parts.toList.map fun p=>(p.1,a.eval p.2))=some cells':=by
         rw[←k1]
         simp only[Option.map_some]
         rfl
        simp only[execOp,ho,Instr.buildSlice,Sem.run_bind,run_underlying e1,Result.andThen_ok,zcY h1,if_neg hle,Sem.run_pure,if_neg hne,zeroValue,run_typeInfo w hi,hz]
        simp only[Array.toList_map]at k1' ⊢
        rw[k1']
        simp[newRow]
       have hb:zac cs≤zax N φ σ:=zh5 ecs (zgH h3) _ f2 (zhu (by rw[zcB h2];omega) len)
       have hrow:relCs (ctx inv M σ β w) cs (cells'.toList.take cs.length):=by
        rw[show cs.length=cells'.toList.length from hcl2,List.take_length]
        exact k2
       have hnew:=hs.new_sm (N:=N) (hdl _ hdst.symm) (cs:=cs) (xs:=cells') (ty:=e) (sz:=k) (m:=len) (cap:=len) (w':=w.alloc (.cells cells' e)) rfl rfl rfl rfl hb hcl (Nat.le_refl _) (by rw[←Array.length_toList,←hcl2,hcl];exact Nat.le_refl _) hrow
       refine val hrun ?_
       rw[←hdst]
       split at h
       ·rename_i hbare
        have hcall:=hs.mem.call (w':=w.alloc (.cells cells' e)) ((Below.refl _ _).alloc (Nat.le_refl _) _) (zaL φ)
        have hcallN:=hs.mem.call (w':=w.alloc (.cells cells' e)) ((Below.refl _ _).alloc (Nat.le_refl _) _) N
        refine hn _ _ _ _ _ h (hs.put hcall.1 hcall.2 (Nat.le_refl _) (hdl _ hdst.symm) ?_) hcallN.2
        simp only[rel]
        refine ⟨_,_,by rw[zci],by rw[zci];exact Nat.le_refl _,fun _=>⟨_,rfl, ?_, ?_, ?_⟩⟩
        ·rintro (hm|⟨l',o',e',hr',hb'⟩)
         ·have h6:=hM _ hm
          have h7:=hs.mem.below.size
          simp only at h6
          omega
         ·have:=(hs.mem.own l' o' e' hr').2
          simp only at hb'
          omega
        ·show w.heap.size<(w.alloc (.cells cells' e)).heap.size
         simp
        ·refine zdg len (by omega) hbare (ys:=cells'.toList) ?_ fun j u hu=>?_
         ·have h5:=hcall.2.relCs (zas cs (by rw[zbh cs hbare];omega)) k2
          exact zdt (S:=fun _=>none) cs _ hbare h5
         ·show (w.alloc (.cells cells' e)).cell? _=some u
          rw[Nat.zero_add,zck,Nat.zero_add]
          have:(w.alloc (.cells cells' e)).heap[w.heap.size]?=some (.cells cells' e (0,0)):=heap_alloc_new w _
          simp only[World.cell?,this,Option.isSome_none,Bool.false_eq_true,if_false]
          simpa using hu
       ·exact hn _ _ _ _ _ h hnew.1 hnew.2
     ·cases hc
    ·cases hc
   ·cases hc
  ·cases hc
 ·-- store
  rename_i t x y ho
  split at hc
  ·rename_i k dx dy h1 h2 h3
   simp only[Option.some.injEq]at hc
   subst hc
   simp only[AOp.dst]at hdst
   have r1:=zao hs.toKnows h2
   have r2:=zao hs.toKnows h3
   simp only[aop]at h
   split at h
   ·rename_i l ver off ep
    rw[ep]at r1
    split at h
    ·rename_i cs r hg
     obtain ⟨q1,q2,q3,⟨q4,q5⟩,h⟩:=h
     obtain ⟨w',hrun,hst,hext⟩:=zlH (N:=N) hs h1 r1 r2 (zj1 dy (zgi h3)) hg q1 q2 q3 q4 q5
     unfold Oper.wp
     have hx:(execOp a.eval o).run P w=.ok .skip w':=by simp only[execOp,ho,Sem.run_bind,hrun,Result.andThen_ok,Sem.run_pure]
     rw[hx]
     show za9 (a.put o.dst undef) w'
     rw[←hdst]
     exact hn _ _ _ _ _ h hst hext
    ·exact h.elim
   ·exact h.elim
  ·cases hc
 ·-- makeSlice
  rename_i t l c ho
  split at hc
  ·rename_i e e1
   split at hc
   ·rename_i i z dl dc hi h2 h3 h4
    split at hc
    ·rename_i hcond
     obtain ⟨c1,c2,c3⟩:=hcond
     simp only[Option.some.injEq]at hc
     subst hc
     simp only[AOp.dst]at hdst
     obtain ⟨i',zv,hi',hz,hzr⟩:=zco (c:=ctx inv M σ β w) h2
     rw[hi]at hi'
     simp only[Option.some.injEq]at hi'
     subst hi'
     have hzl:=zaF hzr
     have hzs:zv.cells.size=i.size:=by rw[←Array.length_toList,←hzl];exact c2
     have r1:=zao hs.toKnows h3
     have r2:=zao hs.toKnows h4
     simp only[aop]at h
     split at h
     ·rename_i kl al kc ac el ec
      rw[el]at r1
      rw[ec]at r2
      simp only[rel]at r1 r2
      obtain ⟨⟨q1,q2,q3⟩,h⟩:=h
      have hbytes:(i.bytes:Int)*ac≤281474976710656:=by
       have h5:(i.bytes:Int)*ac≤32768*ac:=Int.mul_le_mul_of_nonneg_right (by omega) (by omega)
       omega
      have hrun:=run_make (P:=P) w t e i zv e1 hi hz kl kc al ac q1 q2 hbytes (by omega)
      have hle:al.toNat≤ac.toNat:=by omega
      have hnew:=hs.new_sm (N:=N) (hdl _ hdst.symm) (cs:=(List.replicate al.toNat (zdZ z)).flatten) (xs:=madeCells zv.cells (ac.toNat*i.size)) (ty:=e) (sz:=i.size) (m:=al.toNat) (cap:=ac.toNat) (w':=w.alloc (.cells (madeCells zv.cells (ac.toNat*i.size)) e)) rfl rfl rfl rfl
       (zhu (by rw[zcB h2];omega) _) (by rw[zb5,c2]) hle (by rw[size_madeCells];exact Nat.le_refl _)
       (by rw[zb5,c2,←hzs,ziu zv.cells _ _ hle];exact zjw hzr _)
      refine val (v:=.slice (some ⟨w.heap.size,0,none⟩) al.toNat ac.toNat) (w':=w.alloc (.cells (madeCells zv.cells (ac.toNat*i.size)) e)) ?_ ?_
      ·simp only[execOp,ho,r1,r2,Sem.run_bind,hrun,Result.andThen_ok,Sem.run_pure]
      ·rw[←hdst];exact hn _ _ _ _ _ h hnew.1 hnew.2
     ·exact h.elim
    ·cases hc
   ·cases hc
  ·cases hc
 ·-- call
  rename_i c ho
  unfold zqo at hc
  split at hc
  ·rename_i g ecal
   split at hc
   ·rename_i j l h1 h2
    split at hc
    ·rename_i hsz
     simp only[Option.some.injEq]at hc
     subst hc
     simp only[aop]at h
     refine zi2 hE hs h1 (vs:=c.args.map a.eval) ?_ hdl h rfl hn ?_
     ·rw[Array.toList_map];exact zlc hs.toKnows h2 (by simpa using hsz)
     ·simp[execOp,ho,resolve,ecal,invoke,Act.eval,Deferred.ofValue]
    ·cases hc
   ·cases hc
  ·rename_i f _ ecal
   split at hc
   ·rename_i df l h1 h2
    split at hc
    ·rename_i hsz
     simp only[Option.some.injEq]at hc
     subst hc
     have r1:=zao hs.toKnows h1
     simp only[aop]at h
     split at h
     ·rename_i j caps ej
      rw[ej]at r1
      simp only[rel]at r1
      obtain ⟨g,xs,q1,q2,q3⟩:=r1
      refine zi2 hE hs q2 (vs:=c.args.map a.eval++xs) ?_ hdl h rfl hn ?_
      ·rw[Array.toList_append,Array.toList_map];exact zhB (zlc hs.toKnows h2 (by simpa using hsz)) q3
      ·simp[execOp,ho,resolve,ecal,q1,invoke,Deferred.ofValue]
     ·exact h.elim
    ·cases hc
   ·cases hc
  ·rename_i ecal
   split at hc
   ·rename_i d s x t u e0 e1 e2
    split at hc
    ·rename_i e d' ds dx e3 e4 e5 e6
     split at hc
     ·rename_i i e7
      split at hc
      ·rename_i z e8
       split at hc
       ·rename_i hcond
        simp only[Option.some.injEq]at hc
        subst hc
        simp only[aop]at h
        obtain ⟨v,w',φ',σ',β',hk,hrun,hst,hext⟩:=zqz (N:=N) (ty:=o.type) hs e3 e4 e7 e8 hcond.2.1 hcond.1 hcond.2.2 (hdl d e0) (zao hs.toKnows e5) (zao hs.toKnows e6) h
        obtain ⟨callee,⟨args⟩,⟨ts⟩⟩:=c
        simp only at ecal e1 e2
        subst ecal e1 e2
        refine val (v:=v) (w':=w') ?_ ?_
        ·simp[execOp,ho,resolve,invoke,builtin,hrun]
        ·rw[e0];exact hn _ _ _ _ _ hk hst hext
       ·cases hc
      ·cases hc
     ·cases hc
    ·-- so many zeros
     rename_i e kq ds dx e3 e4 e5 e6
     split at hc
     ·rename_i i z hi e8
      split at hc
      ·rename_i hcond
       obtain ⟨c1,c2,c3⟩:=hcond
       simp only[Option.some.injEq]at hc
       subst hc
       obtain ⟨i',zv,hi',hz,hzr⟩:=zco (c:=ctx inv M σ β w) e8
       rw[hi]at hi'
       simp only[Option.some.injEq]at hi'
       subst hi'
       have hzl:=zaF hzr
       have hzs:zv.cells.size=i.size:=by rw[←Array.length_toList,←hzl];exact c2
       have r1:=zao hs.toKnows e5
       have r2:=zao hs.toKnows e6
       simp only[aop]at h
       obtain ⟨callee,⟨args⟩,⟨ts⟩⟩:=c
       simp only at ecal e1 e2
       subst ecal e1 e2
       split at h
       ·rename_i sz0 b el eb
        rw[el]at r1
        rw[eb]at r2
        simp only[rel]at r1 r2
        obtain ⟨ad,r1⟩:=r1
        obtain ⟨⟨q1,q2⟩,h⟩:=h
        obtain ⟨m,rfl⟩:=Int.eq_ofNat_of_zero_le q1
        simp only[Int.toNat_natCast]at h
        rcases Nat.eq_zero_or_pos m with h0|h0
        ·subst h0
         simp only[Nat.lt_irrefl,decide_false,List.replicate_zero,List.flatten_nil]at h
         have hg:=hs.mem.ghost_put f3
         have hrun:(Builtin.append_ #[t,u] o.type #[.slice ad 0 0,.int .i64 ((0:Nat):Int)]).run P w=.ok (.slice ad 0 0) w:=by
          have hw:IntKind.i64.wrap (0:Int)=0:=by rw[IntKind.wrap_i64];rfl
          cases ad<;>simp[Builtin.append_,run_underlying e3,run_underlying e4,sizeOf,typeInfo,hi,asInt,asIntOf,hw,storeCells]
         refine val (v:=.slice ad 0 0) (w':=w) ?_ ?_
         ·simp only[Int.natCast_zero]at hrun
          simp[execOp,ho,resolve,invoke,builtin,r1,r2,hrun]
         ·rw[e0]
          refine hn _ _ _ _ _ h (hs.put hg.1 hg.2.1 f2 (hdl d e0) ?_) (hg.2.1.mono f1)
          simp only[rel]
          refine ⟨rfl,fun p' hp'=>?_⟩
          have:p'=⟨0,0,0,false⟩:=by have:=(show zal β w _ _=some p' from hp').symm.trans hg.2.2;simpa using this
          subst this
          exact ⟨by simp,fun _=>⟨by simp,ad,0,rfl,Nat.le_refl _,by simp⟩⟩
        ·have hm31:m≤2147483648:=by omega
         have hby:m*i.bytes≤140737488355328:=Nat.le_trans (Nat.mul_le_mul_left _ c3) (by omega)
         have hfo:(Builtin.firstCells i.size 0 (.slice ad 0 0)).run P w.drew=.ok #[] w.drew:=by cases ad<;>simp[Builtin.firstCells,loadCells,loadCellsFrom]
         have hrun:=Lib.run_append_grow_zeros (P:=P) w t u o.type e i zv .i64 kq e3 e4 hi hz ad 0 0 [] hfo m h0 c1 (by omega) (by omega) (by omega) (growslice_fits (by omega) (by simpa using hby))
         simp only[Nat.zero_add]at hrun
         have hge:=grownCap_ge w m 0 e
         rw[show decide (0<m)=true by simpa using h0]at h
         have hnew:=hs.new_sm (N:=N) (hdl d e0) (cs:=(List.replicate m (zdZ z)).flatten) (m:=m) (sz:=i.size) (cap:=grownCap w m 0 e) (w':=w.drew.alloc (.cells ([].toArray++Builtin.zeroCells zv.cells m++Builtin.zeroCells zv.cells (grownCap w m 0 e-m)) e))
          rfl rfl rfl rfl (zhu (by rw[zcB e8];omega) _) (by rw[zb5,c2]) hge
          (by simp[size_zeroCells,hzs];rw[←Nat.add_mul];exact Nat.mul_le_mul_right _ (by omega))
          (by
           have hz2:(Builtin.zeroCells zv.cells m).toList=(List.replicate m zv.cells.toList).flatten:=zej zv.cells m
           have:([].toArray++Builtin.zeroCells zv.cells m++Builtin.zeroCells zv.cells (grownCap w m 0 e-m)).toList.take (List.replicate m (zdZ z)).flatten.length=(List.replicate m zv.cells.toList).flatten:=by
            simp only[Array.toList_append,hz2,List.nil_append]
            rw[List.take_left' (by rw[zb5,zb5,c2];simp[hzs])]
           rw[this]
           exact zjw hzr m)
         refine val (v:=.slice (some ⟨w.heap.size,0,none⟩) m (grownCap w m 0 e)) (w':=w.drew.alloc (.cells ([].toArray++Builtin.zeroCells zv.cells m++Builtin.zeroCells zv.cells (grownCap w m 0 e-m)) e)) ?_ ?_
         ·simp only[execOp,ho,resolve,invoke,builtin,r1,r2]
          simp[hrun,r1,r2]
         ·rw[e0];exact hn _ _ _ _ _ h hnew.1 hnew.2
       ·exact h.elim
      ·cases hc
     ·cases hc
    ·cases hc
   ·cases hc
  ·cases hc
 ·-- makeMap
  rename_i t ho
  simp only[Option.some.injEq]at hc
  subst hc
  simp only[AOp.dst]at hdst
  simp only[aop]at h
  have hnew:=hs.new_map (N:=N) (hdl _ hdst.symm)
  refine val (v:=.map (some w.heap.size)) (w':=w.alloc (.map #[] 0)) ?_ ?_
  ·simp[execOp,ho,Instr.makeMap]
  ·rw[←hdst];exact hn _ _ _ _ _ h hnew.1 hnew.2
 ·-- mapUpdate
  rename_i t m k v ho
  split at hc
  ·rename_i kt vt e1
   split at hc
   ·rename_i dm dk dv e2 h1 h2 h3
    simp only[Option.some.injEq]at hc
    subst hc
    simp only[AOp.dst]at hdst
    have r1:=zao hs.toKnows h1
    have r2:=zao hs.toKnows h2
    have r3:=zao hs.toKnows h3
    simp only[aop]at h
    split at h
    ·rename_i l b x em ek exv
     split at h
     ·rename_i kvs hg
      rw[em]at r1
      rw[ek]at r2
      rw[exv]at r3
      simp only[rel]at r1 r2 r3
      have hp:zal β w σ l=some ⟨β l,0,0,true⟩:=by unfold zal;rw[hg]
      have hm:=r1.2 _ hp rfl
      simp only at hm
      obtain ⟨es,clk,hh,hes⟩:=hs.mem.maps l kvs hg
      have hfk:(Instr.findKey kt (.int .i64 b) es.toList).run P w=.ok (zh4 es.toList b 0) w:=by
       simp only[Instr.findKey,Sem.run_bind,run_underlying e2,Result.andThen_ok,zgh b es.toList kvs 0 hes,Sem.run_pure]
      have hck:=Go.MapKept.run_checkKey (w:=w) (k:=.int .i64 b) e2 rfl false 9999
      have hown:=hs.mem.own l _ hg rfl
      have hu:upd β l (β l)=β:=by funext k;unfold upd;split<;>simp_all
      have fin:∀ (es':Array MapEntry) (clk':Nat),es'.toList.map (fun e=>(e.key,e.val))=(zl0 kvs b x).map (fun p=>(Value.int .i64 p.1,Value.int .i64 p.2)) →
        (Instr.mapUpdate t (a.eval m) (a.eval k) (a.eval v)).run P w=.ok () { w with heap:=w.heap.setIfInBounds (β l) (.map es' clk') }→o.wp P a w za9 Q:=by
       intro es' clk' he hrun
       have hput:=hs.mem.put_imap (l:=l) (b':=β l) (kvs:=zl0 kvs b x) (es:=es') (clk:=clk') (w':={ w with heap:=w.heap.setIfInBounds (β l) (.map es' clk') }) (N:=zax N φ σ)
        (hs.mem.below.trans ⟨rfl,rfl,rfl,by simp,fun b' hb'=>(Go.MapKept.heap_set hh).2 b' (by omega)⟩) (by simp)
        (fun b' _ hne=>(Go.MapKept.heap_set hh).2 b' hne) (Go.MapKept.heap_set hh).1 hown.1 (fun l' o' hne e hr he=>hne (hs.mem.inj l' l o' _ e hg hr rfl he)) (.inr ⟨kvs,hg,rfl⟩) (fun hle=>by omega) f3 (fun hle=>by omega) he
       rw[hu]at hput
       unfold Oper.wp
       have hx:(execOp a.eval o).run P w=.ok .skip { w with heap:=w.heap.setIfInBounds (β l) (.map es' clk') }:=by simp only[execOp,ho,Sem.run_bind,hrun,Result.andThen_ok,Sem.run_pure]
       rw[hx]
       show za9 (a.put o.dst undef) _
       rw[←hdst]
       exact hn _ _ _ _ _ h (hs.keep hput.1 hput.2.1 f2) (hput.2.1.mono f1)
      rcases zk3 b x es.toList kvs 0 hes with ⟨g1,g2⟩|⟨j,y,e',g1,g2,g3,g4⟩
      ·rw[g1]at hfk
       refine fin (es.push { key:=.int .i64 b,val:=.int .i64 x,born:=clk }) (clk+1) (by rw[g2];simp[hes]) ?_
       rw[hm,r2,r3]
       simp only[Instr.mapUpdate,Sem.run_bind,run_underlying e1,Result.andThen_ok,Go.MapKept.run_getObj_map hh,hck,hfk,Go.MapKept.run_setObj_map _ hh]
      ·rw[g1,Nat.zero_add]at hfk
       refine fin (es.modify j fun e=>{ e with key:=.int .i64 b,val:=.int .i64 x }) clk (by rw[←g4];simp) ?_
       rw[hm,r2,r3]
       have g5:es[j]?=some e':=by simpa using g2
       have hks:(Instr.keyThatStays (.int .i64 b) (.int .i64 b)).run P w=.ok (.int .i64 b) w:=Go.MapKept.run_keyThatStays (d:=.int .i64) rfl
       simp only[Instr.mapUpdate,Sem.run_bind,run_underlying e1,Result.andThen_ok,Go.MapKept.run_getObj_map hh,hck,hfk,g5,Option.map_some,Option.getD_some,g3,hks,Go.MapKept.run_setObj_map _ hh]
     ·exact h.elim
    ·exact h.elim
   ·cases hc
  ·cases hc
 ·cases hc
end
end Go.Eng
namespace Go.Eng
open Go.RowKit
section
variable {P:Program} {inv:Nat→Option Nat} {w0:World} {M:Nat→Prop} {n N:Nat} {φ:AF} {σ:AS} {β:Nat→Nat} {a:Act} {w:World}
theorem zm2 (hE:zbZ P inv) (hM:∀ b,M b→b<w0.heap.size) (hs:St inv w0 M n φ σ β a w) {o:Oper} {op:AOp} (hc:zbu P inv n o=some op) {K:AF→AS→Prop} (h:aop P inv w0 M N op φ σ K)
  {za9:Act→World→Prop} {Q:Exit→Act→World→Prop} (hn:∀ φ' σ' β' a' w',K φ' σ'→St inv w0 M n φ' σ' β' a' w'→Ext N (ctx inv M σ β w) (ctx inv M σ' β' w')→za9 a' w'):o.wp P a w za9 Q:=by
 unfold zbu at hc
 split at hc
 ·rename_i e he
  split at hc
  ·rename_i d hd
   split at hc
   ·rename_i hlt
    simp only[Option.some.injEq]at hc
    subst hc
    obtain ⟨x,y,hk,hr,hrun⟩:=zoe hs.toKnows he (K:=fun x=>K (zbx φ d x) σ) h
    unfold Oper.wp
    rw[hrun]
    show za9 (a.put o.dst y) w
    rw[hd]
    exact hn _ _ _ _ _ hk (hs.set hlt hr) (.refl _ _)
   ·cases hc
  ·cases hc
 ·split at hc
  ·rename_i op' he
   split at hc
   ·rename_i hcond
    simp only[Option.some.injEq]at hc
    subst hc
    exact zqd hE hM hs he hcond.1 hcond.2 h hn
   ·cases hc
  ·split at hc
   ·simp only[Option.some.injEq]at hc
    subst hc
    exact h.elim
   ·cases hc
theorem zdQ {o:Oper} {op:AOp} (hc:zbu P inv n o=some op):op.dst=o.dst∧zla n o.dst=true:=by
 unfold zbu at hc
 split at hc
 ·split at hc
  ·rename_i d hd
   split at hc
   ·rename_i hlt
    simp only[Option.some.injEq]at hc
    subst hc
    exact ⟨hd.symm,by rw[hd];simpa [zla] using hlt⟩
   ·cases hc
  ·cases hc
 ·split at hc
  ·split at hc
   ·rename_i hcond
    simp only[Option.some.injEq]at hc
    subst hc
    exact hcond
   ·cases hc
  ·split at hc
   ·rename_i hcond
    simp only[Option.some.injEq]at hc
    subst hc
    exact ⟨rfl,hcond⟩
   ·cases hc
theorem St.skip (hs:St inv w0 M n φ σ β a w) {d:Option Nat} (hd:zla n d=true):St inv w0 M n (zcF φ d .u) σ β (a.put d undef) w:=by
 cases d with
 |none=>exact hs
 |some d=>exact hs.set (zqf hd d rfl) (by simp only[rel])
theorem St.known (hs:St inv w0 M n φ σ β a w) {s:Nat} {x:AV} (h:∀ y,rel (ctx inv M σ β w) (zbk φ s) y→rel (ctx inv M σ β w) x y):St inv w0 M n (zbx φ s x) σ β a w:=by
 refine ⟨⟨fun i=>?_,hs.mem⟩,hs.size,hs.defers⟩
 rw[zbN]
 split
 ·rename_i e;rw[e];exact h _ (hs.slots s)
 ·exact hs.slots i
theorem ziB {ops:Array Oper} {j s:Nat} (hj:(ops[j]?).bind (·.dst)=some s) (hs:s<a.tmps.size):yielded ops a.tmps j=match a.tmps.getD s undef with|.bool b=>some b|_=>none:=by
 have h:a.tmps[s]?=some (a.tmps.getD s undef):=by simp[hs]
 simp only[yielded,hj,Option.bind_some,h]
 cases a.tmps.getD s undef<;>rfl
theorem zhP (hE:zbZ P inv) (hM:∀ b,M b→b<w0.heap.size) {ops:Array Oper} {Q:Exit→Act→World→Prop} {K:AF→AS→Prop} :
  ∀ {l:List Oper} {al:List GOp} {φ:AF} {σ:AS} {β:Nat→Nat} {a:Act} {w:World},zbn P inv n ops l=some al→zbE P inv w0 M N al K φ σ→St inv w0 M n φ σ β a w →
   (∀ φ' σ' β' a' w',K φ' σ'→St inv w0 M n φ' σ' β' a' w'→Ext N (ctx inv M σ β w) (ctx inv M σ' β' w')→Q .normal a' w')→wpList P ops Q l a w
 |[],al,φ,σ,β,a,w,hc,h,hs,hn=>by
  simp only[zbn,Option.some.injEq]at hc
  subst hc
  exact hn _ _ _ _ _ h hs (.refl _ _)
 |o::l,al,φ,σ,β,a,w,hc,h,hs,hn=>by
  simp only[zbn]at hc
  split at hc
  ·rename_i g op al' hg hop hal
   simp only[Option.some.injEq]at hc
   subst hc
   obtain ⟨hd1,hd2⟩:=zdQ hop
   have go:∀ {φ:AF},St inv w0 M n φ σ β a w→Region.wanted o (yielded ops a.tmps)=true→aop P inv w0 M N op φ σ (zbE P inv w0 M N al' K)→wpList P ops Q (o::l) a w:=by
    intro φ hs hw h
    unfold wpList
    rw[if_pos hw]
    refine .inl (zm2 hE hM hs hop h fun φ' σ' β' a' w' hk hst hext=>?_)
    exact zhP hE hM hal hk hst fun φ2 σ2 β2 a2 w2 k2 s2 e2=>hn _ _ _ _ _ k2 s2 (hext.trans e2)
   have skip:∀ {φ:AF},St inv w0 M n φ σ β a w→Region.wanted o (yielded ops a.tmps)=false→zbE P inv w0 M N al' K (zcF φ op.dst .u) σ→wpList P ops Q (o::l) a w:=by
    intro φ hs hw h
    refine wpList_skip hw ?_
    rw[hd1]at h
    exact zhP hE hM hal h (hs.skip hd2) hn
   cases hgd:o.guard with
   |none =>
    rw[hgd]at hg
    simp only[zeV,Option.some.injEq]at hg
    subst hg
    exact go hs (by simp[Region.wanted,hgd]) h
   |some jw =>
    obtain ⟨j,want⟩:=jw
    rw[hgd]at hg
    simp only[zeV]at hg
    split at hg
    ·rename_i s hj
     split at hg
     ·rename_i hlt
      simp only[Option.some.injEq]at hg
      subst hg
      have hy:=ziB (a:=a) hj (by rw[hs.size];exact hlt)
      have hsl:=hs.slots s
      have hcs:(∃ t,zbk φ s=.b t∧(t=want→aop P inv w0 M N op φ σ (zbE P inv w0 M N al' K))∧(¬t=want→zbE P inv w0 M N al' K (zcF φ op.dst .u) σ))∨(zbk φ s=.u∧zbE P inv w0 M N al' K (zcF φ op.dst .u) σ):=by
       cases want<;>simp only[zbE]at h<;>split at h
       all_goals first|exact h.elim|skip
       ·rename_i t et
        refine .inl ⟨t,et,fun e=>?_,fun e=>?_⟩
        ·have:=h.2 e;rwa [zdM (by rw[et,e])]at this
        ·have e':t=true:=by simpa using e
         have:=h.1 e';rwa [zdM (by rw[et,e'])]at this
       ·rename_i et;exact .inr ⟨et,h⟩
       ·rename_i t et
        refine .inl ⟨t,et,fun e=>?_,fun e=>?_⟩
        ·have:=h.1 e;rwa [zdM (by rw[et,e])]at this
        ·have e':t=false:=by simpa using e
         have:=h.2 e';rwa [zdM (by rw[et,e'])]at this
       ·rename_i et;exact .inr ⟨et,h⟩
      rcases hcs with ⟨t,et,h1,h2⟩|⟨et,h⟩
      ·rw[et]at hsl
       simp only[rel]at hsl
       have hw:Region.wanted o (yielded ops a.tmps)=decide (t=want):=by
        simp only[Region.wanted,hgd,hy,hsl]
        cases t<;>cases want<;>rfl
       by_cases htw:t=want
       ·exact go hs (by rw[hw];simpa using htw) (h1 htw)
       ·exact skip hs (by rw[hw];simpa using htw) (h2 htw)
      ·rw[et]at hsl
       simp only[rel]at hsl
       refine skip hs ?_ h
       simp only[Region.wanted,hgd,hy,hsl]
       rfl
     ·cases hg
    ·cases hg
  ·cases hc
theorem AWp.mono {c:ACode} {Q Q':Exit→AF→AS→Prop} (hq:∀ e φ σ,Q e φ σ→Q' e φ σ) (h:AWp P inv w0 M N n c Q φ σ):AWp P inv w0 M N n c Q' φ σ :=
 fun c₀ hc β a w hs=>Code.wp_mono (fun _ _ _ ⟨φ',σ',β',q,r⟩=>⟨φ',σ',β',hq _ _ _ q,r⟩) (h c₀ hc β a w hs)
theorem zdP {prs:List (List Nat)} {gs:List GOp} {k:Nat} {c:ACode} (h:drawn prs gs k=some c):∃ l,c=.regd k l:=by
 unfold drawn at h
 simp only at h
 split at h
 ·simp only[Option.some.injEq]at h;exact ⟨_,h.symm⟩
 ·split at h
  ·simp only[Option.some.injEq]at h;exact ⟨_,h.symm⟩
  ·cases h
theorem zaR {ops:Array Oper} {c:ACode} (h:zfN P inv n ops=some c):∃ kl:Nat×List GOp,c=.regd kl.1 kl.2:=by
 unfold zfN at h
 split at h
 ·split at h
  ·rename_i e
   simp only[Option.some.injEq]at h
   obtain ⟨l,rfl⟩:=zdP e
   exact ⟨(_,l),h.symm⟩
  ·obtain ⟨l,rfl⟩:=zdP h
   exact ⟨(_,l),rfl⟩
 ·cases h
theorem inv_skip {c₀:Code} (h:zam P inv n c₀=some .skip):c₀=.skip:=by
 unfold zam at h
 split at h<;>first|rfl|(cases h;done)|(obtain ⟨_,e⟩:=zaR h;cases e;done)|(obtain ⟨_,_,e⟩:=Option.map_eq_some_iff.1 h;cases e;done)|(split at h<;>simp at h)
theorem inv_exit {c₀:Code} {id:Nat} (h:zam P inv n c₀=some (.exit id)):c₀=.exit id:=by
 unfold zam at h
 split at h<;>first|(cases h;done)|(obtain ⟨_,e⟩:=zaR h;cases e;done)|(obtain ⟨_,_,e⟩:=Option.map_eq_some_iff.1 h;cases e;done)|(simp only[Option.some.injEq,ACode.exit.injEq]at h;rw[h];done)|(split at h<;>simp at h)
theorem inv_ret {c₀:Code} (h:zam P inv n c₀=some .ret):c₀=.ret:=by
 unfold zam at h
 split at h<;>first|rfl|(cases h;done)|(obtain ⟨_,e⟩:=zaR h;cases e;done)|(obtain ⟨_,_,e⟩:=Option.map_eq_some_iff.1 h;cases e;done)|(split at h<;>simp at h)
theorem inv_reg {c₀:Code} {l:List GOp} (h:zam P inv n c₀=some (.reg l)):∃ id ops,c₀=.region id ops false∧zbn P inv n ops ops.toList=some l:=by
 unfold zam at h
 split at h<;>first|(cases h;done)|(obtain ⟨_,e⟩:=zaR h;cases e;done)|(obtain ⟨l',h1,e⟩:=Option.map_eq_some_iff.1 h;cases e;exact ⟨_,_,rfl,h1⟩)|(obtain ⟨_,_,e⟩:=Option.map_eq_some_iff.1 h;cases e;done)|(split at h<;>simp at h)
theorem inv_seq {c₀:Code} {x y:ACode} (h:zam P inv n c₀=some (.seq x y)):∃ x₀ y₀,c₀=.seq x₀ y₀∧zam P inv n x₀=some x∧zam P inv n y₀=some y:=by
 unfold zam at h
 split at h<;>first|(cases h;done)|(obtain ⟨_,e⟩:=zaR h;cases e;done)|(obtain ⟨_,_,e⟩:=Option.map_eq_some_iff.1 h;cases e;done)|skip
 all_goals (split at h<;>first|(cases h;done)|skip)
 all_goals (simp only[Option.some.injEq,ACode.seq.injEq]at h)
 rename_i h1 h2
 exact ⟨_,_,rfl,by rw[h1,h.1],by rw[h2,h.2]⟩
theorem inv_cond {c₀:Code} {c:Opd} {x y:ACode} (h:zam P inv n c₀=some (.cond c x y)):∃ d x₀ y₀,c₀=.cond d x₀ y₀∧zcS P inv 0 d=some c∧zam P inv n x₀=some x∧zam P inv n y₀=some y:=by
 unfold zam at h
 split at h<;>first|(cases h;done)|(obtain ⟨_,e⟩:=zaR h;cases e;done)|(obtain ⟨_,_,e⟩:=Option.map_eq_some_iff.1 h;cases e;done)|skip
 all_goals (split at h<;>first|(cases h;done)|skip)
 all_goals (simp only[Option.some.injEq,ACode.cond.injEq]at h)
 rename_i h1 h2 h3
 exact ⟨_,_,_,rfl,by rw[h1,h.1],by rw[h2,h.2.1],by rw[h3,h.2.2]⟩
theorem zpK {c₀:Code} {id:Nat} {x:ACode} (h:zam P inv n c₀=some (.block id x)):∃ x₀,c₀=.block id x₀∧zam P inv n x₀=some x:=by
 unfold zam at h
 split at h<;>first|(cases h;done)|(obtain ⟨_,e⟩:=zaR h;cases e;done)|(obtain ⟨l',h1,e⟩:=Option.map_eq_some_iff.1 h;cases e;exact ⟨_,rfl,h1⟩)|(obtain ⟨_,_,e⟩:=Option.map_eq_some_iff.1 h;cases e;done)|(split at h<;>simp at h)
theorem inv_loop {c₀:Code} {x:ACode} (h:zam P inv n c₀=some (.loop x)):∃ x₀,c₀=.loop x₀∧zam P inv n x₀=some x:=by
 unfold zam at h
 split at h<;>first|(cases h;done)|(obtain ⟨_,e⟩:=zaR h;cases e;done)|(obtain ⟨l',h1,e⟩:=Option.map_eq_some_iff.1 h;cases e;exact ⟨_,rfl,h1⟩)|(obtain ⟨_,_,e⟩:=Option.map_eq_some_iff.1 h;cases e;done)|(split at h<;>simp at h)
theorem AWp.skip {Q:Exit→AF→AS→Prop} (h:Q .normal φ σ):AWp P inv w0 M N n .skip Q φ σ:=by
 intro c₀ hc β a w hs
 rw[inv_skip hc]
 exact wp_skip ⟨φ,σ,β,h,hs,.refl _ _⟩
theorem AWp.exit {id:Nat} {Q:Exit→AF→AS→Prop} (h:Q (.exit id) φ σ):AWp P inv w0 M N n (.exit id) Q φ σ:=by
 intro c₀ hc β a w hs
 rw[inv_exit hc]
 exact wp_exit ⟨φ,σ,β,h,hs,.refl _ _⟩
theorem AWp.ret {Q:Exit→AF→AS→Prop} (h:Q .ret φ σ):AWp P inv w0 M N n .ret Q φ σ:=by
 intro c₀ hc β a w hs
 rw[inv_ret hc]
 exact wp_ret ⟨φ,σ,β,h,hs,.refl _ _⟩
theorem AWp.reg (hE:zbZ P inv) (hM:∀ b,M b→b<w0.heap.size) {l:List GOp} {Q:Exit→AF→AS→Prop} (h:zbE P inv w0 M N l (Q .normal) φ σ):AWp P inv w0 M N n (.reg l) Q φ σ:=by
 intro c₀ hc β a w hs
 obtain ⟨id,ops,rfl,hl⟩:=inv_reg hc
 exact wp_region_list (zhP hE hM hl h hs fun φ' σ' β' a' w' hk hst hext=>⟨φ',σ',β',hk,hst,hext⟩)
def zor (K:AF→AS→Prop) (Q:Exit→AF→AS→Prop):Exit→AF→AS→Prop
 |.normal,φ,σ=>K φ σ
 |e,φ,σ=>Q e φ σ
theorem AWp.seq {x y:ACode} {Q:Exit→AF→AS→Prop} (h:∀ K:AF→AS→Prop,(∀ φ σ,AWp P inv w0 M N n y Q φ σ→K φ σ)→AWp P inv w0 M N n x (zor K Q) φ σ):AWp P inv w0 M N n (.seq x y) Q φ σ:=by
 intro c₀ hc β a w hs
 obtain ⟨x₀,y₀,rfl,hx,hy⟩:=inv_seq hc
 refine wp_seq ?_
 refine Code.wp_mono ?_ (h _ (fun _ _ h=>h) x₀ hx β a w hs)
 rintro e a' w' ⟨φ',σ',β',q,hst,hext⟩
 cases e with
 |normal=>exact Code.wp_mono (fun _ _ _ ⟨φ2,σ2,β2,q2,hst2,hext2⟩=>⟨φ2,σ2,β2,q2,hst2,hext.trans hext2⟩) (q y₀ hy β' a' w' hst)
 |exit id=>exact ⟨φ',σ',β',q,hst,hext⟩
 |goto l=>exact ⟨φ',σ',β',q,hst,hext⟩
 |ret=>exact ⟨φ',σ',β',q,hst,hext⟩
 |panic ch=>exact ⟨φ',σ',β',q,hst,hext⟩
 |outgrown=>exact ⟨φ',σ',β',q,hst,hext⟩
theorem AWp.cond {c:Opd} {x y:ACode} {Q:Exit→AF→AS→Prop} {t:Bool} (ht:ev φ c=.b t) (h1:t=true→AWp P inv w0 M N n x Q φ σ) (h2:t=false→AWp P inv w0 M N n y Q φ σ):AWp P inv w0 M N n (.cond c x y) Q φ σ:=by
 intro c₀ hc β a w hs
 obtain ⟨d,x₀,y₀,rfl,hd,hx,hy⟩:=inv_cond hc
 have hr:=zao hs.toKnows hd
 rw[ht]at hr
 simp only[rel]at hr
 exact wp_cond_split hr (fun e=>h1 e x₀ hx β a w hs) (fun e=>h2 e y₀ hy β a w hs)
def zmy (id:Nat) (Q:Exit→AF→AS→Prop):Exit→AF→AS→Prop
 |.exit id',φ,σ=>if id'=id then Q .normal φ σ else Q (.exit id') φ σ
 |e,φ,σ=>Q e φ σ
theorem AWp.block {id:Nat} {x:ACode} {Q:Exit→AF→AS→Prop} (h:AWp P inv w0 M N n x (zmy id Q) φ σ):AWp P inv w0 M N n (.block id x) Q φ σ:=by
 intro c₀ hc β a w hs
 obtain ⟨x₀,rfl,hx⟩:=zpK hc
 refine wp_block ?_
 refine Code.wp_mono ?_ (h x₀ hx β a w hs)
 rintro e a' w' ⟨φ',σ',β',q,hst,hext⟩
 cases e with
 |exit id' =>
  simp only[zmy]at q
  simp only[Exit.inBlock]
  split
  ·rename_i e;rw[if_pos e]at q;exact ⟨φ',σ',β',q,hst,hext⟩
  ·rename_i e;rw[if_neg e]at q;exact ⟨φ',σ',β',q,hst,hext⟩
 |normal=>exact ⟨φ',σ',β',q,hst,hext⟩
 |goto l=>exact ⟨φ',σ',β',q,hst,hext⟩
 |ret=>exact ⟨φ',σ',β',q,hst,hext⟩
 |panic ch=>exact ⟨φ',σ',β',q,hst,hext⟩
 |outgrown=>exact ⟨φ',σ',β',q,hst,hext⟩
def zgT:List (Nat×AV)→AF→Prop
 |[],_=>True
 |(i,x)::r,φ=>zbk φ i=x∧zgT r φ
def zfe:List (Nat×AO)→AS→Prop
 |[],_=>True
 |(l,o)::r,σ=>zaB σ l=some o∧zfe r σ
theorem zjW:∀ {φ' φ:AF},zgT φ' φ→∀ i,zbk φ' i=.top∨zbk φ' i=zbk φ i
 |[],_,_,i=>.inl rfl
 |(j,x)::r,φ,h,i=>by
  simp only[zgT]at h
  simp only[zbk]
  split
  ·rename_i e;subst e;exact .inr h.1.symm
  ·exact zjW h.2 i
theorem zer:∀ {σ' σ:AS},zfe σ' σ→∀ l o,zaB σ' l=some o→zaB σ l=some o
 |[],_,_,l,o,h=>by simp[zaB]at h
 |(j,x)::r,σ,hs,l,o,h=>by
  simp only[zfe]at hs
  simp only[zaB]at h
  split at h
  ·rename_i e;subst e;simp only[Option.some.injEq]at h;subst h;exact hs.1
  ·exact zer hs.2 l o h
theorem St.sub {φ':AF} {σ':AS} (hs:St inv w0 M n φ σ β a w) (h1:zgT φ' φ) (h2:zfe σ' σ) (N1:Nat):St inv w0 M n φ' σ' β a w∧Ext N1 (ctx inv M σ β w) (ctx inv M σ' β w):=by
 have hd:=fun N=>hs.mem.drop (zer h2) N
 refine ⟨⟨⟨fun i=>?_,(hd 0).1⟩,hs.size,hs.defers⟩,(hd N1).2⟩
 rcases zjW h1 i with e|e
 ·rw[e];simp only[rel]
 ·rw[e];exact (hd (zaL φ)).2.rel (zaG _ (zbI φ i)) (hs.slots i)
theorem AWp.sub {φ':AF} {σ':AS} {c:ACode} {Q:Exit→AF→AS→Prop} (h:AWp P inv w0 M N n c Q φ' σ') (h1:zgT φ' φ) (h2:zfe σ' σ):AWp P inv w0 M N n c Q φ σ:=by
 intro c₀ hc β a w hs
 obtain ⟨hs',hx⟩:=hs.sub h1 h2 N
 exact Code.wp_mono (fun _ _ _ ⟨φ2,σ2,β2,q2,hst2,hext2⟩=>⟨φ2,σ2,β2,q2,hst2,hx.trans hext2⟩) (h c₀ hc β a w hs')
theorem AWp.loop {x:ACode} {Q:Exit→AF→AS→Prop} (I:Nat→AF→AS→Prop) (m:Nat) (h0:∃ φ' σ',I m φ' σ'∧zgT φ' φ∧zfe σ' σ)
  (hr:∀ m φ σ,I m φ σ→AWp P inv w0 M N n x (zor (fun φ' σ'=>∃ m' φ2 σ2,m'<m∧I m' φ2 σ2∧zgT φ2 φ'∧zfe σ2 σ') Q) φ σ):AWp P inv w0 M N n (.loop x) Q φ σ:=by
 intro c₀ hc β a w hs
 obtain ⟨x₀,rfl,hx⟩:=inv_loop hc
 obtain ⟨φ0,σ0,hI,hf,hss⟩:=h0
 obtain ⟨hs0,he0⟩:=hs.sub hf hss N
 refine Code.wp_mono (fun _ _ _ h=>h) (wp_loop_ghost (fun m' a' w'=>∃ φ' σ' β',I m' φ' σ'∧St inv w0 M n φ' σ' β' a' w'∧Ext N (ctx inv M σ β w) (ctx inv M σ' β' w')) m ⟨φ0,σ0,β,hI,hs0,he0⟩ ?_)
 rintro m1 a1 w1 ⟨φ1,σ1,β1,hI1,hs1,he1⟩
 refine Code.wp_mono ?_ (hr m1 φ1 σ1 hI1 x₀ hx β1 a1 w1 hs1)
 rintro e a2 w2 ⟨φ2,σ2,β2,q,hst,hext⟩
 cases e with
 |normal =>
  obtain ⟨m',φ3,σ3,hlt,hI3,hf3,hs3⟩:=q
  obtain ⟨hst3,hext3⟩:=hst.sub hf3 hs3 N
  exact ⟨m',hlt,φ3,σ3,β2,hI3,hst3,he1.trans (hext.trans hext3)⟩
 |exit id=>exact ⟨φ2,σ2,β2,q,hst,he1.trans hext⟩
 |goto l=>exact ⟨φ2,σ2,β2,q,hst,he1.trans hext⟩
 |ret=>exact ⟨φ2,σ2,β2,q,hst,he1.trans hext⟩
 |panic ch=>exact ⟨φ2,σ2,β2,q,hst,he1.trans hext⟩
 |outgrown=>exact ⟨φ2,σ2,β2,q,hst,he1.trans hext⟩
end
end Go.Eng
namespace Go.Eng
open Go.RowKit
mutual
def zaU (f:Nat→Option (List AV)):AV→AV
 |.agg cs=>.agg (zca f cs)
 |.tup cs=>.tup (zca f cs)
 |.fn j cs=>.fn j (zca f cs)
 |.s0 sz=>.sl sz []
 |.ptr l ver off=>match f l with
  |some cs=>if cs.length=ver∧0<ver then .ip ver [cs] 0 off else .top
  |none=>.top
 |.sm l ver off n sz=>match f l with
  |some cs=>if cs.length=ver∧off+n*sz≤ver then .sl sz (zbS sz n (cs.drop off)) else .top
  |none=>.top
 |.mp _=>.top
 |.i k n=>.i k n
 |.b t=>.b t
 |.v x=>.v x
 |.u=>.u
 |.sl sz es=>.sl sz es
 |.ip sz es i k=>.ip sz es i k
 |.top=>.top
def zca (f:Nat→Option (List AV)):List AV→List AV
 |[]=>[]
 |x::xs=>zaU f x::zca f xs
end
def zgO:Nat→AS→Nat→Option (List AV)
 |0,_,_=>none
 |k+1,σ,l=>match zaB σ l with
  |some (.cells cs _)=>some (zca (zgO k σ) cs)
  |_=>none
def zes (k:Nat) (σ:AS) (x:AV):AV:=zaU (zgO k σ) x
def zbT (k:Nat) (σ:AS) (xs:List AV):List AV:=zca (zgO k σ) xs
mutual
def AV.scalar:AV→Bool
 |.agg cs=>zb9 cs
 |.tup cs=>zb9 cs
 |.i _ _=>true|.b _=>true|.v _=>true|.u=>true|.s0 _=>true
 |.sl _ es=>es.isEmpty
 |.ip _ _ _ _=>false|.ptr _ _ _=>false|.sm _ _ _ _ _=>false|.mp _=>false|.fn _ _=>false|.top=>true
def zb9:List AV→Bool
 |[]=>true
 |x::xs=>x.scalar&&zb9 xs
end
mutual
theorem zf4 {c c':Ctx}:∀ (x:AV) (y:Value),x.scalar=true→rel c x y→rel c' x y
 |.agg cs,y,s,r=>by
  simp only[rel]at r ⊢
  obtain ⟨xs,e,r⟩:=r
  exact ⟨xs,e,zgt cs _ (by simpa only[AV.scalar] using s) r⟩
 |.tup cs,y,s,r=>by
  simp only[rel]at r ⊢
  obtain ⟨xs,e,r⟩:=r
  exact ⟨xs,e,zho cs _ (by simpa only[AV.scalar] using s) r⟩
 |.i _ _,_,_,r=>by simpa only[rel] using r
 |.b _,_,_,r=>by simpa only[rel] using r
 |.v _,_,_,r=>by simpa only[rel] using r
 |.u,_,_,r=>by simpa only[rel] using r
 |.s0 _,_,_,r=>by simpa only[rel] using r
 |.sl sz es,y,s,r=>by
  simp only[AV.scalar,List.isEmpty_iff]at s
  subst s
  simp only[rel]at r ⊢
  obtain ⟨ad,cap,e,h,_⟩:=r
  exact ⟨ad,cap,e,h,fun h=>absurd rfl h⟩
 |.ip _ _ _ _,_,s,_=>by simp[AV.scalar]at s
 |.ptr _ _ _,_,s,_=>by simp[AV.scalar]at s
 |.sm _ _ _ _ _,_,s,_=>by simp[AV.scalar]at s
 |.mp _,_,s,_=>by simp[AV.scalar]at s
 |.fn _ _,_,s,_=>by simp[AV.scalar]at s
 |.top,_,_,_=>by simp only[rel]
theorem zho {c c':Ctx}:∀ (xs:List AV) (ys:List Value),zb9 xs=true→zbQ c xs ys→zbQ c' xs ys
 |[],_,_,r=>by simpa only[zbQ] using r
 |x::xs,ys,s,r=>by
  simp only[zb9,Bool.and_eq_true]at s
  simp only[zbQ]at r ⊢
  obtain ⟨y,ys',e,r1,r2⟩:=r
  exact ⟨y,ys',e,zf4 x y s.1 r1,zho xs ys' s.2 r2⟩
theorem zgt {c c':Ctx}:∀ (xs:List AV) (ys:List Value),zb9 xs=true→relCs c xs ys→relCs c' xs ys
 |[],_,_,r=>by simpa only[relCs] using r
 |x::xs,ys,s,r=>by
  simp only[zb9,Bool.and_eq_true]at s
  simp only[relCs]at r ⊢
  obtain ⟨y,ys',e,ho,r1,r2⟩:=r
  exact ⟨y,ys',e,ho,zf4 x y s.1 r1,zgt xs ys' s.2 r2⟩
end
section
variable {P:Program} {inv:Nat→Option Nat} {w0:World} {M:Nat→Prop} {n N:Nat} {φ:AF} {σ:AS} {β:Nat→Nat} {a:Act} {w:World}
def zok (c':Ctx) (σ:AS) (β:Nat→Nat) (f:Nat→Option (List AV)):Prop :=
 ∀ l cs',f l=some cs'→∃ cs r,zaB σ l=some (.cells cs r)∧cs'.length=cs.length∧zaf cs'=true∧(r=true→∃ ys:List Value,relCs c' cs' ys∧∀ j u,ys[j]?=some u→c'.w.cell? ⟨β l,j,none⟩=some u)
theorem zc8 (f:Nat→Option (List AV)):∀ (xs:List AV),(zca f xs).length=xs.length
 |[]=>by simp[zca]
 |x::xs=>by simp[zca,zc8 f xs]
mutual
theorem zf2 {c':Ctx} {f:Nat→Option (List AV)} (hf:zok c' σ β f):∀ (x:AV),(zaU f x).bare=true
 |.agg cs=>by simp only[zaU,AV.bare];exact zdo hf cs
 |.tup cs=>by simp only[zaU,AV.bare];exact zdo hf cs
 |.fn j cs=>by simp only[zaU,AV.bare];exact zdo hf cs
 |.s0 sz=>by simp only[zaU,AV.bare]
 |.ptr l ver off=>by
  simp only[zaU]
  split
  ·split<;>simp only[AV.bare]
  ·simp only[AV.bare]
 |.sm l ver off n sz=>by
  simp only[zaU]
  split
  ·split<;>simp only[AV.bare]
  ·simp only[AV.bare]
 |.mp _=>by simp only[zaU,AV.bare]
 |.i _ _=>by simp only[zaU,AV.bare]
 |.b _=>by simp only[zaU,AV.bare]
 |.v _=>by simp only[zaU,AV.bare]
 |.u=>by simp only[zaU,AV.bare]
 |.sl _ _=>by simp only[zaU,AV.bare]
 |.ip _ _ _ _=>by simp only[zaU,AV.bare]
 |.top=>by simp only[zaU,AV.bare]
theorem zdo {c':Ctx} {f:Nat→Option (List AV)} (hf:zok c' σ β f):∀ (xs:List AV),zaf (zca f xs)=true
 |[]=>by simp only[zca,zaf]
 |x::xs=>by simp only[zca,zaf,zf2 hf x,zdo hf xs,Bool.and_self]
end
mutual
theorem zff (hm:Mem inv w0 M σ β w) (hM:∀ b,M b→b<w0.heap.size) {A':Nat→Prop} (hA:∀ b,A' b→M b) {f:Nat→Option (List AV)} (hf:zok ⟨inv,w,A',fun _=>none⟩ σ β f):∀ (x:AV) (y:Value),rel (ctx inv M σ β w) x y→rel ⟨inv,w,A',fun _=>none⟩ (zaU f x) y
 |.agg cs,y,r=>by
  simp only[zaU,rel]at r ⊢
  obtain ⟨xs,e,r⟩:=r
  exact ⟨xs,e,zf3 hm hM hA hf cs _ r⟩
 |.tup cs,y,r=>by
  simp only[zaU,rel]at r ⊢
  obtain ⟨xs,e,r⟩:=r
  exact ⟨xs,e,zd8 hm hM hA hf cs _ r⟩
 |.fn j cs,y,r=>by
  simp only[zaU,rel]at r ⊢
  obtain ⟨g,xs,e,hi,r⟩:=r
  exact ⟨g,xs,e,hi,zd8 hm hM hA hf cs _ r⟩
 |.s0 sz,y,r=>by
  simp only[zaU,rel]at r ⊢
  obtain ⟨ad,e⟩:=r
  exact ⟨ad,0,e,Nat.le_refl _,fun h=>absurd rfl h⟩
 |.ptr l ver off,y,r=>by
  simp only[zaU]
  split
  ·rename_i cs' e
   split
   ·rename_i hl
    obtain ⟨cs,rl,hg,h1,h2,h3⟩:=hf l cs' e
    have hlive:zbY σ l ver:=by unfold zbY;rw[hg];show cs.length=ver;omega
    obtain ⟨p,hp,_,rfl⟩:=zda hlive r
    have hrl:rl=true:=by
     cases rl with
     |true=>rfl
     |false=>have:=hm.ghost l cs hg;subst this;simp only[List.length_nil]at h1;omega
    subst hrl
    obtain ⟨ys,h4,h5⟩:=h3 rfl
    have hpb:p.block=β l:=by unfold zal at hp;rw[hg]at hp;cases hp;rfl
    have hown:=hm.own l _ hg rfl
    simp only[rel]
    refine ⟨⟨β l,0,none⟩,by simp[zck,hpb],fun ha=>by have:=hM _ (hA _ ha);simp only at this;omega,hown.2, ?_⟩
    simp only[zaA,and_true]
    refine ⟨hl.1,zfs h2 h4 fun j u hu=>?_⟩
    rw[zck]
    have:=h5 j u hu
    simpa using this
   ·simp only[rel]
  ·simp only[rel]
 |.sm l ver off m sz,y,r=>by
  simp only[zaU]
  split
  ·rename_i cs' e
   split
   ·rename_i hl
    obtain ⟨cs,rl,hg,h1,h2,h3⟩:=hf l cs' e
    have hlive:zbY σ l ver:=by unfold zbY;rw[hg];show cs.length=ver;omega
    obtain ⟨p,ad,cap,hp,hv,hb,rfl,hcap,hr⟩:=zdE hlive r
    simp only[rel]
    refine ⟨ad,cap,by rw[zci],by rw[zci];exact hcap,fun hne=>?_⟩
    have hm0:0<m:=by
     rcases Nat.eq_zero_or_pos m with e0|e0
     ·subst e0;exact absurd rfl hne
     ·exact e0
    have hrl:rl=true:=by
     cases rl with
     |true=>rfl
     |false=>unfold zal at hp;rw[hg]at hp;cases hp;simp at hr;omega
    subst hrl
    have hpe:p=⟨β l,cs.length,zaT w (β l),true⟩:=by unfold zal at hp;rw[hg]at hp;cases hp;rfl
    subst hpe
    simp only[if_true]at hr
    obtain ⟨ys,h4,h5⟩:=h3 rfl
    have hown:=hm.own l _ hg rfl
    refine ⟨_,hr.1.resolve_left (by omega),fun ha=>by have:=hM _ (hA _ ha);simp only at this;omega,hown.2, ?_⟩
    refine zdg m (by rw[List.length_drop];omega) (zeM _ _ h2) (zcr off h4) fun j u hu=>?_
    rw[zck,Nat.zero_add]
    rw[List.getElem?_drop]at hu
    exact h5 _ u hu
   ·simp only[rel]
  ·simp only[rel]
 |.mp _,_,_=>by simp only[zaU,rel]
 |.i _ _,_,r=>by simpa only[zaU,rel] using r
 |.b _,_,r=>by simpa only[zaU,rel] using r
 |.v _,_,r=>by simpa only[zaU,rel] using r
 |.u,_,r=>by simpa only[zaU,rel] using r
 |.sl sz es,y,r=>by
  have hle:(ctx inv M σ β w).Le ⟨inv,w,A',fun _=>none⟩:=⟨rfl,Nat.le_refl _,fun _ _ _=>rfl,fun b _ h=>.inl (hA b h)⟩
  simp only[zaU]
  exact zdJ (N:=0) hle (.sl sz es) y (.inr rfl) r
 |.ip sz es i k,y,r=>by
  have hle:(ctx inv M σ β w).Le ⟨inv,w,A',fun _=>none⟩:=⟨rfl,Nat.le_refl _,fun _ _ _=>rfl,fun b _ h=>.inl (hA b h)⟩
  simp only[zaU]
  exact zdJ (N:=0) hle (.ip sz es i k) y (.inr rfl) r
 |.top,_,_=>by simp only[zaU,rel]
theorem zd8 (hm:Mem inv w0 M σ β w) (hM:∀ b,M b→b<w0.heap.size) {A':Nat→Prop} (hA:∀ b,A' b→M b) {f:Nat→Option (List AV)} (hf:zok ⟨inv,w,A',fun _=>none⟩ σ β f):∀ (xs:List AV) (ys:List Value),zbQ (ctx inv M σ β w) xs ys→zbQ ⟨inv,w,A',fun _=>none⟩ (zca f xs) ys
 |[],_,r=>by simpa only[zca,zbQ] using r
 |x::xs,ys,r=>by
  simp only[zca,zbQ]at r ⊢
  obtain ⟨y,ys',e,r1,r2⟩:=r
  exact ⟨y,ys',e,zff hm hM hA hf x y r1,zd8 hm hM hA hf xs ys' r2⟩
theorem zf3 (hm:Mem inv w0 M σ β w) (hM:∀ b,M b→b<w0.heap.size) {A':Nat→Prop} (hA:∀ b,A' b→M b) {f:Nat→Option (List AV)} (hf:zok ⟨inv,w,A',fun _=>none⟩ σ β f):∀ (xs:List AV) (ys:List Value),relCs (ctx inv M σ β w) xs ys→relCs ⟨inv,w,A',fun _=>none⟩ (zca f xs) ys
 |[],_,r=>by simpa only[zca,relCs] using r
 |x::xs,ys,r=>by
  simp only[zca,relCs]at r ⊢
  obtain ⟨y,ys',e,ho,r1,r2⟩:=r
  exact ⟨y,ys',e,ho,zff hm hM hA hf x y r1,zf3 hm hM hA hf xs ys' r2⟩
end
theorem zfg (hm:Mem inv w0 M σ β w) (hM:∀ b,M b→b<w0.heap.size) {A':Nat→Prop} (hA:∀ b,A' b→M b):∀ (k:Nat),zok ⟨inv,w,A',fun _=>none⟩ σ β (zgO k σ)
 |0=>fun l cs' h=>by simp[zgO]at h
 |k+1=>fun l cs' h=>by
  have ih:=zfg hm hM hA k
  simp only[zgO]at h
  split at h
  ·rename_i cs r e
   simp only[Option.some.injEq]at h
   subst h
   refine ⟨cs,r,e,zc8 _ _,zdo ih cs,fun hr=>?_⟩
   subst hr
   obtain ⟨ys,_,h2,h3⟩:=hm.cell e
   exact ⟨ys,zf3 hm hM hA ih cs ys h2,h3⟩
  ·cases h
def PC (P:Program) (inv:Nat→Option Nat) (j:Nat) (args:List AV) (R:AV→Prop):Prop :=
 ∀ g,inv g=some j→∀ (M:Nat→Prop) (w:World) (vs:Array Value),(∀ b,M b→b<w.heap.size)→zbQ ⟨inv,w,M,fun _=>none⟩ args vs.toList →
  Calls P g vs w fun e w'=>∃ v r,e=.returned v∧R r∧Below w.heap.size w w'∧r.bare=true∧rel ⟨inv,w',M,fun _=>none⟩ r v
theorem PC.mono {j:Nat} {args:List AV} {R R':AV→Prop} (h:PC P inv j args R) (hr:∀ r,R r→R' r):PC P inv j args R' :=
 fun g hg M w vs hM ha=>(h g hg M w vs hM ha).mono fun _ _ ⟨v,r,e,h1,h2⟩=>⟨v,r,e,hr r h1,h2⟩
theorem znp (hm:Mem inv w0 M σ β w) (hM:∀ b,M b→b<w0.heap.size):∀ b,avoid M σ β b→b<w.heap.size:=by
 rintro b (h|⟨l,o,e,hr,rfl⟩)
 ·exact Nat.lt_of_lt_of_le (hM b h) hm.below.size
 ·exact (hm.own l o e hr).2
theorem PC.callK (hM:∀ b,M b→b<w0.heap.size) {j:Nat} {args:List AV} {R:AV→Prop} (h:PC P inv j args R) {K:AV→AS→Prop} (hk:∀ r,R r→K r σ):CallK P inv w0 M N φ σ j args K:=by
 refine ⟨mx N (zaL φ),zaY _ _,zav _ _,fun g hg β w vs hm ha=>?_⟩
 have hle:(ctx inv M σ β w).Le ⟨inv,w,avoid M σ β,fun _=>none⟩:=⟨rfl,Nat.le_refl _,fun _ _ _=>rfl,fun _ _ h=>h⟩
 refine (h g hg (avoid M σ β) w vs (znp hm hM) (zce (N:=0) hle _ _ (.inr rfl) ha)).mono ?_
 rintro e w' ⟨v,r,rfl,hr,hb,hbare,hrel⟩
 have hc:=hm.call hb (mx N (zaL φ))
 exact ⟨v,r,σ,β,rfl,hk r hr,hc.1,hc.2,zg1 (S:=zal β w' σ) r v hbare hrel⟩
theorem PC.snapK (hM:∀ b,M b→b<w0.heap.size) (k:Nat) {j:Nat} {args:List AV} {R:AV→Prop} (h:PC P inv j (zbT k σ args) R) {K:AV→AS→Prop} (hk:∀ r,R r→r.scalar=true∧K r σ):CallK P inv w0 M N φ σ j args K:=by
 refine ⟨mx N (zaL φ),zaY _ _,zav _ _,fun g hg β w vs hm ha=>?_⟩
 have hf:=zfg hm hM (A':=fun _=>False) (fun _ h=>h.elim) k
 refine (h g hg (fun _=>False) w vs (fun _ h=>h.elim) (zd8 hm hM (fun _ h=>h.elim) hf _ _ ha)).mono ?_
 rintro e w' ⟨v,r,rfl,hr,hb,hbare,hrel⟩
 have hc:=hm.call hb (mx N (zaL φ))
 exact ⟨v,r,σ,β,rfl,(hk r hr).2,hc.1,hc.2,zf4 r v (hk r hr).1 hrel⟩
theorem zdI (hs:Knows inv w0 M φ σ β a w):∀ {l:List ResultVar} {rs:List ARes} {xs:List AV},cres P l=some rs→zij φ σ rs=some xs →
  ∃ ys:List Value,zbQ (ctx inv M σ β w) xs ys∧(l.mapM fun
   |.tmp t=>pure (a.tmps.getD t undef)
   |.cell ad t=>do loadVar t (←asAddr (a.tmps.getD ad undef)):Sem (List Value)).run P w=.ok ys w
 |[],rs,xs,h,hx=>by
  simp only[cres,Option.some.injEq]at h
  subst h
  simp only[zij,Option.some.injEq]at hx
  subst hx
  exact ⟨[],zmV,rfl⟩
 |.tmp t::l,rs,xs,h,hx=>by
  simp only[cres]at h
  obtain ⟨rs',h1,rfl⟩:=Option.map_eq_some_iff.1 h
  simp only[zij,ares]at hx
  split at hx
  ·rename_i x xs' e1 e2
   simp only[Option.some.injEq]at hx e1
   subst hx e1
   obtain ⟨ys,h2,h3⟩:=zdI hs h1 e2
   exact ⟨_,zft (hs.slots t) h2,by simp only[List.mapM_cons,Sem.run_bind,Sem.run_pure,Result.andThen_ok,h3]⟩
  ·cases hx
 |.cell ad t::l,rs,xs,h,hx=>by
  simp only[cres]at h
  split at h
  ·rename_i lo rs' h0 h1
   simp only[Option.some.injEq]at h
   subst h
   simp only[zij,ares]at hx
   split at hx
   ·rename_i x xs' e1 e2
    simp only[Option.some.injEq]at hx
    subst hx
    obtain ⟨ys,h2,h3⟩:=zdI hs h1 e2
    obtain ⟨u,k1,k2⟩:=zim hs h0 (hs.slots ad) e1
    have hp:∃ pa,a.tmps.getD ad undef=.pointer (some pa):=by
     revert k2
     cases a.tmps.getD ad undef with
     |pointer pa=>cases pa<;>simp[Instr.loadAt,Instr.sureAddr]
     |_=>simp[Instr.loadAt,Instr.sureAddr]
    obtain ⟨pa,hpa⟩:=hp
    have k3:(loadVar t pa).run P w=.ok u w:=by
     rw[hpa]at k2
     simpa [Instr.loadAt,Instr.sureAddr] using k2
    refine ⟨u::ys,zft k1 h2, ?_⟩
    have ha:(asAddr (a.tmps.getD ad undef)).run P w=.ok pa w:=by rw[hpa];rfl
    simp only[List.mapM_cons,Sem.run_bind,ha,Sem.run_pure,Result.andThen_ok,k3,h3]
   ·cases hx
  ·cases h
theorem zh2 (hs:Knows inv w0 M φ σ β a w) {fn:Func} {rs:List ARes} {x:AV} (h:cres P fn.results.toList=some rs) (hx:zdW φ σ rs=some x):∃ y,rel (ctx inv M σ β w) x y∧(results fn a.tmps).run P w=.ok y w:=by
 have key:∀ {xs:List AV},zij φ σ rs=some xs→∃ ys:List Value,zbQ (ctx inv M σ β w) xs ys∧(results fn a.tmps).run P w=.ok (if h:ys.toArray.size=1 then ys.toArray[0] else .tuple ys.toArray) w:=by
  intro xs hxs
  obtain ⟨ys,h1,h2⟩:=zdI hs h hxs
  refine ⟨ys,h1, ?_⟩
  unfold results
  rw[Sem.run_bind,Array.mapM_eq_mapM_toList,Sem.run_map]
  erw[h2]
  rfl
 unfold zdW at hx
 split at hx
 ·rename_i e
  simp only[Option.some.injEq]at hx
  subst hx
  obtain ⟨ys,h1,h2⟩:=key e
  simp only[zbQ]at h1
  obtain ⟨y,ys',rfl,h3,rfl⟩:=h1
  exact ⟨y,h3,h2⟩
 ·rename_i hne e
  simp only[Option.some.injEq]at hx
  subst hx
  obtain ⟨ys,h1,h2⟩:=key e
  have hlen:ys.length≠1:=by
   intro h1l
   obtain ⟨x,hx⟩:=List.length_eq_one_iff.1 ((ze2 h1).trans h1l)
   exact hne x (by rw[hx])
  refine ⟨.tuple ys.toArray,by simp only[rel];exact ⟨_,rfl,by simpa using h1⟩, ?_⟩
  rw[h2,dif_neg (by simpa using hlen)]
 ·cases hx
theorem znq:∀ (args:List AV) (k i:Nat),zbk (zmu k args) i=if k≤i then (args[i-k]?).getD .top else .top
 |[],k,i=>by simp[zmu,zbk]
 |x::xs,k,i=>by
  simp only[zmu,zbk,znq xs (k+1) i]
  by_cases h:i=k
  ·subst h;simp
  ·rw[if_neg h]
   by_cases h2:k+1≤i
   ·rw[if_pos h2,if_pos (by omega),show i-k=(i-(k+1))+1 by omega];simp
   ·rw[if_neg h2,if_neg (by omega)]
def zqK (res:List ARes) (R:AV→AS→Prop):Exit→AF→AS→Prop
 |.normal,φ,σ=>∃ r,zdW φ σ res=some r∧R r σ
 |.ret,φ,σ=>∃ r,zdW φ σ res=some r∧R r σ
 |_,_,_=>False
theorem AC.body {j:Nat} {F:AFn} (hF:Has P inv j F) {args:List AV} {R:AV→AS→Prop} (hl:args.length≤F.ntmps) (h:AWp P inv w0 M N F.ntmps F.body (zqK F.res R) (zmu 0 args) σ):AC P inv w0 M N j args σ R:=by
 intro g hg β w vs hm ha
 obtain ⟨fn,hf,hc⟩:=hF g hg
 unfold zlf at hc
 split at hc
 ·rename_i c rs hb hrs
  obtain ⟨ac,h1,h2⟩:=Option.map_eq_some_iff.1 hc
  subst h2
  have hlen:=ze2 ha
  have hvs:vs.size≤fn.ntmps:=by have:args.length≤fn.ntmps:=hl;rw[hlen]at this;simpa using this
  refine calls_of_wp hf hb ?_
  have hst:St inv w0 M fn.ntmps (zmu 0 args) σ β { tmps:=vs++Array.replicate (fn.ntmps-vs.size) undef,defers:=[] } w:=by
   refine ⟨⟨fun i=>?_,hm⟩,by simp;omega,rfl⟩
   rw[znq]
   simp only[Nat.zero_le,if_true,Nat.sub_zero]
   cases e:args[i]? with
   |none=>simp only[Option.getD_none,rel]
   |some x =>
    obtain ⟨y,k1,k2⟩:=zjx ha e
    have hi:i<vs.size:=by
     have:=(List.getElem?_eq_some_iff.1 k1).1
     simpa using this
    have hy:vs[i]?=some y:=by simpa using k1
    have:(vs++Array.replicate (fn.ntmps-vs.size) undef).getD i undef=y:=by
     rw[Array.getD_eq_getD_getElem?,Array.getElem?_append_left hi,hy];rfl
    rw[this]
    exact k2
  refine Code.wp_mono ?_ (h c h1 β _ w hst)
  rintro e a' w' ⟨φ',σ',β',q,hst',hext⟩
  cases e with
  |normal =>
   obtain ⟨r,hr,hR⟩:=q
   obtain ⟨y,k1,k2⟩:=zh2 hst'.toKnows hrs hr
   exact ⟨hst'.defers,y,k2,y,r,σ',β',rfl,hR,hst'.mem,hext,k1⟩
  |ret =>
   obtain ⟨r,hr,hR⟩:=q
   obtain ⟨y,k1,k2⟩:=zh2 hst'.toKnows hrs hr
   exact ⟨hst'.defers,y,k2,y,r,σ',β',rfl,hR,hst'.mem,hext,k1⟩
  |exit id=>exact q.elim
  |goto l=>exact q.elim
  |panic ch=>exact q.elim
  |outgrown=>exact q.elim
 ·cases hc
theorem AC.callK {j:Nat} {args:List AV} {K:AV→AS→Prop} (N':Nat) (hN:N≤N') (hφ:zaL φ≤N') (h:AC P inv w0 M N' j args σ K):CallK P inv w0 M N φ σ j args K:=⟨N',hN,hφ,h⟩
theorem PC.intro {j:Nat} {F:AFn} (hF:Has P inv j F) {args:List AV} {R:AV→Prop} (hl:args.length≤F.ntmps)
  (h:∀ (w0:World) (M:Nat→Prop),(∀ b,M b→b<w0.heap.size)→AWp P inv w0 M 0 F.ntmps F.body (zqK F.res fun r σ=>R (zes 4 σ r)) (zmu 0 args) []):PC P inv j args R:=by
 intro g hg M w vs hM ha
 have hm:Mem inv w M [] (fun _=>0) w:=⟨.refl _ _,by intro l l' o o' e;simp[zaB]at e,by intro l o e;simp[zaB]at e,by intro l cs e;simp[zaB]at e,by intro l cs e;simp[zaB]at e,by intro l kvs e;simp[zaB]at e⟩
 have hle:(⟨inv,w,M,fun _=>none⟩:Ctx).Le (ctx inv M [] (fun _=>0) w):=⟨rfl,Nat.le_refl _,fun _ _ _=>rfl,fun b _ h=>by
  rcases h with h|⟨l,o,e,_⟩
  ·exact h
  ·simp[zaB]at e⟩
 have hS:(ctx inv M [] (fun _=>0) w).S=fun _=>none:=by funext l;simp[ctx,zal,zaB]
 refine (AC.body hF hl (h w M hM) g hg (fun _=>0) w vs hm (zce (N:=0) hle _ _ (.inr hS) ha)).mono ?_
 rintro e w' ⟨v,r,σ',β',rfl,hR,hm',_,hr⟩
 have hf:=zfg hm' hM (A':=M) (fun _ h=>h) 4
 exact ⟨v,_,rfl,hR,hm'.below,zf2 hf r,zff hm' hM (fun _ h=>h) hf r v hr⟩
end
end Go.Eng
namespace Go.Eng
open Go.RowKit
theorem SLe.refl (σ:AS):SLe σ σ:=fun _ _ h _=>h
theorem SLe_refl (σ:AS):SLe σ σ=True:=eq_true (.refl σ)
theorem zlv {σ:AS} {l:Nat} (o:AO) (h:zaB σ l=none∨zaB σ l=some .rsv):SLe σ (za5 σ l o):=by
 intro l' o' h' hne
 rw[zaj]
 split
 ·rename_i e
  subst e
  rcases h with h|h
  ·rw[h]at h';cases h'
  ·rw[h]at h';simp only[Option.some.injEq]at h';exact absurd h'.symm hne
 ·exact h'
theorem ziF {σ:AS} {l:Nat} (h:zbb σ≤l):zaB σ l=none:=by
 cases e:zaB σ l with
 |none=>rfl
 |some o=>have:=(zaC σ l o e).1;omega
theorem znA (N:Nat) (φ:AF) (σ:AS):zaB σ (zax N φ σ)=none:=ziF (zbB N φ σ).2.2
theorem zeA:∀ {l:List Nat} {i:Nat},memN l i=true↔i∈l
 |[],i=>by simp[memN]
 |x::r,i=>by
  simp only[memN,Bool.or_eq_true,zeA (l:=r),Nat.beq_eq,List.mem_cons]
  constructor
  ·rintro (h|h)
   ·exact .inl h.symm
   ·exact .inr h
  ·rintro (h|h)
   ·exact .inl h.symm
   ·exact .inr h
theorem zdO {l:List Nat} {d:Nat} (h:zc1 l (some d)=false):∀ t∈l,t≠d:=by
 intro t ht e
 subst e
 simp only[zc1]at h
 rw[zeA.2 ht]at h
 cases h
section
variable {φ φ':AF} {σ:AS}
theorem zbc {x:Opd} (h:∀ t∈x.rd,zbk φ' t=zbk φ t):ev φ' x=ev φ x:=by
 cases x with
 |t i=>exact h i (by simp[Opd.rd])
 |c x=>rfl
theorem zez {x:Option Opd} (h:∀ t∈zlX x,zbk φ' t=zbk φ t):x.map (ev φ')=x.map (ev φ):=by
 cases x with
 |none=>rfl
 |some x=>simp only[Option.map_some];rw[zbc h]
theorem zdu:∀ {l:List Opd},(∀ t∈zfy l,zbk φ' t=zbk φ t)→l.map (ev φ')=l.map (ev φ)
 |[],_=>rfl
 |x::l,h=>by
  simp only[zfy,List.mem_append]at h
  simp only[List.map_cons]
  rw[zbc fun t ht=>h t (.inl ht),zdu fun t ht=>h t (.inr ht)]
theorem zgb:∀ {l:List (Nat×Nat×Opd)} (cs:List AV),(∀ t∈zhO l,zbk φ' t=zbk φ t)→zdX φ' cs l=zdX φ cs l
 |[],_,_=>rfl
 |(o,n,x)::l,cs,h=>by
  simp only[zhO,List.mem_append]at h
  simp only[zdX]
  rw[zbc fun t ht=>h t (.inl ht)]
  split
  ·exact zgb _ fun t ht=>h t (.inr ht)
  ·rfl
theorem zqx {e:AVal} (h:∀ t∈e.rd,zbk φ' t=zbk φ t):zdS φ' σ e=zdS φ σ e:=by
 funext K
 cases e<;>simp only[AVal.rd,List.mem_append]at h<;>simp only[zdS]
 case mov x=>rw[zbc h]
 case pick c a b=>rw[zbc fun t ht=>h t (.inl ht),zbc fun t ht=>h t (.inr (.inl ht)),zbc fun t ht=>h t (.inr (.inr ht))]
 case bin op ty x y=>rw[zbc fun t ht=>h t (.inl ht),zbc fun t ht=>h t (.inr ht)]
 case not x=>rw[zbc h]
 case conv k x=>rw[zbc h]
 case load n a=>rw[zbc h]
 case fadr a off=>rw[zbc h]
 case iadr x i sz arr=>rw[zbc fun t ht=>h t (.inl ht),zbc fun t ht=>h t (.inr ht)]
 case fld x off n=>rw[zbc h]
 case idx x i len sz ag=>rw[zbc fun t ht=>h t (.inl ht),zbc fun t ht=>h t (.inr ht)]
 case len x=>rw[zbc h]
 case ext x i=>rw[zbc h]
 case mkfn j l=>rw[zdu h]
 case build z ps=>rw[zgb _ h]
 case slc x lo hi m sz=>rw[zbc fun t ht=>h t (.inl ht),zez fun t ht=>h t (.inr (.inl ht)),zez fun t ht=>h t (.inr (.inr (.inl ht))),zez fun t ht=>h t (.inr (.inr (.inr ht)))]
 case slca x lo hi m k sz=>rw[zbc fun t ht=>h t (.inl ht),zez fun t ht=>h t (.inr (.inl ht)),zez fun t ht=>h t (.inr (.inr (.inl ht))),zez fun t ht=>h t (.inr (.inr (.inr ht)))]
 case nilck x=>rw[zbc h]
 case mnx mn x y=>rw[zbc fun t ht=>h t (.inl ht),zbc fun t ht=>h t (.inr ht)]
 case cap x=>rw[zbc h]
 case look m k=>rw[zbc fun t ht=>h t (.inl ht),zbc fun t ht=>h t (.inr ht)]
end
def SLx (ld:Bool) (σ σ':AS):Prop:=(∀ l ver,zbY σ l ver→zbY σ' l ver)∧(ld=true→SLe σ σ')
theorem zkT {σ σ':AS} {l ver:Nat} (hs:SLe σ σ') (h:zbY σ l ver):zbY σ' l ver:=by
 unfold zbY at h ⊢
 split at h
 ·rename_i cs r e;rw[hs _ _ e (by simp)];exact h
 ·exact h.elim
theorem SLe.x {σ σ':AS} (h:SLe σ σ') (ld:Bool):SLx ld σ σ':=⟨fun _ _ hl=>zkT h hl,fun _=>h⟩
theorem SLx.refl (ld:Bool) (σ:AS):SLx ld σ σ:=(SLe.refl σ).x ld
def Det (ld:Bool) (σ:AS) (F:AS→(AV→Prop)→Prop):Prop:=∀ K:AV→Prop,F σ K→∃ x,K x∧∀ σ',SLx ld σ σ'→∀ K':AV→Prop,K' x→F σ' K'
section
variable {φ φ':AF} {σ σ':AS} {ld:Bool}
theorem zap (x:AV):Det ld σ (fun _ K=>K x):=fun _ h=>⟨x,h,fun _ _ _ h'=>h'⟩
theorem zaM:Det ld σ (fun _ _=>False):=fun _ h=>h.elim
theorem det_ob {p:AS→Prop} {F:AS→(AV→Prop)→Prop} (hp:∀ σ',SLx ld σ σ'→p σ→p σ') (h:Det ld σ F):Det ld σ (fun σ K=>ob (p σ) (F σ K)):=by
 rintro K ⟨h1,h2⟩
 obtain ⟨x,k,h3⟩:=h K h2
 exact ⟨x,k,fun σ' hs K' k'=>⟨hp σ' hs h1,h3 σ' hs K' k'⟩⟩
theorem zbl {p:Prop} {F:AS→(AV→Prop)→Prop} (h:Det ld σ F):Det ld σ (fun σ K=>ob p (F σ K)):=det_ob (p:=fun _=>p) (fun _ _ h=>h) h
theorem zcR {l ver:Nat} {F:AS→(AV→Prop)→Prop} (h:Det ld σ F):Det ld σ (fun σ K=>ob (zbY σ l ver) (F σ K)):=det_ob (fun _ hs hl=>hs.1 _ _ hl) h
theorem zib {α:Type} {o:AS→Option α} {F:α→AS→(AV→Prop)→Prop} (ho:∀ σ' v,SLx ld σ σ'→o σ=some v→o σ'=some v) (h:∀ v,Det ld σ (F v)):Det ld σ (fun σ K=>zcG (o σ) fun v=>F v σ K):=by
 intro K hk
 obtain ⟨v,e,h2⟩:=za3 hk
 obtain ⟨x,k,h3⟩:=h v K h2
 refine ⟨x,k,fun σ' hs K' k'=>?_⟩
 have e':=ho σ' v hs e
 show zcG (o σ') _
 rw[e']
 exact h3 σ' hs K' k'
theorem zoi {x y v:AV} (hs:SLe σ σ') (h:zls σ x y=some v):zls σ' x y=some v:=by
 unfold zls at h ⊢
 split at h
 ·split at h
  ·rename_i e
   rw[hs _ _ e (by simp)]
   exact h
  ·cases h
 ·cases h
theorem zcy {α:Type} {o:Option α} {F:α→AS→(AV→Prop)→Prop} (h:∀ v,Det ld σ (F v)):Det ld σ (fun σ K=>zcG o fun v=>F v σ K):=zib (o:=fun _=>o) (fun _ _ _ h=>h) h
theorem zi5 {n:Option Nat} {x y:AV} (hs:SLe σ σ') (h:zdk σ n x=some y):zdk σ' n x=some y:=by
 cases x<;>simp only[zdk]at h ⊢<;>try exact h
 case ptr l ver off =>
  split at h
  ·rename_i cs r e
   rw[hs _ _ e (by simp)]
   exact h
  ·cases h
theorem zqg (op:BinOp) (k:IntKind) (a b:Int):Det ld σ (fun _ K=>zoh op k a b K):=by
 cases op<;>simp only[zoh]<;>first|exact zap _|exact zaM|exact zbl (zap _)
theorem zic (op:BinOp) (x y:AV):Det ld σ (fun _ K=>match op with|.eql=>K x|.neq=>K y|_=>False):=by
 cases op<;>first|exact zap _|exact zaM
theorem det_abin (op:BinOp) (ty:ETy) (x y:AV):Det ld σ (fun σ K=>zlz σ op ty x y K):=by
 unfold zlz
 split
 ·split
  ·exact zbl (zap _)
  ·exact zaM
  ·exact zbl (zqg _ _ _ _)
 ·exact zbl (zic _ _ _)
 ·split
  ·exact zcy fun t=>zic _ _ _
  ·exact zcy fun t=>zic _ _ _
  ·exact zaM
 ·exact zbl (zcR (zic _ _ _))
 ·exact zcy fun t=>zic _ _ _
theorem zno (x:AV) (lo hi mx:Option AV) (sz:Nat):Det ld σ (fun σ K=>aslc σ x lo hi mx sz K):=by
 unfold aslc
 split
 ·refine zbl (zbl (zbl ?_))
  split
  ·exact zap _
  ·exact zap _
  ·exact zcR (zap _)
  ·exact zaM
 ·exact zaM
 ·split
  ·refine zbl ?_
   split<;>first|exact zap _|exact zbl (zap _)|exact zaM
  ·refine zbl (zcR ?_)
   split<;>first|exact zap _|exact zbl (zap _)|exact zaM
  ·split<;>first|exact zap _|exact zbl (zap _)|exact zaM
  ·exact zaM
theorem zj7 (e:AVal):Det (isLd e) σ (fun σ K=>zdS φ σ e K):=by
 cases e<;>simp only[zdS,isLd]
 case mov x=>exact zap _
 case pick c a b =>
  split
  ·rename_i t _
   cases t
   ·simp only[zhN];exact zap _
   ·simp only[ziL];exact zap _
  ·exact zaM
 case bin op ty x y=>exact det_abin _ _ _ _
 case not x=>split<;>first|exact zap _|exact zaM
 case conv k x=>split<;>first|exact zap _|exact zaM
 case load n a=>exact zib (F:=fun v _ K=>K v) (fun σ' v hs e=>zi5 (hs.2 rfl) e) fun v=>zap v
 case fadr a off=>split<;>first|exact zap _|exact zcR (zap _)|exact zaM
 case iadr x i sz arr =>
  split
  ·split
   ·exact zbl (zbl (zap _))
   ·exact zbl (zcR (zbl (zap _)))
   ·exact zcR (zbl (zap _))
   ·exact zbl (zap _)
   ·exact zaM
  ·exact zaM
 case fld x off n =>
  split
  ·split
   ·exact zcy (F:=fun v _ K=>K v) fun v=>zap v
   ·exact zap _
  ·exact zaM
 case idx x i len sz ag =>
  split
  ·refine zbl ?_
   split
   ·exact zap _
   ·exact zcy (F:=fun v _ K=>K v) fun v=>zap v
  ·exact zaM
 case len x=>split<;>first|exact zap _|exact zcR (zap _)|exact zaM
 case ext x i =>
  split
  ·exact zcy (F:=fun v _ K=>K v) fun v=>zap v
  ·exact zaM
 case mkfn j l=>exact zap _
 case build z ps=>exact zcy fun cs=>zap _
 case slc x lo hi m sz=>exact zno _ _ _ _ _
 case slca x lo hi m k sz =>
  split
  ·exact zcR (zbl (zno _ _ _ _ _))
  ·exact zaM
 case nilck x=>split<;>first|exact zap _|exact zcR (zap _)|exact zaM
 case mnx mn x y=>split<;>first|exact zbl (zap _)|exact zaM
 case cap x=>split<;>first|exact zap _|exact zaM
 case look m k=>exact zib (F:=fun v _ K=>K v) (fun σ' v hs e=>zoi (hs.2 rfl) e) fun v=>zap v
end
end Go.Eng
namespace Go.Eng
open Go.RowKit
section
variable {P:Program} {inv:Nat→Option Nat} {w0:World} {M:Nat→Prop} {N:Nat} {φ φ1:AF} {σ:AS}
theorem CallK.mono {j:Nat} {args:List AV} {R R':AV→AS→Prop} (h:CallK P inv w0 M N φ σ j args R) (hr:∀ r σ',R r σ'→R' r σ'):CallK P inv w0 M N φ σ j args R':=by
 obtain ⟨N',h1,h2,h3⟩:=h
 refine ⟨N',h1,h2,fun g hg β w vs hm hv=>Calls.mono (h3 g hg β w vs hm hv) ?_⟩
 rintro e w' ⟨v,r,σ',β',k1,k2,k3⟩
 exact ⟨v,r,σ',β',k1,hr _ _ k2,k3⟩
theorem CallK.frame {j:Nat} {args:List AV} {R:AV→AS→Prop} (h:CallK P inv w0 M N φ1 σ j args R) (hb:zaL φ≤mx N (zaL φ1)):CallK P inv w0 M N φ σ j args R:=by
 obtain ⟨N',h1,h2,h3⟩:=h
 refine ⟨N',h1,Nat.le_trans hb ?_,h3⟩
 unfold mx
 split<;>omega
theorem zpv {a b c:Nat} (h1:a≤c) (h2:b≤c):mx a b≤c:=by unfold mx;split<;>assumption
theorem zmh {N:Nat} {φ:AF} {σ:AS} (h1:zaL φ≤N) (h2:zbb σ≤N):zax N φ σ=N:=by
 unfold zax mx
 split<;>split<;>omega
theorem zlw (N:Nat) (φ:AF) (σ:AS) (o:AO):SLe σ (za5 σ (zax N φ σ) o):=zlv o (.inl (znA N φ σ))
theorem zcj {sz:Nat} {x:AV} {K K':Nat→List AV→Prop} (hk:∀ m l,K m l→K' m l) (h:asrc σ sz x K):asrc σ sz x K':=by
 unfold asrc at h ⊢
 split at h
 ·exact hk _ _ h
 ·exact ⟨h.1,hk _ _ h.2⟩
 ·refine ⟨h.1, ?_⟩
  have h2:=h.2
  split at h2
  ·exact ⟨h2.1,hk _ _ h2.2⟩
  ·exact h2.elim
 ·exact h.elim
theorem zcJ {l d sz m:Nat} {dest:AV} {new:List AV} {K K':AF→AS→Prop} (hk:∀ r σ',K (zbx φ1 d r) σ'→K' (zbx φ d r) σ') (h:zoq φ1 σ l d sz dest m new K):zoq φ σ l d sz dest m new K':=by
 unfold zoq at h ⊢
 split at h
 ·exact ⟨h.1,hk _ _ h.2⟩
 ·refine ⟨h.1,h.2.1,h.2.2.1,h.2.2.2.1, ?_⟩
  have h2:=h.2.2.2.2
  split at h2
  ·exact ⟨h2.1,hk _ _ h2.2⟩
  ·exact h2.elim
 ·exact h.elim
theorem zil {o:AOp} {K1 K2:AF→AS→Prop} (hk:∀ φ σ,K1 φ σ→K2 φ σ) (h:zbj P inv w0 M N o φ σ K1):zbj P inv w0 M N o φ σ K2:=by
 cases o with
 |set d e =>
  simp only[zbj,aop]at h ⊢
  obtain ⟨x,k1,k2⟩:=zj7 e _ h
  exact k2 σ (.refl _ σ) _ (hk _ _ k1)
 |alloc d z=>simp only[zbj,aop]at h ⊢;exact hk _ _ h
 |box d n x=>simp only[zbj,aop]at h ⊢;exact ⟨h.1,h.2.1,hk _ _ h.2.2⟩
 |isnil d neg x =>
  simp only[zbj,aop]at h ⊢
  split at h
  ·exact ⟨fun e=>hk _ _ (h.1 e),hk _ _ h.2⟩
  ·exact ⟨fun e=>hk _ _ (h.1 e),hk _ _ h.2⟩
  ·exact ⟨h.1,fun e=>hk _ _ (h.2.1 e),hk _ _ h.2.2⟩
  ·exact h.elim
 |mks0 d sz=>simp only[zbj,aop]at h ⊢;exact hk _ _ h
 |mksl d sz len z ps =>
  simp only[zbj,aop]at h ⊢
  obtain ⟨cs,e,h⟩:=za3 h
  rw[e]
  simp only[zgc]
  cases eb:zaf cs<;>rw[eb]at h<;>exact hk _ _ h
 |store n a x =>
  simp only[zbj,aop]at h ⊢
  split at h
  ·split at h
   ·exact ⟨h.1,h.2.1,h.2.2.1,h.2.2.2.1,hk _ _ h.2.2.2.2⟩
   ·exact h.elim
  ·exact h.elim
 |app d s x sz=>simp only[zbj,aop]at h ⊢;exact zcj (fun m l h=>zcJ (fun r σ' h'=>⟨h'.1,hk _ _ h'.2⟩) h) h
 |make d a c z sz =>
  simp only[zbj,aop]at h ⊢
  split at h
  ·exact ⟨h.1,hk _ _ h.2⟩
  ·exact h.elim
 |call d j args=>simp only[zbj]at h ⊢;exact h.mono fun r σ' h'=>⟨h'.1,hk _ _ h'.2⟩
 |calv d f args =>
  simp only[zbj]at h ⊢
  split at h
  ·exact h.mono fun r σ' h'=>⟨h'.1,hk _ _ h'.2⟩
  ·exact h.elim
 |callp d j args =>
  simp only[zbj,aop]at h ⊢
  obtain ⟨r,h1,h2⟩:=h
  exact ⟨r,h1,hk _ _ h2⟩
 |gal d back z =>
  simp only[zbj,aop]at h ⊢
  split at h
  ·exact ⟨h.1,hk _ _ h.2⟩
  ·exact h.elim
 |storeA n a x pts =>
  simp only[zbj,aop]at h ⊢
  split at h
  ·refine ⟨h.1, ?_⟩
   have h:=h.2
   split at h
   ·exact ⟨h.1,h.2.1,h.2.2.1,h.2.2.2.1,hk _ _ h.2.2.2.2⟩
   ·exact h.elim
  ·exact h.elim
 |bad d=>exact h.elim
 |mkmap d=>simp only[zbj,aop]at h ⊢;exact hk _ _ h
 |appe d s x sz=>simp only[zbj,aop]at h ⊢;exact zcj (fun m l h=>zcJ (fun r σ' h'=>hk _ _ h') h) h
 |appA d s x sz pts=>simp only[zbj,aop]at h ⊢;exact zcj (fun m l h=>⟨h.1,zcJ (fun r σ' h'=>hk _ _ h') h.2⟩) h
 |calle d j args=>simp only[zbj,aop]at h ⊢;exact h.mono fun r σ' h'=>hk _ _ h'
 |calve d f args =>
  simp only[zbj,aop]at h ⊢
  split at h
  ·exact h.mono fun r σ' h'=>hk _ _ h'
  ·exact h.elim
 |mapset m k v =>
  simp only[zbj,aop]at h ⊢
  split at h
  ·split at h
   ·exact hk _ _ h
   ·exact h.elim
  ·exact h.elim
 |appz d s n z sz =>
  simp only[zbj,aop]at h ⊢
  split at h
  ·exact ⟨h.1,hk _ _ h.2⟩
  ·exact h.elim
def Sw (o:AOp) (φ φ1:AF) (σ:AS) (K:AF→AS→Prop):AF→AS→Prop:=fun φ' σ'=>(zma o=true∨SLx (!zek o) σ σ')∧∃ r,φ'=zcF φ o.dst r∧K (zcF φ1 o.dst r) σ'
theorem znZ {l l' ver:Nat} {cs xs:List AV} {r:Bool} {off:Nat} (hg:zaB σ l=some (.cells cs r)) (h:zbY σ l' ver):zbY (za5 σ l (.cells (ovl cs off xs) r)) l' ver:=by
 unfold zbY at h ⊢
 rw[zaj]
 by_cases e:l'=l
 ·subst e
  rw[hg]at h
  simp only[if_true,zcV]
  exact h
 ·rw[if_neg e]
  exact h
theorem zqA {o:AOp} {K:AF→AS→Prop} (hp:plain o=o) (he:zkW o=false) (h:zbj P inv w0 M N o φ1 σ K) (hr:∀ t∈o.rd,zbk φ t=zbk φ1 t) (hb:zaL φ≤mx N (zaL φ1)) :
  ∃ N2,N≤N2∧zbj P inv w0 M N2 o φ σ (Sw o φ φ1 σ K):=by
 have hfr:zaL φ≤zax N φ1 σ:=Nat.le_trans hb (by have:=zbB N φ1 σ;exact zpv this.1 this.2.1)
 have hN:N≤zax N φ1 σ:=(zbB N φ1 σ).1
 have hfe:zax (zax N φ1 σ) φ σ=zax N φ1 σ:=zmh hfr (zbB N φ1 σ).2.2
 have hsl:∀ o,SLe σ (za5 σ (zax N φ1 σ) o):=zlw N φ1 σ
 cases o with
 |set d e =>
  refine ⟨N,Nat.le_refl _, ?_⟩
  simp only[zbj,aop,AOp.rd]at h hr ⊢
  rw[zqx hr]
  obtain ⟨x,hk,hd⟩:=zj7 e _ h
  exact hd σ (.refl _ σ) _ ⟨.inr (.refl _ σ),x,rfl,hk⟩
 |alloc d z =>
  refine ⟨_,hN, ?_⟩
  simp only[zbj,aop]at h ⊢
  rw[hfe]
  exact ⟨(.inr ((hsl _).x _)),_,rfl,h⟩
 |box d n x =>
  refine ⟨_,hN, ?_⟩
  simp only[zbj,aop,AOp.rd]at h hr ⊢
  rw[hfe,zbc hr]
  exact ⟨h.1,h.2.1,(.inr ((hsl _).x _)),_,rfl,h.2.2⟩
 |isnil d neg x =>
  refine ⟨N,Nat.le_refl _, ?_⟩
  simp only[zbj,aop,AOp.rd]at h hr ⊢
  rw[zbc hr]
  split at h
  ·exact ⟨fun e=>⟨.inr (SLx.refl _ σ),_,rfl,h.1 e⟩,.inr (SLx.refl _ σ),_,rfl,h.2⟩
  ·exact ⟨fun e=>⟨.inr (SLx.refl _ σ),_,rfl,h.1 e⟩,.inr (SLx.refl _ σ),_,rfl,h.2⟩
  ·exact ⟨h.1,fun e=>⟨.inr (SLx.refl _ σ),_,rfl,h.2.1 e⟩,.inr (SLx.refl _ σ),_,rfl,h.2.2⟩
  ·exact h.elim
 |mks0 d sz =>
  refine ⟨N,Nat.le_refl _, ?_⟩
  simp only[zbj,aop]at h ⊢
  exact ⟨.inr (SLx.refl _ σ),_,rfl,h⟩
 |mksl d sz len z ps =>
  refine ⟨_,hN, ?_⟩
  simp only[zbj,aop,AOp.rd]at h hr ⊢
  rw[hfe,zgb _ hr]
  obtain ⟨cs,e,h⟩:=za3 h
  rw[e]
  simp only[zgc]
  cases eb:zaf cs<;>rw[eb]at h
  ·exact ⟨(.inr ((hsl _).x _)),_,rfl,h⟩
  ·exact ⟨.inr (SLx.refl _ σ),_,rfl,h⟩
 |store n a x =>
  refine ⟨N,Nat.le_refl _, ?_⟩
  simp only[zbj,aop,AOp.rd,List.mem_append]at h hr ⊢
  rw[zbc fun t ht=>hr t (.inl ht),zbc fun t ht=>hr t (.inr ht)]
  split at h
  ·split at h
   ·rename_i hg
    exact ⟨h.1,h.2.1,h.2.2.1,h.2.2.2.1,(.inr ⟨fun l' ver hl=>znZ hg hl,fun e=>by simp[zek]at e⟩),.u,rfl,h.2.2.2.2⟩
   ·exact h.elim
  ·exact h.elim
 |app d s x sz =>
  refine ⟨_,hN, ?_⟩
  simp only[zbj,aop,AOp.rd,List.mem_append]at h hr ⊢
  rw[hfe,zbc fun t ht=>hr t (.inl ht),zbc fun t ht=>hr t (.inr ht)]
  refine zcj (fun m l hk=>zcJ (fun r σ' h'=>?_) hk) h
  exact ⟨h'.1,(.inr (SLe.x h'.1 _)),r,rfl,h'.2⟩
 |make d l c z sz =>
  refine ⟨_,hN, ?_⟩
  simp only[zbj,aop,AOp.rd,List.mem_append]at h hr ⊢
  rw[hfe,zbc fun t ht=>hr t (.inl ht),zbc fun t ht=>hr t (.inr ht)]
  split at h
  ·exact ⟨h.1,(.inr ((hsl _).x _)),_,rfl,h.2⟩
  ·exact h.elim
 |call d j args =>
  refine ⟨N,Nat.le_refl _, ?_⟩
  simp only[zbj,AOp.rd]at h hr ⊢
  rw[zdu hr]
  exact (h.frame hb).mono fun r σ' h'=>⟨h'.1,(.inr (SLe.x h'.1 _)),r,rfl,h'.2⟩
 |calv d f args =>
  refine ⟨N,Nat.le_refl _, ?_⟩
  simp only[zbj,AOp.rd,List.mem_append]at h hr ⊢
  rw[zbc fun t ht=>hr t (.inl ht),zdu fun t ht=>hr t (.inr ht)]
  split at h
  ·exact (h.frame hb).mono fun r σ' h'=>⟨h'.1,(.inr (SLe.x h'.1 _)),r,rfl,h'.2⟩
  ·exact h.elim
 |callp d j args =>
  refine ⟨N,Nat.le_refl _, ?_⟩
  simp only[zbj,aop,AOp.rd]at h hr ⊢
  rw[zdu hr]
  obtain ⟨r,h1,h2⟩:=h
  exact ⟨r,h1,.inr (SLx.refl _ σ),r,rfl,h2⟩
 |gal d back z =>
  refine ⟨N,Nat.le_refl _, ?_⟩
  simp only[zbj,aop]at h ⊢
  split at h
  ·rename_i hg
   exact ⟨h.1,(.inr ((zlv _ (.inr hg)).x _)),_,rfl,h.2⟩
  ·exact h.elim
 |storeA n a x pts=>simp[plain]at hp
 |bad d=>exact h.elim
 |appA d s x sz pts =>
  refine ⟨_,hN, ?_⟩
  have hpt:pts=[]:=by simpa [plain] using hp.symm
  subst hpt
  simp only[zbj,aop,AOp.rd,List.mem_append]at h hr ⊢
  rw[hfe,zbc fun t ht=>hr t (.inl ht),zbc fun t ht=>hr t (.inr ht)]
  refine zcj (fun m l hk=>⟨by cases ev φ1 s<;>rfl,zcJ (fun r σ' h'=>?_) hk.2⟩) h
  exact ⟨.inl rfl,r,rfl,h'⟩
 |appe d s x sz=>cases he
 |calle d j args=>cases he
 |calve d f args=>cases he
 |mkmap d =>
  refine ⟨_,hN, ?_⟩
  simp only[zbj,aop]at h ⊢
  rw[hfe]
  exact ⟨(.inr ((hsl _).x _)),_,rfl,h⟩
 |mapset m k v =>
  refine ⟨N,Nat.le_refl _, ?_⟩
  simp only[zbj,aop,AOp.rd,List.mem_append]at h hr ⊢
  rw[zbc fun t ht=>hr t (.inl ht),zbc fun t ht=>hr t (.inr (.inl ht)),zbc fun t ht=>hr t (.inr (.inr ht))]
  split at h
  ·rename_i l a b _ _ _
   split at h
   ·rename_i kvs hg
    refine ⟨.inr ⟨fun l' ver hl=>?_,fun e=>by simp[zek]at e⟩,.u,rfl,h⟩
    unfold zbY at hl ⊢
    rw[zaj]
    by_cases e:l'=l
    ·subst e;rw[hg]at hl;exact hl.elim
    ·rw[if_neg e];exact hl
   ·exact h.elim
  ·exact h.elim
 |appz d s n z sz =>
  refine ⟨_,hN, ?_⟩
  simp only[zbj,aop,AOp.rd,List.mem_append]at h hr ⊢
  rw[hfe,zbc fun t ht=>hr t (.inl ht),zbc fun t ht=>hr t (.inr ht)]
  split at h
  ·exact ⟨h.1,(.inr ((hsl _).x _)),_,rfl,h.2⟩
  ·exact h.elim
def zgS (P:Program) (inv:Nat→Option Nat) (w0:World) (M:Nat→Prop) (N:Nat) (g:GOp) (φ:AF) (σ:AS) (K:AF→AS→Prop):Prop :=
 match g with
 |(none,o)=>zbj P inv w0 M N o φ σ K
 |(some (s,want),o)=>(∃ t,zbk φ s=.b t∧(t=want→zbj P inv w0 M N o φ σ K)∧(¬t=want→K (zcF φ o.dst .u) σ))∨(zbk φ s=.u∧K (zcF φ o.dst .u) σ)
def zqv (P:Program) (inv:Nat→Option Nat) (w0:World) (M:Nat→Prop) (N:Nat):List GOp→(AF→AS→Prop)→AF→AS→Prop
 |[],K,φ,σ=>K φ σ
 |g::r,K,φ,σ=>zgS P inv w0 M N g φ σ (zqv P inv w0 M N r K)
theorem awpL_of:∀ {l:List GOp} {K:AF→AS→Prop} {φ:AF} {σ:AS},zbm P inv w0 M N l K φ σ→zqv P inv w0 M N l K φ σ:=by
 intro l
 induction l with
 |nil=>exact fun h=>h
 |cons g l ih =>
  intro K φ σ h
  have mono:∀ {o:AOp} {φ:AF} {σ:AS},zbj P inv w0 M N o φ σ (zbm P inv w0 M N l K)→zbj P inv w0 M N o φ σ (zqv P inv w0 M N l K):=by
   intro o φ σ h
   exact zil (fun _ _ h=>ih h) h
  obtain ⟨g,o⟩:=g
  cases g with
  |none=>exact mono h
  |some sw =>
   obtain ⟨s,want⟩:=sw
   cases want<;>simp only[zbm]at h<;>split at h
   all_goals first|exact h.elim|skip
   ·rename_i t et
    refine .inl ⟨t,et,fun e=>?_,fun e=>?_⟩
    ·have:=h.2 e;rw[zdM (by rw[et,e])]at this;exact mono this
    ·have e':t=true:=by simpa using e
     have:=h.1 e';rw[zdM (by rw[et,e'])]at this;exact ih this
   ·rename_i et;exact .inr ⟨et,ih h⟩
   ·rename_i t et
    refine .inl ⟨t,et,fun e=>?_,fun e=>?_⟩
    ·have:=h.1 e;rw[zdM (by rw[et,e])]at this;exact mono this
    ·have e':t=false:=by simpa using e
     have:=h.2 e';rw[zdM (by rw[et,e'])]at this;exact ih this
   ·rename_i et;exact .inr ⟨et,ih h⟩
end
end Go.Eng
