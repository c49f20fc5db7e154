/-
  A part of the engine that walks the functions' codes, and of the functions' contracts. Conditions: those that each theorem names.
-/
import Derived.Test.YtibpmipffibbpaaGreatU2
import Derived.Below
import Derived.Calls
import Derived.ChangeKeysEq
import Derived.DataReads
import Derived.Deep.LoopGhost
import Derived.Laws.AppendOwn
import Derived.Laws.Cells
import Derived.Laws.CopyRow
import Derived.Laws.Entries
import Derived.Laws.MakeOwn
import Derived.Laws.Rows
import Derived.Laws.StructEq
import Derived.Laws.Tables
import Derived.Lib.AppendZerosOnto
import Derived.MapKept
import Derived.Orders
import Derived.ProofKit
import Derived.ScopeJumps
import Derived.Tactics2
import Derived.WalkSpells
set_option linter.unusedSimpArgs false
set_option linter.unusedVariables false
set_option linter.unusedSectionVars false
namespace Go.Eng
open Go.RowKit
section
variable {P:Program} {inv:Nat->Option Nat} {w0:World} {M:Nat->Prop} {n N:Nat} {φ:AF} {σ:AS} {β:Nat->Nat} {a:Act} {w:World}
theorem zrm {d:Option Nat} (h:zlP n d=true):∀ k,d=some k->k<n:=by
 intro k hk
 subst hk
 simpa [zlP] using h
theorem zjH (hE:zca P inv) (hs:St inv w0 M n φ σ β a w) {g j:Nat} (hg:inv g=some j) {args:List AV} {vs:Array Value} (hr:zbZ (ctx inv M σ β w) args vs.toList) {K:AF->AS->Prop} {d:Option Nat} (hd:∀ k,d=some k->k<n)
  (h:CallK P inv w0 M N φ σ j args fun r σ'=>K (zcS φ d r) σ') {o:Oper} (ho:o.dst=d) {za5:Act->World->Prop} {Q:Exit->Act->World->Prop}
  (hn:∀ φ' σ' β' a' w',K φ' σ'->St inv w0 M n φ' σ' β' a' w'->Ext N (ctx inv M σ β w) (ctx inv M σ' β' w')->za5 a' w')
  (hx:(execOp a.eval o).run P w=(callFunc g vs).run P w):o.wp P a w za5 Q:=by
 obtain ⟨fn,h1,h2,h3⟩:=hE.2 g j hg
 unfold Oper.wp
 have hc:(callFunc g vs).run P w=.ok (.enter g vs) w:=by
  simp only[callFunc,Sem.run_bind,run_program,Result.andThen_ok,h1,h3,h2,Bool.false_eq_true,if_false,Sem.run_pure]
 rw[hx,hc]
 simp only[Oper.upon]
 obtain ⟨N',hN,hφ,hac⟩:=h
 refine (hac g hg β w vs hs.mem hr).mono fun e w' ⟨v,r,σ',β',he,hk,hm,hext,hrr⟩=>?_
 subst he
 show za5 (a.put o.dst v) w'
 rw[ho]
 cases d with
 |none=>exact hn _ _ _ _ _ hk (hs.keep hm hext hφ) (hext.mono hN)
 |some d=>exact hn _ _ _ _ _ hk (hs.put hm hext hφ (hd d rfl) hrr) (hext.mono hN)
theorem zlR (hs:Knows inv w0 M φ σ β a w) {ts:List TypeId} {xs:List Operand} {l:List Opd} (h:zlS P inv (ts.zip xs)=some l) (hl:ts.length=xs.length):zbZ (ctx inv M σ β w) (l.map (ev φ)) (xs.map a.eval):=by
 have:=ziE hs h
 have e:(ts.zip xs).map (fun p=>a.eval p.2)=xs.map a.eval:=by
  show (ts.zip xs).map (a.eval∘Prod.snd)=_
  rw[<-List.map_map,List.map_snd_zip (by omega)]
 rw[e]at this
 exact this
set_option maxHeartbeats 1000000 in
theorem zrk (hE:zca P inv) (hM:∀ b,M b->b<w0.heap.size) (hs:St inv w0 M n φ σ β a w) {o:Oper} {op:AOp} (hc:zdd P inv o=some op) (hdst:op.dst=o.dst) (hok:zlP n o.dst=true) {K:AF->AS->Prop} (h:aop P inv w0 M N op φ σ K)
  {za5:Act->World->Prop} {Q:Exit->Act->World->Prop} (hn:∀ φ' σ' β' a' w',K φ' σ'->St inv w0 M n φ' σ' β' a' w'->Ext N (ctx inv M σ β w) (ctx inv M σ' β' w')->za5 a' w'):o.wp P a w za5 Q:=by
 have hdl:=zrm hok
 obtain ⟨f1,f2,f3⟩:=zbG N φ σ
 have val:∀ {v:Value} {w':World},(execOp a.eval o).run P w=.ok (.value v) w'->za5 (a.put o.dst v) w'->o.wp P a w za5 Q:=by
  intro v w' h1 h2
  unfold Oper.wp
  rw[h1]
  exact h2
 unfold zdd at hc
 split at hc
 ·-- alloc
  rename_i t ho
  obtain ⟨z,h1,rfl⟩:=Option.map_eq_some_iff.1 hc
  simp only[AOp.dst]at hdst
  obtain ⟨i,zv,hi,hz,hzr⟩:=zcy (c:=ctx inv M σ β w) h1
  have hlen:=zaM hzr
  have hnew:=hs.new_ptr (N:=N) (ty:=t) (hdl _ hdst.symm) (cs:=zeg z) (xs:=zv.cells) (by rw[zcN h1];omega) (by simpa using hlen) hzr
  refine val (v:=.pointer (some ⟨w.heap.size,0,none⟩)) (w':=w.alloc (.cells zv.cells t)) ?_ ?_
  ·simp only[execOp,ho,Sem.run_bind,zfa hi hz,Result.andThen_ok,Sem.run_pure]
  ·rw[<-hdst];exact hn _ _ _ _ _ h hnew.1 hnew.2
 ·-- box
  rename_i t x ho
  split at hc
  ·rename_i k dx h1 h2
   simp only[Option.some.injEq]at hc
   subst hc
   simp only[AOp.dst]at hdst
   obtain ⟨k1,k2,h⟩:=h
   have hx:=zaq hs.toKnows h2
   have hxc:=ziH k1 hx
   have hlen:=zaM hxc
   have hnew:=hs.new_ptr (N:=N) (ty:=t) (hdl _ hdst.symm) (cs:=(ev φ dx).cells) (xs:=(a.eval x).cells) (Nat.le_trans (zfq _) (Nat.le_trans (zkD dx (zgG h2)) f2)) (by simpa using hlen) hxc
   refine val (v:=.pointer (some ⟨w.heap.size,0,none⟩)) (w':=w.alloc (.cells (a.eval x).cells t)) ?_ ?_
   ·simp[execOp,ho,Instr.box,newVar,newRow]
   ·rw[<-hdst]
    rw[k2]at hnew
    exact hn _ _ _ _ _ h hnew.1 hnew.2
  ·cases hc
 ·-- a slice and nil
  rename_i op0 t x _ ho
  split at hc
  ·rename_i et e1
   have hn':∀ (ad:Option Addr) (len cap:Nat) (neg:Bool),op0=(if neg=true then .neq else .eql)->a.eval x=.slice ad len cap->(ad=none->len=0)->zoP len neg (fun t=>K (zbE φ (o.dst.getD 0) (.b t)) σ)->o.dst=some (o.dst.getD 0)->o.wp P a w za5 Q:=by
    intro ad len cap neg hop hx hz hk hds
    have hg:=zcr (P:=P) (w:=w) op0 t x (.const (.slice none 0 0)) (.slice ad len cap) (.slice none 0 0) (by simp) (by simp)
    have hcst:a.eval (.const (.slice none 0 0))=.slice none 0 0:=rfl
    have hv:(execOp a.eval o).run P w=.ok (.value (.bool (ad.isNone != neg))) w:=by
     cases neg with
     |true =>
      simp only[if_true]at hop
      subst hop
      simp only[execOp,ho,hx,hcst,Sem.run_bind,hg,Result.andThen_ok,run_neq_slice_nil_any w t et ad len cap 0 0 e1,Sem.run_pure]
      simp
     |false =>
      simp only[Bool.false_eq_true,if_false]at hop
      subst hop
      simp only[execOp,ho,hx,hcst,Sem.run_bind,hg,Result.andThen_ok,Lib.run_eql_slice_nil w t et ad len cap 0 0 e1,Sem.run_pure]
      simp
    refine val hv ?_
    have hput:∀ b,K (zbE φ (o.dst.getD 0) (.b b)) σ->za5 (a.put o.dst (.bool b)) w:=by
     intro b hk
     rw[hds]
     exact hn _ _ _ _ _ hk (hs.set (hdl _ hds) (by simp only[rel])) (.refl _ _)
    cases ad with
    |none=>have:=hput (!neg) (hk.1 (hz rfl));simpa using this
    |some ad=>have:=hput neg hk.2;simpa using this
   have fin:∀ (dx:Opd) (neg:Bool),op0=(if neg=true then .neq else .eql)->zc9 P inv t x=some dx->op=.isnil (o.dst.getD 0) neg dx->o.wp P a w za5 Q:=by
    intro dx neg hop h1 e
    subst e
    have r1:=zaq hs.toKnows h1
    simp only[AOp.dst]at hdst
    simp only[aop]at h
    split at h
    ·rename_i sz es ep
     rw[ep]at r1
     simp only[rel]at r1
     obtain ⟨ad,cap,q1,_,q3⟩:=r1
     refine hn' ad _ cap neg hop q1 (fun e=>?_) h hdst.symm
     cases es with
     |nil=>rfl
     |cons r es=>obtain ⟨a',ea,_⟩:=q3 (by simp);rw[e]at ea;cases ea
    ·rename_i sz ep
     rw[ep]at r1
     simp only[rel]at r1
     obtain ⟨ad,q1⟩:=r1
     exact hn' ad _ _ neg hop q1 (fun _=>rfl) h hdst.symm
    ·rename_i l ver off m sz ep
     rw[ep]at r1
     obtain ⟨p,ad,cap,_,_,_,q1,hcap,hr⟩:=zdW h.1 r1
     refine hn' ad _ cap neg hop q1 (fun e=>?_) h.2 hdst.symm
     subst e
     split at hr
     ·rcases hr.1 with h0|h0
      ·omega
      ·cases h0
     ·omega
    ·exact h.elim
   split at hc
   ·rename_i dx h1
    simp only[Option.some.injEq]at hc
    exact fin dx false rfl h1 hc.symm
   ·rename_i dx h1
    simp only[Option.some.injEq]at hc
    exact fin dx true rfl h1 hc.symm
   ·cases hc
  ·cases hc
 ·-- buildSlice
  rename_i t len parts ho
  split at hc
  ·rename_i h00
   obtain ⟨hlen0,hp0⟩:=h00
   split at hc
   ·rename_i e e1
    obtain ⟨k,h1,rfl⟩:=Option.map_eq_some_iff.1 hc
    simp only[AOp.dst]at hdst
    simp only[aop]at h
    have hp1:parts=#[]:=Array.isEmpty_iff.1 hp0
    have hrun:(execOp a.eval o).run P w=.ok (.value (.slice (some ⟨w.heap.size,0,none⟩) 0 0)) (w.alloc (.cells #[] e)):=by
     simp[execOp,ho,hlen0,hp1,Instr.buildSlice,Sem.run_bind,run_underlying e1,zde h1,Instr.fill,newRow]
     congr 2
     exact Array.eq_empty_of_size_eq_zero (by simp)
    obtain ⟨m1,m2⟩:=hs.mem.call (w':=w.alloc (.cells #[] e)) ((Below.refl _ w).alloc (Nat.le_refl _) _) (mx N (zaS φ))
    refine val hrun ?_
    rw[<-hdst]
    exact hn _ _ _ _ _ h (hs.put m1 m2 (zaz _ _) (hdl _ hdst.symm) (by simp only[rel];exact ⟨_,rfl⟩)) (m2.mono (za2 _ _))
   ·cases hc
  rename_i hnot
  split at hc
  ·rename_i e e1
   split at hc
   ·rename_i k z h1 h2
    split at hc
    ·rename_i ps h3
     split at hc
     ·rename_i hcond
      obtain ⟨c1,c2,c3,c4⟩:=hcond
      simp only[Option.some.injEq]at hc
      subst hc
      simp only[AOp.dst]at hdst
      obtain ⟨i,zv,hi,hz,hzr⟩:=zcy (c:=ctx inv M σ β w) h2
      have hzl:=zaM hzr
      have hzs:zv.cells.size=k:=by rw[<-Array.length_toList,<-hzl];exact c4
      simp only[aop]at h
      obtain ⟨cs,ecs,h⟩:=za6 h
      ·have hmade:relCs (ctx inv M σ β w) (List.replicate len (zeg z)).flatten (madeCells zv.cells (len*k)).toList:=by
        rw[<-hzs,zew]
        exact zkb hzr len
       obtain ⟨cells',k1,k2⟩:=zeX hs.toKnows h3 ecs hmade
       have hcl:cs.length=len*k:=by
        have:∀ {ps:List (Nat×Nat×Opd)} {c c':List AV},zee φ c ps=some c'->c'.length=c.length:=by
         intro ps
         induction ps with
         |nil=>intro c c' h;simp only[zee,Option.some.injEq]at h;rw[h]
         |cons p ps ih =>
          obtain ⟨o1,o2,o3⟩:=p
          intro c c' h
          simp only[zee]at h
          split at h
          ·rw[ih h,zdb]
          ·cases h
        rw[this ecs,zcf,c4]
       have hcl2:=zaM k2
       have hrun:(execOp a.eval o).run P w=.ok (.value (.slice (some ⟨w.heap.size,0,none⟩) len len)) (w.alloc (.cells cells' e)):=by
        have hne:¬len*k=0:=fun e=>by rcases Nat.mul_eq_zero.1 e with e|e<;>omega
        have hle:¬(len*k > 2 ^ 24):=by have:(2:Nat) ^ 24=16777216:=rfl;omega
        have k1':Instr.fill (fun i=>some (i*k,k)) (Array.map (fun x=>zv.cells[x % zv.cells.size]!) (Array.range (len*k))) (parts.toList.map fun p=>(p.1,a.eval p.2))=some cells':=by
         rw[<-k1]
         simp only[Option.map_some]
         rfl
        simp only[execOp,ho,Instr.buildSlice,Sem.run_bind,run_underlying e1,Result.andThen_ok,zde h1,if_neg hle,Sem.run_pure,if_neg hne,zeroValue,run_typeInfo w hi,hz]
        simp only[Array.toList_map]at k1' |-
        rw[k1']
        simp[newRow]
       have hb:zae cs<=zaB N φ σ:=ziw ecs (zg3 h3) _ f2 (zhS (by rw[zcN h2];omega) len)
       have hrow:relCs (ctx inv M σ β w) cs (cells'.toList.take cs.length):=by
        rw[show cs.length=cells'.toList.length from hcl2,List.take_length]
        exact k2
       have hnew:=hs.new_sm (N:=N) (hdl _ hdst.symm) (cs:=cs) (xs:=cells') (ty:=e) (sz:=k) (m:=len) (cap:=len) (w':=w.alloc (.cells cells' e)) rfl rfl rfl rfl hb hcl (Nat.le_refl _) (by rw[<-Array.length_toList,<-hcl2,hcl];exact Nat.le_refl _) hrow
       refine val hrun ?_
       rw[<-hdst]
       split at h
       ·rename_i hbare
        have hcall:=hs.mem.call (w':=w.alloc (.cells cells' e)) ((Below.refl _ _).alloc (Nat.le_refl _) _) (zaS φ)
        have hcallN:=hs.mem.call (w':=w.alloc (.cells cells' e)) ((Below.refl _ _).alloc (Nat.le_refl _) _) N
        refine hn _ _ _ _ _ h (hs.put hcall.1 hcall.2 (Nat.le_refl _) (hdl _ hdst.symm) ?_) hcallN.2
        simp only[rel]
        refine ⟨_,_,by rw[zcs],by rw[zcs];exact Nat.le_refl _,fun _=>⟨_,rfl, ?_, ?_, ?_⟩⟩
        ·rintro (hm|⟨l',o',e',hr',hb'⟩)
         ·have h6:=hM _ hm
          have h7:=hs.mem.below.size
          simp only at h6
          omega
         ·have:=(hs.mem.own l' o' e' hr').2
          simp only at hb'
          omega
        ·show w.heap.size<(w.alloc (.cells cells' e)).heap.size
         simp
        ·refine zdy len (by omega) hbare (ys:=cells'.toList) ?_ fun j u hu=>?_
         ·have h5:=hcall.2.relCs (zau cs (by rw[zbn cs hbare];omega)) k2
          exact zdM (S:=fun _=>none) cs _ hbare h5
         ·show (w.alloc (.cells cells' e)).cell? _=some u
          rw[Nat.zero_add,zcu,Nat.zero_add]
          have:(w.alloc (.cells cells' e)).heap[w.heap.size]?=some (.cells cells' e (0,0)):=heap_alloc_new w _
          simp only[World.cell?,this,Option.isSome_none,Bool.false_eq_true,if_false]
          simpa using hu
       ·exact hn _ _ _ _ _ h hnew.1 hnew.2
     ·cases hc
    ·cases hc
   ·cases hc
  ·cases hc
 ·-- store
  rename_i t x y ho
  split at hc
  ·rename_i k dx dy h1 h2 h3
   simp only[Option.some.injEq]at hc
   subst hc
   simp only[AOp.dst]at hdst
   have r1:=zaq hs.toKnows h2
   have r2:=zaq hs.toKnows h3
   simp only[aop]at h
   split at h
   ·rename_i l ver off ep
    rw[ep]at r1
    split at h
    ·rename_i cs r hg
     obtain ⟨q1,q2,q3,⟨q4,q5⟩,h⟩:=h
     obtain ⟨w',hrun,hst,hext⟩:=zmh (N:=N) hs h1 r1 r2 (zkD dy (zgG h3)) hg q1 q2 q3 q4 q5
     unfold Oper.wp
     have hx:(execOp a.eval o).run P w=.ok .skip w':=by simp only[execOp,ho,Sem.run_bind,hrun,Result.andThen_ok,Sem.run_pure]
     rw[hx]
     show za5 (a.put o.dst undef) w'
     rw[<-hdst]
     exact hn _ _ _ _ _ h hst hext
    ·exact h.elim
   ·exact h.elim
  ·cases hc
 ·-- makeSlice
  rename_i t l c ho
  split at hc
  ·rename_i e e1
   split at hc
   ·rename_i i z dl dc hi h2 h3 h4
    split at hc
    ·rename_i hcond
     obtain ⟨c1,c2,c3⟩:=hcond
     simp only[Option.some.injEq]at hc
     subst hc
     simp only[AOp.dst]at hdst
     obtain ⟨i',zv,hi',hz,hzr⟩:=zcy (c:=ctx inv M σ β w) h2
     rw[hi]at hi'
     simp only[Option.some.injEq]at hi'
     subst hi'
     have hzl:=zaM hzr
     have hzs:zv.cells.size=i.size:=by rw[<-Array.length_toList,<-hzl];exact c2
     have r1:=zaq hs.toKnows h3
     have r2:=zaq hs.toKnows h4
     simp only[aop]at h
     split at h
     ·rename_i kl al kc ac el ec
      rw[el]at r1
      rw[ec]at r2
      simp only[rel]at r1 r2
      obtain ⟨⟨q1,q2,q3⟩,h⟩:=h
      have hbytes:(i.bytes:Int)*ac<=281474976710656:=by
       have h5:(i.bytes:Int)*ac<=32768*ac:=Int.mul_le_mul_of_nonneg_right (by omega) (by omega)
       omega
      have hrun:=run_make (P:=P) w t e i zv e1 hi hz kl kc al ac q1 q2 hbytes (by omega)
      have hle:al.toNat<=ac.toNat:=by omega
      have hnew:=hs.new_sm (N:=N) (hdl _ hdst.symm) (cs:=(List.replicate al.toNat (zeg z)).flatten) (xs:=madeCells zv.cells (ac.toNat*i.size)) (ty:=e) (sz:=i.size) (m:=al.toNat) (cap:=ac.toNat) (w':=w.alloc (.cells (madeCells zv.cells (ac.toNat*i.size)) e)) rfl rfl rfl rfl
       (zhS (by rw[zcN h2];omega) _) (by rw[zcf,c2]) hle (by rw[size_madeCells];exact Nat.le_refl _)
       (by rw[zcf,c2,<-hzs,zi1 zv.cells _ _ hle];exact zkb hzr _)
      refine val (v:=.slice (some ⟨w.heap.size,0,none⟩) al.toNat ac.toNat) (w':=w.alloc (.cells (madeCells zv.cells (ac.toNat*i.size)) e)) ?_ ?_
      ·simp only[execOp,ho,r1,r2,Sem.run_bind,hrun,Result.andThen_ok,Sem.run_pure]
      ·rw[<-hdst];exact hn _ _ _ _ _ h hnew.1 hnew.2
     ·exact h.elim
    ·cases hc
   ·cases hc
  ·cases hc
 ·-- call
  rename_i c ho
  unfold zru at hc
  split at hc
  ·rename_i g ecal
   split at hc
   ·rename_i j l h1 h2
    split at hc
    ·rename_i hsz
     simp only[Option.some.injEq]at hc
     subst hc
     simp only[aop]at h
     refine zjH hE hs h1 (vs:=c.args.map a.eval) ?_ hdl h rfl hn ?_
     ·rw[Array.toList_map];exact zlR hs.toKnows h2 (by simpa using hsz)
     ·simp[execOp,ho,resolve,ecal,invoke,Act.eval,Deferred.ofValue]
    ·cases hc
   ·cases hc
  ·rename_i f _ ecal
   split at hc
   ·rename_i df l h1 h2
    split at hc
    ·rename_i hsz
     simp only[Option.some.injEq]at hc
     subst hc
     have r1:=zaq hs.toKnows h1
     simp only[aop]at h
     split at h
     ·rename_i j caps ej
      rw[ej]at r1
      simp only[rel]at r1
      obtain ⟨g,xs,q1,q2,q3⟩:=r1
      refine zjH hE hs q2 (vs:=c.args.map a.eval++xs) ?_ hdl h rfl hn ?_
      ·rw[Array.toList_append,Array.toList_map];exact zhZ (zlR hs.toKnows h2 (by simpa using hsz)) q3
      ·simp[execOp,ho,resolve,ecal,q1,invoke,Deferred.ofValue]
     ·exact h.elim
    ·cases hc
   ·cases hc
  ·rename_i ecal
   split at hc
   ·rename_i d s x t u e0 e1 e2
    split at hc
    ·rename_i e d' ds dx e3 e4 e5 e6
     split at hc
     ·rename_i i e7
      split at hc
      ·rename_i z e8
       split at hc
       ·rename_i hcond
        simp only[Option.some.injEq]at hc
        subst hc
        simp only[aop]at h
        obtain ⟨v,w',φ',σ',β',hk,hrun,hst,hext⟩:=zrO (N:=N) (ty:=o.type) hs e3 e4 e7 e8 hcond.2.1 hcond.1 hcond.2.2 (hdl d e0) (zaq hs.toKnows e5) (zaq hs.toKnows e6) h
        obtain ⟨callee,⟨args⟩,⟨ts⟩⟩:=c
        simp only at ecal e1 e2
        subst ecal e1 e2
        refine val (v:=v) (w':=w') ?_ ?_
        ·simp[execOp,ho,resolve,invoke,builtin,hrun]
        ·rw[e0];exact hn _ _ _ _ _ hk hst hext
       ·cases hc
      ·cases hc
     ·cases hc
    ·-- so many zeros
     rename_i e kq ds dx e3 e4 e5 e6
     split at hc
     ·rename_i i z hi e8
      split at hc
      ·rename_i hcond
       obtain ⟨c1,c2,c3⟩:=hcond
       simp only[Option.some.injEq]at hc
       subst hc
       obtain ⟨i',zv,hi',hz,hzr⟩:=zcy (c:=ctx inv M σ β w) e8
       rw[hi]at hi'
       simp only[Option.some.injEq]at hi'
       subst hi'
       have hzl:=zaM hzr
       have hzs:zv.cells.size=i.size:=by rw[<-Array.length_toList,<-hzl];exact c2
       have r1:=zaq hs.toKnows e5
       have r2:=zaq hs.toKnows e6
       simp only[aop]at h
       obtain ⟨callee,⟨args⟩,⟨ts⟩⟩:=c
       simp only at ecal e1 e2
       subst ecal e1 e2
       split at h
       ·rename_i sz0 b el eb
        rw[el]at r1
        rw[eb]at r2
        simp only[rel]at r1 r2
        obtain ⟨ad,r1⟩:=r1
        obtain ⟨⟨q1,q2⟩,h⟩:=h
        obtain ⟨m,rfl⟩:=Int.eq_ofNat_of_zero_le q1
        simp only[Int.toNat_natCast]at h
        rcases Nat.eq_zero_or_pos m with h0|h0
        ·subst h0
         simp only[Nat.lt_irrefl,decide_false,List.replicate_zero,List.flatten_nil]at h
         have hg:=hs.mem.ghost_put f3
         have hrun:(Builtin.append_ #[t,u] o.type #[.slice ad 0 0,.int .i64 ((0:Nat):Int)]).run P w=.ok (.slice ad 0 0) w:=by
          have hw:IntKind.i64.wrap (0:Int)=0:=by rw[IntKind.wrap_i64];rfl
          cases ad<;>simp[Builtin.append_,run_underlying e3,run_underlying e4,sizeOf,typeInfo,hi,asInt,asIntOf,hw,storeCells]
         refine val (v:=.slice ad 0 0) (w':=w) ?_ ?_
         ·simp only[Int.natCast_zero]at hrun
          simp[execOp,ho,resolve,invoke,builtin,r1,r2,hrun]
         ·rw[e0]
          refine hn _ _ _ _ _ h (hs.put hg.1 hg.2.1 f2 (hdl d e0) ?_) (hg.2.1.mono f1)
          simp only[rel]
          refine ⟨rfl,fun p' hp'=>?_⟩
          have:p'=⟨0,0,0,false⟩:=by have:=(show zan β w _ _=some p' from hp').symm.trans hg.2.2;simpa using this
          subst this
          exact ⟨by simp,fun _=>⟨by simp,ad,0,rfl,Nat.le_refl _,by simp⟩⟩
        ·have hm31:m<=2147483648:=by omega
         have hby:m*i.bytes<=140737488355328:=Nat.le_trans (Nat.mul_le_mul_left _ c3) (by omega)
         have hfo:(Builtin.firstCells i.size 0 (.slice ad 0 0)).run P w.drew=.ok #[] w.drew:=by cases ad<;>simp[Builtin.firstCells,loadCells,loadCellsFrom]
         have hrun:=Lib.run_append_grow_zeros (P:=P) w t u o.type e i zv .i64 kq e3 e4 hi hz ad 0 0 [] hfo m h0 c1 (by omega) (by omega) (by omega) (growslice_fits (by omega) (by simpa using hby))
         simp only[Nat.zero_add]at hrun
         have hge:=grownCap_ge w m 0 e
         rw[show decide (0<m)=true by simpa using h0]at h
         have hnew:=hs.new_sm (N:=N) (hdl d e0) (cs:=(List.replicate m (zeg z)).flatten) (m:=m) (sz:=i.size) (cap:=grownCap w m 0 e) (w':=w.drew.alloc (.cells ([].toArray++Builtin.zeroCells zv.cells m++Builtin.zeroCells zv.cells (grownCap w m 0 e-m)) e))
          rfl rfl rfl rfl (zhS (by rw[zcN e8];omega) _) (by rw[zcf,c2]) hge
          (by simp[size_zeroCells,hzs];rw[<-Nat.add_mul];exact Nat.mul_le_mul_right _ (by omega))
          (by
           have hz2:(Builtin.zeroCells zv.cells m).toList=(List.replicate m zv.cells.toList).flatten:=zew zv.cells m
           have:([].toArray++Builtin.zeroCells zv.cells m++Builtin.zeroCells zv.cells (grownCap w m 0 e-m)).toList.take (List.replicate m (zeg z)).flatten.length=(List.replicate m zv.cells.toList).flatten:=by
            simp only[Array.toList_append,hz2,List.nil_append]
            rw[List.take_left' (by rw[zcf,zcf,c2];simp[hzs])]
           rw[this]
           exact zkb hzr m)
         refine val (v:=.slice (some ⟨w.heap.size,0,none⟩) m (grownCap w m 0 e)) (w':=w.drew.alloc (.cells ([].toArray++Builtin.zeroCells zv.cells m++Builtin.zeroCells zv.cells (grownCap w m 0 e-m)) e)) ?_ ?_
         ·simp only[execOp,ho,resolve,invoke,builtin,r1,r2]
          simp[hrun,r1,r2]
         ·rw[e0];exact hn _ _ _ _ _ h hnew.1 hnew.2
       ·exact h.elim
      ·cases hc
     ·cases hc
    ·cases hc
   ·cases hc
  ·cases hc
 ·-- makeMap
  rename_i t ho
  simp only[Option.some.injEq]at hc
  subst hc
  simp only[AOp.dst]at hdst
  simp only[aop]at h
  have hnew:=hs.new_map (N:=N) (hdl _ hdst.symm)
  refine val (v:=.map (some w.heap.size)) (w':=w.alloc (.map #[] 0)) ?_ ?_
  ·simp[execOp,ho,Instr.makeMap]
  ·rw[<-hdst];exact hn _ _ _ _ _ h hnew.1 hnew.2
 ·-- mapUpdate
  rename_i t m k v ho
  split at hc
  ·rename_i kt vt e1
   split at hc
   ·rename_i dm dk dv e2 h1 h2 h3
    simp only[Option.some.injEq]at hc
    subst hc
    simp only[AOp.dst]at hdst
    have r1:=zaq hs.toKnows h1
    have r2:=zaq hs.toKnows h2
    have r3:=zaq hs.toKnows h3
    simp only[aop]at h
    split at h
    ·rename_i l b x em ek exv
     split at h
     ·rename_i kvs hg
      rw[em]at r1
      rw[ek]at r2
      rw[exv]at r3
      simp only[rel]at r1 r2 r3
      have hp:zan β w σ l=some ⟨β l,0,0,true⟩:=by unfold zan;rw[hg]
      have hm:=r1.2 _ hp rfl
      simp only at hm
      obtain ⟨es,clk,hh,hes⟩:=hs.mem.maps l kvs hg
      have hfk:(Instr.findKey kt (.int .i64 b) es.toList).run P w=.ok (ziv es.toList b 0) w:=by
       simp only[Instr.findKey,Sem.run_bind,run_underlying e2,Result.andThen_ok,zgF b es.toList kvs 0 hes,Sem.run_pure]
      have hck:=Go.MapKept.run_checkKey (w:=w) (k:=.int .i64 b) e2 rfl false 9999
      have hown:=hs.mem.own l _ hg rfl
      have hu:upd β l (β l)=β:=by funext k;unfold upd;split<;>simp_all
      have fin:∀ (es':Array MapEntry) (clk':Nat),es'.toList.map (fun e=>(e.key,e.val))=(zmA kvs b x).map (fun p=>(Value.int .i64 p.1,Value.int .i64 p.2)) ->
        (Instr.mapUpdate t (a.eval m) (a.eval k) (a.eval v)).run P w=.ok () { w with heap:=w.heap.setIfInBounds (β l) (.map es' clk') }->o.wp P a w za5 Q:=by
       intro es' clk' he hrun
       have hput:=hs.mem.put_imap (l:=l) (b':=β l) (kvs:=zmA kvs b x) (es:=es') (clk:=clk') (w':={ w with heap:=w.heap.setIfInBounds (β l) (.map es' clk') }) (N:=zaB N φ σ)
        (hs.mem.below.trans ⟨rfl,rfl,rfl,by simp,fun b' hb'=>(Go.MapKept.heap_set hh).2 b' (by omega)⟩) (by simp)
        (fun b' _ hne=>(Go.MapKept.heap_set hh).2 b' hne) (Go.MapKept.heap_set hh).1 hown.1 (fun l' o' hne e hr he=>hne (hs.mem.inj l' l o' _ e hg hr rfl he)) (.inr ⟨kvs,hg,rfl⟩) (fun hle=>by omega) f3 (fun hle=>by omega) he
       rw[hu]at hput
       unfold Oper.wp
       have hx:(execOp a.eval o).run P w=.ok .skip { w with heap:=w.heap.setIfInBounds (β l) (.map es' clk') }:=by simp only[execOp,ho,Sem.run_bind,hrun,Result.andThen_ok,Sem.run_pure]
       rw[hx]
       show za5 (a.put o.dst undef) _
       rw[<-hdst]
       exact hn _ _ _ _ _ h (hs.keep hput.1 hput.2.1 f2) (hput.2.1.mono f1)
      rcases zlI b x es.toList kvs 0 hes with ⟨g1,g2⟩|⟨j,y,e',g1,g2,g3,g4⟩
      ·rw[g1]at hfk
       refine fin (es.push { key:=.int .i64 b,val:=.int .i64 x,born:=clk }) (clk+1) (by rw[g2];simp[hes]) ?_
       rw[hm,r2,r3]
       simp only[Instr.mapUpdate,Sem.run_bind,run_underlying e1,Result.andThen_ok,Go.MapKept.run_getObj_map hh,hck,hfk,Go.MapKept.run_setObj_map _ hh]
      ·rw[g1,Nat.zero_add]at hfk
       refine fin (es.modify j fun e=>{ e with key:=.int .i64 b,val:=.int .i64 x }) clk (by rw[<-g4];simp) ?_
       rw[hm,r2,r3]
       have g5:es[j]?=some e':=by simpa using g2
       have hks:(Instr.keyThatStays (.int .i64 b) (.int .i64 b)).run P w=.ok (.int .i64 b) w:=Go.MapKept.run_keyThatStays (d:=.int .i64) rfl
       simp only[Instr.mapUpdate,Sem.run_bind,run_underlying e1,Result.andThen_ok,Go.MapKept.run_getObj_map hh,hck,hfk,g5,Option.map_some,Option.getD_some,g3,hks,Go.MapKept.run_setObj_map _ hh]
     ·exact h.elim
    ·exact h.elim
   ·cases hc
  ·cases hc
 ·cases hc
end
section
variable {P:Program} {inv:Nat->Option Nat} {w0:World} {M:Nat->Prop} {n N:Nat} {φ:AF} {σ:AS} {β:Nat->Nat} {a:Act} {w:World}
theorem znI (hE:zca P inv) (hM:∀ b,M b->b<w0.heap.size) (hs:St inv w0 M n φ σ β a w) {o:Oper} {op:AOp} (hc:zbB P inv n o=some op) {K:AF->AS->Prop} (h:aop P inv w0 M N op φ σ K)
  {za5:Act->World->Prop} {Q:Exit->Act->World->Prop} (hn:∀ φ' σ' β' a' w',K φ' σ'->St inv w0 M n φ' σ' β' a' w'->Ext N (ctx inv M σ β w) (ctx inv M σ' β' w')->za5 a' w'):o.wp P a w za5 Q:=by
 unfold zbB at hc
 split at hc
 ·rename_i e he
  split at hc
  ·rename_i d hd
   split at hc
   ·rename_i hlt
    simp only[Option.some.injEq]at hc
    subst hc
    obtain ⟨x,y,hk,hr,hrun⟩:=zpa hs.toKnows he (K:=fun x=>K (zbE φ d x) σ) h
    unfold Oper.wp
    rw[hrun]
    show za5 (a.put o.dst y) w
    rw[hd]
    exact hn _ _ _ _ _ hk (hs.set hlt hr) (.refl _ _)
   ·cases hc
  ·cases hc
 ·split at hc
  ·rename_i op' he
   split at hc
   ·rename_i hcond
    simp only[Option.some.injEq]at hc
    subst hc
    exact zrk hE hM hs he hcond.1 hcond.2 h hn
   ·cases hc
  ·split at hc
   ·simp only[Option.some.injEq]at hc
    subst hc
    exact h.elim
   ·cases hc
theorem zd7 {o:Oper} {op:AOp} (hc:zbB P inv n o=some op):op.dst=o.dst/\zlP n o.dst=true:=by
 unfold zbB at hc
 split at hc
 ·split at hc
  ·rename_i d hd
   split at hc
   ·rename_i hlt
    simp only[Option.some.injEq]at hc
    subst hc
    exact ⟨hd.symm,by rw[hd];simpa [zlP] using hlt⟩
   ·cases hc
  ·cases hc
 ·split at hc
  ·split at hc
   ·rename_i hcond
    simp only[Option.some.injEq]at hc
    subst hc
    exact hcond
   ·cases hc
  ·split at hc
   ·rename_i hcond
    simp only[Option.some.injEq]at hc
    subst hc
    exact ⟨rfl,hcond⟩
   ·cases hc
theorem St.skip (hs:St inv w0 M n φ σ β a w) {d:Option Nat} (hd:zlP n d=true):St inv w0 M n (zcS φ d .u) σ β (a.put d undef) w:=by
 cases d with
 |none=>exact hs
 |some d=>exact hs.set (zrm hd d rfl) (by simp only[rel])
theorem St.known (hs:St inv w0 M n φ σ β a w) {s:Nat} {x:AV} (h:∀ y,rel (ctx inv M σ β w) (zbs φ s) y->rel (ctx inv M σ β w) x y):St inv w0 M n (zbE φ s x) σ β a w:=by
 refine ⟨⟨fun i=>?_,hs.mem⟩,hs.size,hs.defers⟩
 rw[zbV]
 split
 ·rename_i e;rw[e];exact h _ (hs.slots s)
 ·exact hs.slots i
theorem zjb {ops:Array Oper} {j s:Nat} (hj:(ops[j]?).bind (·.dst)=some s) (hs:s<a.tmps.size):yielded ops a.tmps j=match a.tmps.getD s undef with|.bool b=>some b|_=>none:=by
 have h:a.tmps[s]?=some (a.tmps.getD s undef):=by simp[hs]
 simp only[yielded,hj,Option.bind_some,h]
 cases a.tmps.getD s undef<;>rfl
theorem zic (hE:zca P inv) (hM:∀ b,M b->b<w0.heap.size) {ops:Array Oper} {Q:Exit->Act->World->Prop} {K:AF->AS->Prop} :
  ∀ {l:List Oper} {al:List GOp} {φ:AF} {σ:AS} {β:Nat->Nat} {a:Act} {w:World},zbw P inv n ops l=some al->zbL P inv w0 M N al K φ σ->St inv w0 M n φ σ β a w ->
   (∀ φ' σ' β' a' w',K φ' σ'->St inv w0 M n φ' σ' β' a' w'->Ext N (ctx inv M σ β w) (ctx inv M σ' β' w')->Q .normal a' w')->wpList P ops Q l a w
 |[],al,φ,σ,β,a,w,hc,h,hs,hn=>by
  simp only[zbw,Option.some.injEq]at hc
  subst hc
  exact hn _ _ _ _ _ h hs (.refl _ _)
 |o::l,al,φ,σ,β,a,w,hc,h,hs,hn=>by
  simp only[zbw]at hc
  split at hc
  ·rename_i g op al' hg hop hal
   simp only[Option.some.injEq]at hc
   subst hc
   obtain ⟨hd1,hd2⟩:=zd7 hop
   have go:∀ {φ:AF},St inv w0 M n φ σ β a w->Region.wanted o (yielded ops a.tmps)=true->aop P inv w0 M N op φ σ (zbL P inv w0 M N al' K)->wpList P ops Q (o::l) a w:=by
    intro φ hs hw h
    unfold wpList
    rw[if_pos hw]
    refine .inl (znI hE hM hs hop h fun φ' σ' β' a' w' hk hst hext=>?_)
    exact zic hE hM hal hk hst fun φ2 σ2 β2 a2 w2 k2 s2 e2=>hn _ _ _ _ _ k2 s2 (hext.trans e2)
   have skip:∀ {φ:AF},St inv w0 M n φ σ β a w->Region.wanted o (yielded ops a.tmps)=false->zbL P inv w0 M N al' K (zcS φ op.dst .u) σ->wpList P ops Q (o::l) a w:=by
    intro φ hs hw h
    refine wpList_skip hw ?_
    rw[hd1]at h
    exact zic hE hM hal h (hs.skip hd2) hn
   cases hgd:o.guard with
   |none =>
    rw[hgd]at hg
    simp only[zfd,Option.some.injEq]at hg
    subst hg
    exact go hs (by simp[Region.wanted,hgd]) h
   |some jw =>
    obtain ⟨j,want⟩:=jw
    rw[hgd]at hg
    simp only[zfd]at hg
    split at hg
    ·rename_i s hj
     split at hg
     ·rename_i hlt
      simp only[Option.some.injEq]at hg
      subst hg
      have hy:=zjb (a:=a) hj (by rw[hs.size];exact hlt)
      have hsl:=hs.slots s
      have hcs:(∃ t,zbs φ s=.b t/\(t=want->aop P inv w0 M N op φ σ (zbL P inv w0 M N al' K))/\(¬t=want->zbL P inv w0 M N al' K (zcS φ op.dst .u) σ))\/(zbs φ s=.u/\zbL P inv w0 M N al' K (zcS φ op.dst .u) σ):=by
       cases want<;>simp only[zbL]at h<;>split at h
       all_goals first|exact h.elim|skip
       ·rename_i t et
        refine .inl ⟨t,et,fun e=>?_,fun e=>?_⟩
        ·have:=h.2 e;rwa [zd3 (by rw[et,e])]at this
        ·have e':t=true:=by simpa using e
         have:=h.1 e';rwa [zd3 (by rw[et,e'])]at this
       ·rename_i et;exact .inr ⟨et,h⟩
       ·rename_i t et
        refine .inl ⟨t,et,fun e=>?_,fun e=>?_⟩
        ·have:=h.1 e;rwa [zd3 (by rw[et,e])]at this
        ·have e':t=false:=by simpa using e
         have:=h.2 e';rwa [zd3 (by rw[et,e'])]at this
       ·rename_i et;exact .inr ⟨et,h⟩
      rcases hcs with ⟨t,et,h1,h2⟩|⟨et,h⟩
      ·rw[et]at hsl
       simp only[rel]at hsl
       have hw:Region.wanted o (yielded ops a.tmps)=decide (t=want):=by
        simp only[Region.wanted,hgd,hy,hsl]
        cases t<;>cases want<;>rfl
       by_cases htw:t=want
       ·exact go hs (by rw[hw];simpa using htw) (h1 htw)
       ·exact skip hs (by rw[hw];simpa using htw) (h2 htw)
      ·rw[et]at hsl
       simp only[rel]at hsl
       refine skip hs ?_ h
       simp only[Region.wanted,hgd,hy,hsl]
       rfl
     ·cases hg
    ·cases hg
  ·cases hc
theorem AWp.mono {c:ACode} {Q Q':Exit->AF->AS->Prop} (hq:∀ e φ σ,Q e φ σ->Q' e φ σ) (h:AWp P inv w0 M N n c Q φ σ):AWp P inv w0 M N n c Q' φ σ :=
 fun c₀ hc β a w hs=>Code.wp_mono (fun _ _ _ ⟨φ',σ',β',q,r⟩=>⟨φ',σ',β',hq _ _ _ q,r⟩) (h c₀ hc β a w hs)
theorem zd6 {prs:List (List Nat)} {gs:List GOp} {k:Nat} {c:ACode} (h:drawn prs gs k=some c):∃ l,c=.regd k l:=by
 unfold drawn at h
 simp only at h
 split at h
 ·simp only[Option.some.injEq]at h;exact ⟨_,h.symm⟩
 ·split at h
  ·simp only[Option.some.injEq]at h;exact ⟨_,h.symm⟩
  ·cases h
theorem zaW {ops:Array Oper} {c:ACode} (h:zgb P inv n ops=some c):∃ kl:Nat×List GOp,c=.regd kl.1 kl.2:=by
 unfold zgb at h
 split at h
 ·split at h
  ·rename_i e
   simp only[Option.some.injEq]at h
   obtain ⟨l,rfl⟩:=zd6 e
   exact ⟨(_,l),h.symm⟩
  ·obtain ⟨l,rfl⟩:=zd6 h
   exact ⟨(_,l),rfl⟩
 ·cases h
theorem inv_skip {c₀:Code} (h:zap P inv n c₀=some .skip):c₀=.skip:=by
 unfold zap at h
 split at h<;>first|rfl|(cases h;done)|(obtain ⟨_,e⟩:=zaW h;cases e;done)|(obtain ⟨_,_,e⟩:=Option.map_eq_some_iff.1 h;cases e;done)|(split at h<;>simp at h)
theorem inv_exit {c₀:Code} {id:Nat} (h:zap P inv n c₀=some (.exit id)):c₀=.exit id:=by
 unfold zap at h
 split at h<;>first|(cases h;done)|(obtain ⟨_,e⟩:=zaW h;cases e;done)|(obtain ⟨_,_,e⟩:=Option.map_eq_some_iff.1 h;cases e;done)|(simp only[Option.some.injEq,ACode.exit.injEq]at h;rw[h];done)|(split at h<;>simp at h)
theorem inv_ret {c₀:Code} (h:zap P inv n c₀=some .ret):c₀=.ret:=by
 unfold zap at h
 split at h<;>first|rfl|(cases h;done)|(obtain ⟨_,e⟩:=zaW h;cases e;done)|(obtain ⟨_,_,e⟩:=Option.map_eq_some_iff.1 h;cases e;done)|(split at h<;>simp at h)
theorem inv_reg {c₀:Code} {l:List GOp} (h:zap P inv n c₀=some (.reg l)):∃ id ops,c₀=.region id ops false/\zbw P inv n ops ops.toList=some l:=by
 unfold zap at h
 split at h<;>first|(cases h;done)|(obtain ⟨_,e⟩:=zaW h;cases e;done)|(obtain ⟨l',h1,e⟩:=Option.map_eq_some_iff.1 h;cases e;exact ⟨_,_,rfl,h1⟩)|(obtain ⟨_,_,e⟩:=Option.map_eq_some_iff.1 h;cases e;done)|(split at h<;>simp at h)
theorem inv_seq {c₀:Code} {x y:ACode} (h:zap P inv n c₀=some (.seq x y)):∃ x₀ y₀,c₀=.seq x₀ y₀/\zap P inv n x₀=some x/\zap P inv n y₀=some y:=by
 unfold zap at h
 split at h<;>first|(cases h;done)|(obtain ⟨_,e⟩:=zaW h;cases e;done)|(obtain ⟨_,_,e⟩:=Option.map_eq_some_iff.1 h;cases e;done)|skip
 all_goals (split at h<;>first|(cases h;done)|skip)
 all_goals (simp only[Option.some.injEq,ACode.seq.injEq]at h)
 rename_i h1 h2
 exact ⟨_,_,rfl,by rw[h1,h.1],by rw[h2,h.2]⟩
theorem inv_cond {c₀:Code} {c:Opd} {x y:ACode} (h:zap P inv n c₀=some (.cond c x y)):∃ d x₀ y₀,c₀=.cond d x₀ y₀/\zc9 P inv 0 d=some c/\zap P inv n x₀=some x/\zap P inv n y₀=some y:=by
 unfold zap at h
 split at h<;>first|(cases h;done)|(obtain ⟨_,e⟩:=zaW h;cases e;done)|(obtain ⟨_,_,e⟩:=Option.map_eq_some_iff.1 h;cases e;done)|skip
 all_goals (split at h<;>first|(cases h;done)|skip)
 all_goals (simp only[Option.some.injEq,ACode.cond.injEq]at h)
 rename_i h1 h2 h3
 exact ⟨_,_,_,rfl,by rw[h1,h.1],by rw[h2,h.2.1],by rw[h3,h.2.2]⟩
theorem zqT {c₀:Code} {id:Nat} {x:ACode} (h:zap P inv n c₀=some (.block id x)):∃ x₀,c₀=.block id x₀/\zap P inv n x₀=some x:=by
 unfold zap at h
 split at h<;>first|(cases h;done)|(obtain ⟨_,e⟩:=zaW h;cases e;done)|(obtain ⟨l',h1,e⟩:=Option.map_eq_some_iff.1 h;cases e;exact ⟨_,rfl,h1⟩)|(obtain ⟨_,_,e⟩:=Option.map_eq_some_iff.1 h;cases e;done)|(split at h<;>simp at h)
theorem inv_loop {c₀:Code} {x:ACode} (h:zap P inv n c₀=some (.loop x)):∃ x₀,c₀=.loop x₀/\zap P inv n x₀=some x:=by
 unfold zap at h
 split at h<;>first|(cases h;done)|(obtain ⟨_,e⟩:=zaW h;cases e;done)|(obtain ⟨l',h1,e⟩:=Option.map_eq_some_iff.1 h;cases e;exact ⟨_,rfl,h1⟩)|(obtain ⟨_,_,e⟩:=Option.map_eq_some_iff.1 h;cases e;done)|(split at h<;>simp at h)
theorem AWp.skip {Q:Exit->AF->AS->Prop} (h:Q .normal φ σ):AWp P inv w0 M N n .skip Q φ σ:=by
 intro c₀ hc β a w hs
 rw[inv_skip hc]
 exact wp_skip ⟨φ,σ,β,h,hs,.refl _ _⟩
theorem AWp.exit {id:Nat} {Q:Exit->AF->AS->Prop} (h:Q (.exit id) φ σ):AWp P inv w0 M N n (.exit id) Q φ σ:=by
 intro c₀ hc β a w hs
 rw[inv_exit hc]
 exact wp_exit ⟨φ,σ,β,h,hs,.refl _ _⟩
theorem AWp.ret {Q:Exit->AF->AS->Prop} (h:Q .ret φ σ):AWp P inv w0 M N n .ret Q φ σ:=by
 intro c₀ hc β a w hs
 rw[inv_ret hc]
 exact wp_ret ⟨φ,σ,β,h,hs,.refl _ _⟩
theorem AWp.reg (hE:zca P inv) (hM:∀ b,M b->b<w0.heap.size) {l:List GOp} {Q:Exit->AF->AS->Prop} (h:zbL P inv w0 M N l (Q .normal) φ σ):AWp P inv w0 M N n (.reg l) Q φ σ:=by
 intro c₀ hc β a w hs
 obtain ⟨id,ops,rfl,hl⟩:=inv_reg hc
 exact wp_region_list (zic hE hM hl h hs fun φ' σ' β' a' w' hk hst hext=>⟨φ',σ',β',hk,hst,hext⟩)
def zpm (K:AF->AS->Prop) (Q:Exit->AF->AS->Prop):Exit->AF->AS->Prop
 |.normal,φ,σ=>K φ σ
 |e,φ,σ=>Q e φ σ
theorem AWp.seq {x y:ACode} {Q:Exit->AF->AS->Prop} (h:∀ K:AF->AS->Prop,(∀ φ σ,AWp P inv w0 M N n y Q φ σ->K φ σ)->AWp P inv w0 M N n x (zpm K Q) φ σ):AWp P inv w0 M N n (.seq x y) Q φ σ:=by
 intro c₀ hc β a w hs
 obtain ⟨x₀,y₀,rfl,hx,hy⟩:=inv_seq hc
 refine wp_seq ?_
 refine Code.wp_mono ?_ (h _ (fun _ _ h=>h) x₀ hx β a w hs)
 rintro e a' w' ⟨φ',σ',β',q,hst,hext⟩
 cases e with
 |normal=>exact Code.wp_mono (fun _ _ _ ⟨φ2,σ2,β2,q2,hst2,hext2⟩=>⟨φ2,σ2,β2,q2,hst2,hext.trans hext2⟩) (q y₀ hy β' a' w' hst)
 |exit id=>exact ⟨φ',σ',β',q,hst,hext⟩
 |goto l=>exact ⟨φ',σ',β',q,hst,hext⟩
 |ret=>exact ⟨φ',σ',β',q,hst,hext⟩
 |panic ch=>exact ⟨φ',σ',β',q,hst,hext⟩
 |outgrown=>exact ⟨φ',σ',β',q,hst,hext⟩
theorem AWp.cond {c:Opd} {x y:ACode} {Q:Exit->AF->AS->Prop} {t:Bool} (ht:ev φ c=.b t) (h1:t=true->AWp P inv w0 M N n x Q φ σ) (h2:t=false->AWp P inv w0 M N n y Q φ σ):AWp P inv w0 M N n (.cond c x y) Q φ σ:=by
 intro c₀ hc β a w hs
 obtain ⟨d,x₀,y₀,rfl,hd,hx,hy⟩:=inv_cond hc
 have hr:=zaq hs.toKnows hd
 rw[ht]at hr
 simp only[rel]at hr
 exact wp_cond_split hr (fun e=>h1 e x₀ hx β a w hs) (fun e=>h2 e y₀ hy β a w hs)
def znd (id:Nat) (Q:Exit->AF->AS->Prop):Exit->AF->AS->Prop
 |.exit id',φ,σ=>if id'=id then Q .normal φ σ else Q (.exit id') φ σ
 |e,φ,σ=>Q e φ σ
theorem AWp.block {id:Nat} {x:ACode} {Q:Exit->AF->AS->Prop} (h:AWp P inv w0 M N n x (znd id Q) φ σ):AWp P inv w0 M N n (.block id x) Q φ σ:=by
 intro c₀ hc β a w hs
 obtain ⟨x₀,rfl,hx⟩:=zqT hc
 refine wp_block ?_
 refine Code.wp_mono ?_ (h x₀ hx β a w hs)
 rintro e a' w' ⟨φ',σ',β',q,hst,hext⟩
 cases e with
 |exit id' =>
  simp only[znd]at q
  simp only[Exit.inBlock]
  split
  ·rename_i e;rw[if_pos e]at q;exact ⟨φ',σ',β',q,hst,hext⟩
  ·rename_i e;rw[if_neg e]at q;exact ⟨φ',σ',β',q,hst,hext⟩
 |normal=>exact ⟨φ',σ',β',q,hst,hext⟩
 |goto l=>exact ⟨φ',σ',β',q,hst,hext⟩
 |ret=>exact ⟨φ',σ',β',q,hst,hext⟩
 |panic ch=>exact ⟨φ',σ',β',q,hst,hext⟩
 |outgrown=>exact ⟨φ',σ',β',q,hst,hext⟩
def zhf:List (Nat×AV)->AF->Prop
 |[],_=>True
 |(i,x)::r,φ=>zbs φ i=x/\zhf r φ
def zfA:List (Nat×AO)->AS->Prop
 |[],_=>True
 |(l,o)::r,σ=>zaF σ l=some o/\zfA r σ
theorem zkz:∀ {φ' φ:AF},zhf φ' φ->∀ i,zbs φ' i=.top\/zbs φ' i=zbs φ i
 |[],_,_,i=>.inl rfl
 |(j,x)::r,φ,h,i=>by
  simp only[zhf]at h
  simp only[zbs]
  split
  ·rename_i e;subst e;exact .inr h.1.symm
  ·exact zkz h.2 i
theorem zeE:∀ {σ' σ:AS},zfA σ' σ->∀ l o,zaF σ' l=some o->zaF σ l=some o
 |[],_,_,l,o,h=>by simp[zaF]at h
 |(j,x)::r,σ,hs,l,o,h=>by
  simp only[zfA]at hs
  simp only[zaF]at h
  split at h
  ·rename_i e;subst e;simp only[Option.some.injEq]at h;subst h;exact hs.1
  ·exact zeE hs.2 l o h
theorem St.sub {φ':AF} {σ':AS} (hs:St inv w0 M n φ σ β a w) (h1:zhf φ' φ) (h2:zfA σ' σ) (N1:Nat):St inv w0 M n φ' σ' β a w/\Ext N1 (ctx inv M σ β w) (ctx inv M σ' β w):=by
 have hd:=fun N=>hs.mem.drop (zeE h2) N
 refine ⟨⟨⟨fun i=>?_,(hd 0).1⟩,hs.size,hs.defers⟩,(hd N1).2⟩
 rcases zkz h1 i with e|e
 ·rw[e];simp only[rel]
 ·rw[e];exact (hd (zaS φ)).2.rel (zaO _ (zbQ φ i)) (hs.slots i)
theorem AWp.sub {φ':AF} {σ':AS} {c:ACode} {Q:Exit->AF->AS->Prop} (h:AWp P inv w0 M N n c Q φ' σ') (h1:zhf φ' φ) (h2:zfA σ' σ):AWp P inv w0 M N n c Q φ σ:=by
 intro c₀ hc β a w hs
 obtain ⟨hs',hx⟩:=hs.sub h1 h2 N
 exact Code.wp_mono (fun _ _ _ ⟨φ2,σ2,β2,q2,hst2,hext2⟩=>⟨φ2,σ2,β2,q2,hst2,hx.trans hext2⟩) (h c₀ hc β a w hs')
theorem AWp.loop {x:ACode} {Q:Exit->AF->AS->Prop} (I:Nat->AF->AS->Prop) (m:Nat) (h0:∃ φ' σ',I m φ' σ'/\zhf φ' φ/\zfA σ' σ)
  (hr:∀ m φ σ,I m φ σ->AWp P inv w0 M N n x (zpm (fun φ' σ'=>∃ m' φ2 σ2,m'<m/\I m' φ2 σ2/\zhf φ2 φ'/\zfA σ2 σ') Q) φ σ):AWp P inv w0 M N n (.loop x) Q φ σ:=by
 intro c₀ hc β a w hs
 obtain ⟨x₀,rfl,hx⟩:=inv_loop hc
 obtain ⟨φ0,σ0,hI,hf,hss⟩:=h0
 obtain ⟨hs0,he0⟩:=hs.sub hf hss N
 refine Code.wp_mono (fun _ _ _ h=>h) (wp_loop_ghost (fun m' a' w'=>∃ φ' σ' β',I m' φ' σ'/\St inv w0 M n φ' σ' β' a' w'/\Ext N (ctx inv M σ β w) (ctx inv M σ' β' w')) m ⟨φ0,σ0,β,hI,hs0,he0⟩ ?_)
 rintro m1 a1 w1 ⟨φ1,σ1,β1,hI1,hs1,he1⟩
 refine Code.wp_mono ?_ (hr m1 φ1 σ1 hI1 x₀ hx β1 a1 w1 hs1)
 rintro e a2 w2 ⟨φ2,σ2,β2,q,hst,hext⟩
 cases e with
 |normal =>
  obtain ⟨m',φ3,σ3,hlt,hI3,hf3,hs3⟩:=q
  obtain ⟨hst3,hext3⟩:=hst.sub hf3 hs3 N
  exact ⟨m',hlt,φ3,σ3,β2,hI3,hst3,he1.trans (hext.trans hext3)⟩
 |exit id=>exact ⟨φ2,σ2,β2,q,hst,he1.trans hext⟩
 |goto l=>exact ⟨φ2,σ2,β2,q,hst,he1.trans hext⟩
 |ret=>exact ⟨φ2,σ2,β2,q,hst,he1.trans hext⟩
 |panic ch=>exact ⟨φ2,σ2,β2,q,hst,he1.trans hext⟩
 |outgrown=>exact ⟨φ2,σ2,β2,q,hst,he1.trans hext⟩
end
mutual
def za0 (f:Nat->Option (List AV)):AV->AV
 |.agg cs=>.agg (zck f cs)
 |.tup cs=>.tup (zck f cs)
 |.fn j cs=>.fn j (zck f cs)
 |.s0 sz=>.sl sz []
 |.ptr l ver off=>match f l with
  |some cs=>if cs.length=ver/\0<ver then .ip ver [cs] 0 off else .top
  |none=>.top
 |.sm l ver off n sz=>match f l with
  |some cs=>if cs.length=ver/\off+n*sz<=ver then .sl sz (zb2 sz n (cs.drop off)) else .top
  |none=>.top
 |.mp _=>.top
 |.i k n=>.i k n
 |.b t=>.b t
 |.v x=>.v x
 |.u=>.u
 |.sl sz es=>.sl sz es
 |.ip sz es i k=>.ip sz es i k
 |.top=>.top
def zck (f:Nat->Option (List AV)):List AV->List AV
 |[]=>[]
 |x::xs=>za0 f x::zck f xs
end
def zg9:Nat->AS->Nat->Option (List AV)
 |0,_,_=>none
 |k+1,σ,l=>match zaF σ l with
  |some (.cells cs _)=>some (zck (zg9 k σ) cs)
  |_=>none
def zeF (k:Nat) (σ:AS) (x:AV):AV:=za0 (zg9 k σ) x
def zb3 (k:Nat) (σ:AS) (xs:List AV):List AV:=zck (zg9 k σ) xs
mutual
def AV.scalar:AV->Bool
 |.agg cs=>zcj cs
 |.tup cs=>zcj cs
 |.i _ _=>true|.b _=>true|.v _=>true|.u=>true|.s0 _=>true
 |.sl _ es=>es.isEmpty
 |.ip _ _ _ _=>false|.ptr _ _ _=>false|.sm _ _ _ _ _=>false|.mp _=>false|.fn _ _=>false|.top=>true
def zcj:List AV->Bool
 |[]=>true
 |x::xs=>x.scalar&&zcj xs
end
mutual
theorem zgr {c c':Ctx}:∀ (x:AV) (y:Value),x.scalar=true->rel c x y->rel c' x y
 |.agg cs,y,s,r=>by
  simp only[rel]at r |-
  obtain ⟨xs,e,r⟩:=r
  exact ⟨xs,e,zgQ cs _ (by simpa only[AV.scalar] using s) r⟩
 |.tup cs,y,s,r=>by
  simp only[rel]at r |-
  obtain ⟨xs,e,r⟩:=r
  exact ⟨xs,e,zhL cs _ (by simpa only[AV.scalar] using s) r⟩
 |.i _ _,_,_,r=>by simpa only[rel] using r
 |.b _,_,_,r=>by simpa only[rel] using r
 |.v _,_,_,r=>by simpa only[rel] using r
 |.u,_,_,r=>by simpa only[rel] using r
 |.s0 _,_,_,r=>by simpa only[rel] using r
 |.sl sz es,y,s,r=>by
  simp only[AV.scalar,List.isEmpty_iff]at s
  subst s
  simp only[rel]at r |-
  obtain ⟨ad,cap,e,h,_⟩:=r
  exact ⟨ad,cap,e,h,fun h=>absurd rfl h⟩
 |.ip _ _ _ _,_,s,_=>by simp[AV.scalar]at s
 |.ptr _ _ _,_,s,_=>by simp[AV.scalar]at s
 |.sm _ _ _ _ _,_,s,_=>by simp[AV.scalar]at s
 |.mp _,_,s,_=>by simp[AV.scalar]at s
 |.fn _ _,_,s,_=>by simp[AV.scalar]at s
 |.top,_,_,_=>by simp only[rel]
theorem zhL {c c':Ctx}:∀ (xs:List AV) (ys:List Value),zcj xs=true->zbZ c xs ys->zbZ c' xs ys
 |[],_,_,r=>by simpa only[zbZ] using r
 |x::xs,ys,s,r=>by
  simp only[zcj,Bool.and_eq_true]at s
  simp only[zbZ]at r |-
  obtain ⟨y,ys',e,r1,r2⟩:=r
  exact ⟨y,ys',e,zgr x y s.1 r1,zhL xs ys' s.2 r2⟩
theorem zgQ {c c':Ctx}:∀ (xs:List AV) (ys:List Value),zcj xs=true->relCs c xs ys->relCs c' xs ys
 |[],_,_,r=>by simpa only[relCs] using r
 |x::xs,ys,s,r=>by
  simp only[zcj,Bool.and_eq_true]at s
  simp only[relCs]at r |-
  obtain ⟨y,ys',e,ho,r1,r2⟩:=r
  exact ⟨y,ys',e,ho,zgr x y s.1 r1,zgQ xs ys' s.2 r2⟩
end
section
variable {P:Program} {inv:Nat->Option Nat} {w0:World} {M:Nat->Prop} {n N:Nat} {φ:AF} {σ:AS} {β:Nat->Nat} {a:Act} {w:World}
def zpf (c':Ctx) (σ:AS) (β:Nat->Nat) (f:Nat->Option (List AV)):Prop :=
 ∀ l cs',f l=some cs'->∃ cs r,zaF σ l=some (.cells cs r)/\cs'.length=cs.length/\zag cs'=true/\(r=true->∃ ys:List Value,relCs c' cs' ys/\∀ j u,ys[j]?=some u->c'.w.cell? ⟨β l,j,none⟩=some u)
theorem zdo (f:Nat->Option (List AV)):∀ (xs:List AV),(zck f xs).length=xs.length
 |[]=>by simp[zck]
 |x::xs=>by simp[zck,zdo f xs]
mutual
theorem zgp {c':Ctx} {f:Nat->Option (List AV)} (hf:zpf c' σ β f):∀ (x:AV),(za0 f x).bare=true
 |.agg cs=>by simp only[za0,AV.bare];exact zdI hf cs
 |.tup cs=>by simp only[za0,AV.bare];exact zdI hf cs
 |.fn j cs=>by simp only[za0,AV.bare];exact zdI hf cs
 |.s0 sz=>by simp only[za0,AV.bare]
 |.ptr l ver off=>by
  simp only[za0]
  split
  ·split<;>simp only[AV.bare]
  ·simp only[AV.bare]
 |.sm l ver off n sz=>by
  simp only[za0]
  split
  ·split<;>simp only[AV.bare]
  ·simp only[AV.bare]
 |.mp _=>by simp only[za0,AV.bare]
 |.i _ _=>by simp only[za0,AV.bare]
 |.b _=>by simp only[za0,AV.bare]
 |.v _=>by simp only[za0,AV.bare]
 |.u=>by simp only[za0,AV.bare]
 |.sl _ _=>by simp only[za0,AV.bare]
 |.ip _ _ _ _=>by simp only[za0,AV.bare]
 |.top=>by simp only[za0,AV.bare]
theorem zdI {c':Ctx} {f:Nat->Option (List AV)} (hf:zpf c' σ β f):∀ (xs:List AV),zag (zck f xs)=true
 |[]=>by simp only[zck,zag]
 |x::xs=>by simp only[zck,zag,zgp hf x,zdI hf xs,Bool.and_self]
end
mutual
theorem zfB (hm:Mem inv w0 M σ β w) (hM:∀ b,M b->b<w0.heap.size) {A':Nat->Prop} (hA:∀ b,A' b->M b) {f:Nat->Option (List AV)} (hf:zpf ⟨inv,w,A',fun _=>none⟩ σ β f):∀ (x:AV) (y:Value),rel (ctx inv M σ β w) x y->rel ⟨inv,w,A',fun _=>none⟩ (za0 f x) y
 |.agg cs,y,r=>by
  simp only[za0,rel]at r |-
  obtain ⟨xs,e,r⟩:=r
  exact ⟨xs,e,zgq hm hM hA hf cs _ r⟩
 |.tup cs,y,r=>by
  simp only[za0,rel]at r |-
  obtain ⟨xs,e,r⟩:=r
  exact ⟨xs,e,zep hm hM hA hf cs _ r⟩
 |.fn j cs,y,r=>by
  simp only[za0,rel]at r |-
  obtain ⟨g,xs,e,hi,r⟩:=r
  exact ⟨g,xs,e,hi,zep hm hM hA hf cs _ r⟩
 |.s0 sz,y,r=>by
  simp only[za0,rel]at r |-
  obtain ⟨ad,e⟩:=r
  exact ⟨ad,0,e,Nat.le_refl _,fun h=>absurd rfl h⟩
 |.ptr l ver off,y,r=>by
  simp only[za0]
  split
  ·rename_i cs' e
   split
   ·rename_i hl
    obtain ⟨cs,rl,hg,h1,h2,h3⟩:=hf l cs' e
    have hlive:zb9 σ l ver:=by unfold zb9;rw[hg];show cs.length=ver;omega
    obtain ⟨p,hp,_,rfl⟩:=zdr hlive r
    have hrl:rl=true:=by
     cases rl with
     |true=>rfl
     |false=>have:=hm.ghost l cs hg;subst this;simp only[List.length_nil]at h1;omega
    subst hrl
    obtain ⟨ys,h4,h5⟩:=h3 rfl
    have hpb:p.block=β l:=by unfold zan at hp;rw[hg]at hp;cases hp;rfl
    have hown:=hm.own l _ hg rfl
    simp only[rel]
    refine ⟨⟨β l,0,none⟩,by simp[zcu,hpb],fun ha=>by have:=hM _ (hA _ ha);simp only at this;omega,hown.2, ?_⟩
    simp only[zaE,and_true]
    refine ⟨hl.1,zfO h2 h4 fun j u hu=>?_⟩
    rw[zcu]
    have:=h5 j u hu
    simpa using this
   ·simp only[rel]
  ·simp only[rel]
 |.sm l ver off m sz,y,r=>by
  simp only[za0]
  split
  ·rename_i cs' e
   split
   ·rename_i hl
    obtain ⟨cs,rl,hg,h1,h2,h3⟩:=hf l cs' e
    have hlive:zb9 σ l ver:=by unfold zb9;rw[hg];show cs.length=ver;omega
    obtain ⟨p,ad,cap,hp,hv,hb,rfl,hcap,hr⟩:=zdW hlive r
    simp only[rel]
    refine ⟨ad,cap,by rw[zcs],by rw[zcs];exact hcap,fun hne=>?_⟩
    have hm0:0<m:=by
     rcases Nat.eq_zero_or_pos m with e0|e0
     ·subst e0;exact absurd rfl hne
     ·exact e0
    have hrl:rl=true:=by
     cases rl with
     |true=>rfl
     |false=>unfold zan at hp;rw[hg]at hp;cases hp;simp at hr;omega
    subst hrl
    have hpe:p=⟨β l,cs.length,zaY w (β l),true⟩:=by unfold zan at hp;rw[hg]at hp;cases hp;rfl
    subst hpe
    simp only[if_true]at hr
    obtain ⟨ys,h4,h5⟩:=h3 rfl
    have hown:=hm.own l _ hg rfl
    refine ⟨_,hr.1.resolve_left (by omega),fun ha=>by have:=hM _ (hA _ ha);simp only at this;omega,hown.2, ?_⟩
    refine zdy m (by rw[List.length_drop];omega) (ze3 _ _ h2) (zcB off h4) fun j u hu=>?_
    rw[zcu,Nat.zero_add]
    rw[List.getElem?_drop]at hu
    exact h5 _ u hu
   ·simp only[rel]
  ·simp only[rel]
 |.mp _,_,_=>by simp only[za0,rel]
 |.i _ _,_,r=>by simpa only[za0,rel] using r
 |.b _,_,r=>by simpa only[za0,rel] using r
 |.v _,_,r=>by simpa only[za0,rel] using r
 |.u,_,r=>by simpa only[za0,rel] using r
 |.sl sz es,y,r=>by
  have hle:(ctx inv M σ β w).Le ⟨inv,w,A',fun _=>none⟩:=⟨rfl,Nat.le_refl _,fun _ _ _=>rfl,fun b _ h=>.inl (hA b h)⟩
  simp only[za0]
  exact zd0 (N:=0) hle (.sl sz es) y (.inr rfl) r
 |.ip sz es i k,y,r=>by
  have hle:(ctx inv M σ β w).Le ⟨inv,w,A',fun _=>none⟩:=⟨rfl,Nat.le_refl _,fun _ _ _=>rfl,fun b _ h=>.inl (hA b h)⟩
  simp only[za0]
  exact zd0 (N:=0) hle (.ip sz es i k) y (.inr rfl) r
 |.top,_,_=>by simp only[za0,rel]
theorem zep (hm:Mem inv w0 M σ β w) (hM:∀ b,M b->b<w0.heap.size) {A':Nat->Prop} (hA:∀ b,A' b->M b) {f:Nat->Option (List AV)} (hf:zpf ⟨inv,w,A',fun _=>none⟩ σ β f):∀ (xs:List AV) (ys:List Value),zbZ (ctx inv M σ β w) xs ys->zbZ ⟨inv,w,A',fun _=>none⟩ (zck f xs) ys
 |[],_,r=>by simpa only[zck,zbZ] using r
 |x::xs,ys,r=>by
  simp only[zck,zbZ]at r |-
  obtain ⟨y,ys',e,r1,r2⟩:=r
  exact ⟨y,ys',e,zfB hm hM hA hf x y r1,zep hm hM hA hf xs ys' r2⟩
theorem zgq (hm:Mem inv w0 M σ β w) (hM:∀ b,M b->b<w0.heap.size) {A':Nat->Prop} (hA:∀ b,A' b->M b) {f:Nat->Option (List AV)} (hf:zpf ⟨inv,w,A',fun _=>none⟩ σ β f):∀ (xs:List AV) (ys:List Value),relCs (ctx inv M σ β w) xs ys->relCs ⟨inv,w,A',fun _=>none⟩ (zck f xs) ys
 |[],_,r=>by simpa only[zck,relCs] using r
 |x::xs,ys,r=>by
  simp only[zck,relCs]at r |-
  obtain ⟨y,ys',e,ho,r1,r2⟩:=r
  exact ⟨y,ys',e,ho,zfB hm hM hA hf x y r1,zgq hm hM hA hf xs ys' r2⟩
end
theorem zfC (hm:Mem inv w0 M σ β w) (hM:∀ b,M b->b<w0.heap.size) {A':Nat->Prop} (hA:∀ b,A' b->M b):∀ (k:Nat),zpf ⟨inv,w,A',fun _=>none⟩ σ β (zg9 k σ)
 |0=>fun l cs' h=>by simp[zg9]at h
 |k+1=>fun l cs' h=>by
  have ih:=zfC hm hM hA k
  simp only[zg9]at h
  split at h
  ·rename_i cs r e
   simp only[Option.some.injEq]at h
   subst h
   refine ⟨cs,r,e,zdo _ _,zdI ih cs,fun hr=>?_⟩
   subst hr
   obtain ⟨ys,_,h2,h3⟩:=hm.cell e
   exact ⟨ys,zgq hm hM hA ih cs ys h2,h3⟩
  ·cases h
def PC (P:Program) (inv:Nat->Option Nat) (j:Nat) (args:List AV) (R:AV->Prop):Prop :=
 ∀ g,inv g=some j->∀ (M:Nat->Prop) (w:World) (vs:Array Value),(∀ b,M b->b<w.heap.size)->zbZ ⟨inv,w,M,fun _=>none⟩ args vs.toList ->
  Calls P g vs w fun e w'=>∃ v r,e=.returned v/\R r/\Below w.heap.size w w'/\r.bare=true/\rel ⟨inv,w',M,fun _=>none⟩ r v
theorem PC.mono {j:Nat} {args:List AV} {R R':AV->Prop} (h:PC P inv j args R) (hr:∀ r,R r->R' r):PC P inv j args R' :=
 fun g hg M w vs hM ha=>(h g hg M w vs hM ha).mono fun _ _ ⟨v,r,e,h1,h2⟩=>⟨v,r,e,hr r h1,h2⟩
theorem zob (hm:Mem inv w0 M σ β w) (hM:∀ b,M b->b<w0.heap.size):∀ b,avoid M σ β b->b<w.heap.size:=by
 rintro b (h|⟨l,o,e,hr,rfl⟩)
 ·exact Nat.lt_of_lt_of_le (hM b h) hm.below.size
 ·exact (hm.own l o e hr).2
theorem PC.callK (hM:∀ b,M b->b<w0.heap.size) {j:Nat} {args:List AV} {R:AV->Prop} (h:PC P inv j args R) {K:AV->AS->Prop} (hk:∀ r,R r->K r σ):CallK P inv w0 M N φ σ j args K:=by
 refine ⟨mx N (zaS φ),za2 _ _,zaz _ _,fun g hg β w vs hm ha=>?_⟩
 have hle:(ctx inv M σ β w).Le ⟨inv,w,avoid M σ β,fun _=>none⟩:=⟨rfl,Nat.le_refl _,fun _ _ _=>rfl,fun _ _ h=>h⟩
 refine (h g hg (avoid M σ β) w vs (zob hm hM) (zco (N:=0) hle _ _ (.inr rfl) ha)).mono ?_
 rintro e w' ⟨v,r,rfl,hr,hb,hbare,hrel⟩
 have hc:=hm.call hb (mx N (zaS φ))
 exact ⟨v,r,σ,β,rfl,hk r hr,hc.1,hc.2,zhp (S:=zan β w' σ) r v hbare hrel⟩
theorem PC.snapK (hM:∀ b,M b->b<w0.heap.size) (k:Nat) {j:Nat} {args:List AV} {R:AV->Prop} (h:PC P inv j (zb3 k σ args) R) {K:AV->AS->Prop} (hk:∀ r,R r->r.scalar=true/\K r σ):CallK P inv w0 M N φ σ j args K:=by
 refine ⟨mx N (zaS φ),za2 _ _,zaz _ _,fun g hg β w vs hm ha=>?_⟩
 have hf:=zfC hm hM (A':=fun _=>False) (fun _ h=>h.elim) k
 refine (h g hg (fun _=>False) w vs (fun _ h=>h.elim) (zep hm hM (fun _ h=>h.elim) hf _ _ ha)).mono ?_
 rintro e w' ⟨v,r,rfl,hr,hb,hbare,hrel⟩
 have hc:=hm.call hb (mx N (zaS φ))
 exact ⟨v,r,σ,β,rfl,(hk r hr).2,hc.1,hc.2,zgr r v (hk r hr).1 hrel⟩
theorem zdZ (hs:Knows inv w0 M φ σ β a w):∀ {l:List ResultVar} {rs:List ARes} {xs:List AV},cres P l=some rs->ziQ φ σ rs=some xs ->
  ∃ ys:List Value,zbZ (ctx inv M σ β w) xs ys/\(l.mapM fun
   |.tmp t=>pure (a.tmps.getD t undef)
   |.cell ad t=>do loadVar t (<-asAddr (a.tmps.getD ad undef)):Sem (List Value)).run P w=.ok ys w
 |[],rs,xs,h,hx=>by
  simp only[cres,Option.some.injEq]at h
  subst h
  simp only[ziQ,Option.some.injEq]at hx
  subst hx
  exact ⟨[],znB,rfl⟩
 |.tmp t::l,rs,xs,h,hx=>by
  simp only[cres]at h
  obtain ⟨rs',h1,rfl⟩:=Option.map_eq_some_iff.1 h
  simp only[ziQ,ares]at hx
  split at hx
  ·rename_i x xs' e1 e2
   simp only[Option.some.injEq]at hx e1
   subst hx e1
   obtain ⟨ys,h2,h3⟩:=zdZ hs h1 e2
   exact ⟨_,zfP (hs.slots t) h2,by simp only[List.mapM_cons,Sem.run_bind,Sem.run_pure,Result.andThen_ok,h3]⟩
  ·cases hx
 |.cell ad t::l,rs,xs,h,hx=>by
  simp only[cres]at h
  split at h
  ·rename_i lo rs' h0 h1
   simp only[Option.some.injEq]at h
   subst h
   simp only[ziQ,ares]at hx
   split at hx
   ·rename_i x xs' e1 e2
    simp only[Option.some.injEq]at hx
    subst hx
    obtain ⟨ys,h2,h3⟩:=zdZ hs h1 e2
    obtain ⟨u,k1,k2⟩:=ziT hs h0 (hs.slots ad) e1
    have hp:∃ pa,a.tmps.getD ad undef=.pointer (some pa):=by
     revert k2
     cases a.tmps.getD ad undef with
     |pointer pa=>cases pa<;>simp[Instr.loadAt,Instr.sureAddr]
     |_=>simp[Instr.loadAt,Instr.sureAddr]
    obtain ⟨pa,hpa⟩:=hp
    have k3:(loadVar t pa).run P w=.ok u w:=by
     rw[hpa]at k2
     simpa [Instr.loadAt,Instr.sureAddr] using k2
    refine ⟨u::ys,zfP k1 h2, ?_⟩
    have ha:(asAddr (a.tmps.getD ad undef)).run P w=.ok pa w:=by rw[hpa];rfl
    simp only[List.mapM_cons,Sem.run_bind,ha,Sem.run_pure,Result.andThen_ok,k3,h3]
   ·cases hx
  ·cases h
theorem zit (hs:Knows inv w0 M φ σ β a w) {fn:Func} {rs:List ARes} {x:AV} (h:cres P fn.results.toList=some rs) (hx:zed φ σ rs=some x):∃ y,rel (ctx inv M σ β w) x y/\(results fn a.tmps).run P w=.ok y w:=by
 have key:∀ {xs:List AV},ziQ φ σ rs=some xs->∃ ys:List Value,zbZ (ctx inv M σ β w) xs ys/\(results fn a.tmps).run P w=.ok (if h:ys.toArray.size=1 then ys.toArray[0] else .tuple ys.toArray) w:=by
  intro xs hxs
  obtain ⟨ys,h1,h2⟩:=zdZ hs h hxs
  refine ⟨ys,h1, ?_⟩
  unfold results
  rw[Sem.run_bind,Array.mapM_eq_mapM_toList,Sem.run_map]
  erw[h2]
  rfl
 unfold zed at hx
 split at hx
 ·rename_i e
  simp only[Option.some.injEq]at hx
  subst hx
  obtain ⟨ys,h1,h2⟩:=key e
  simp only[zbZ]at h1
  obtain ⟨y,ys',rfl,h3,rfl⟩:=h1
  exact ⟨y,h3,h2⟩
 ·rename_i hne e
  simp only[Option.some.injEq]at hx
  subst hx
  obtain ⟨ys,h1,h2⟩:=key e
  have hlen:ys.length≠1:=by
   intro h1l
   obtain ⟨x,hx⟩:=List.length_eq_one_iff.1 ((zfj h1).trans h1l)
   exact hne x (by rw[hx])
  refine ⟨.tuple ys.toArray,by simp only[rel];exact ⟨_,rfl,by simpa using h1⟩, ?_⟩
  rw[h2,dif_neg (by simpa using hlen)]
 ·cases hx
theorem zoe:∀ (args:List AV) (k i:Nat),zbs (zm8 k args) i=if k<=i then (args[i-k]?).getD .top else .top
 |[],k,i=>by simp[zm8,zbs]
 |x::xs,k,i=>by
  simp only[zm8,zbs,zoe xs (k+1) i]
  by_cases h:i=k
  ·subst h;simp
  ·rw[if_neg h]
   by_cases h2:k+1<=i
   ·rw[if_pos h2,if_pos (by omega),show i-k=(i-(k+1))+1 by omega];simp
   ·rw[if_neg h2,if_neg (by omega)]
def zrZ (res:List ARes) (R:AV->AS->Prop):Exit->AF->AS->Prop
 |.normal,φ,σ=>∃ r,zed φ σ res=some r/\R r σ
 |.ret,φ,σ=>∃ r,zed φ σ res=some r/\R r σ
 |_,_,_=>False
theorem AC.body {j:Nat} {F:AFn} (hF:Has P inv j F) {args:List AV} {R:AV->AS->Prop} (hl:args.length<=F.ntmps) (h:AWp P inv w0 M N F.ntmps F.body (zrZ F.res R) (zm8 0 args) σ):AC P inv w0 M N j args σ R:=by
 intro g hg β w vs hm ha
 obtain ⟨fn,hf,hc⟩:=hF g hg
 unfold zlU at hc
 split at hc
 ·rename_i c rs hb hrs
  obtain ⟨ac,h1,h2⟩:=Option.map_eq_some_iff.1 hc
  subst h2
  have hlen:=zfj ha
  have hvs:vs.size<=fn.ntmps:=by have:args.length<=fn.ntmps:=hl;rw[hlen]at this;simpa using this
  refine calls_of_wp hf hb ?_
  have hst:St inv w0 M fn.ntmps (zm8 0 args) σ β { tmps:=vs++Array.replicate (fn.ntmps-vs.size) undef,defers:=[] } w:=by
   refine ⟨⟨fun i=>?_,hm⟩,by simp;omega,rfl⟩
   rw[zoe]
   simp only[Nat.zero_le,if_true,Nat.sub_zero]
   cases e:args[i]? with
   |none=>simp only[Option.getD_none,rel]
   |some x =>
    obtain ⟨y,k1,k2⟩:=zkc ha e
    have hi:i<vs.size:=by
     have:=(List.getElem?_eq_some_iff.1 k1).1
     simpa using this
    have hy:vs[i]?=some y:=by simpa using k1
    have:(vs++Array.replicate (fn.ntmps-vs.size) undef).getD i undef=y:=by
     rw[Array.getD_eq_getD_getElem?,Array.getElem?_append_left hi,hy];rfl
    rw[this]
    exact k2
  refine Code.wp_mono ?_ (h c h1 β _ w hst)
  rintro e a' w' ⟨φ',σ',β',q,hst',hext⟩
  cases e with
  |normal =>
   obtain ⟨r,hr,hR⟩:=q
   obtain ⟨y,k1,k2⟩:=zit hst'.toKnows hrs hr
   exact ⟨hst'.defers,y,k2,y,r,σ',β',rfl,hR,hst'.mem,hext,k1⟩
  |ret =>
   obtain ⟨r,hr,hR⟩:=q
   obtain ⟨y,k1,k2⟩:=zit hst'.toKnows hrs hr
   exact ⟨hst'.defers,y,k2,y,r,σ',β',rfl,hR,hst'.mem,hext,k1⟩
  |exit id=>exact q.elim
  |goto l=>exact q.elim
  |panic ch=>exact q.elim
  |outgrown=>exact q.elim
 ·cases hc
theorem AC.callK {j:Nat} {args:List AV} {K:AV->AS->Prop} (N':Nat) (hN:N<=N') (hφ:zaS φ<=N') (h:AC P inv w0 M N' j args σ K):CallK P inv w0 M N φ σ j args K:=⟨N',hN,hφ,h⟩
theorem PC.intro {j:Nat} {F:AFn} (hF:Has P inv j F) {args:List AV} {R:AV->Prop} (hl:args.length<=F.ntmps)
  (h:∀ (w0:World) (M:Nat->Prop),(∀ b,M b->b<w0.heap.size)->AWp P inv w0 M 0 F.ntmps F.body (zrZ F.res fun r σ=>R (zeF 4 σ r)) (zm8 0 args) []):PC P inv j args R:=by
 intro g hg M w vs hM ha
 have hm:Mem inv w M [] (fun _=>0) w:=⟨.refl _ _,by intro l l' o o' e;simp[zaF]at e,by intro l o e;simp[zaF]at e,by intro l cs e;simp[zaF]at e,by intro l cs e;simp[zaF]at e,by intro l kvs e;simp[zaF]at e⟩
 have hle:(⟨inv,w,M,fun _=>none⟩:Ctx).Le (ctx inv M [] (fun _=>0) w):=⟨rfl,Nat.le_refl _,fun _ _ _=>rfl,fun b _ h=>by
  rcases h with h|⟨l,o,e,_⟩
  ·exact h
  ·simp[zaF]at e⟩
 have hS:(ctx inv M [] (fun _=>0) w).S=fun _=>none:=by funext l;simp[ctx,zan,zaF]
 refine (AC.body hF hl (h w M hM) g hg (fun _=>0) w vs hm (zco (N:=0) hle _ _ (.inr hS) ha)).mono ?_
 rintro e w' ⟨v,r,σ',β',rfl,hR,hm',_,hr⟩
 have hf:=zfC hm' hM (A':=M) (fun _ h=>h) 4
 exact ⟨v,_,rfl,hR,hm'.below,zgp hf r,zfB hm' hM (fun _ h=>h) hf r v hr⟩
end
theorem SLe.refl (σ:AS):SLe σ σ:=fun _ _ h _=>h
theorem SLe_refl (σ:AS):SLe σ σ=True:=eq_true (.refl σ)
theorem zl7 {σ:AS} {l:Nat} (o:AO) (h:zaF σ l=none\/zaF σ l=some .rsv):SLe σ (za8 σ l o):=by
 intro l' o' h' hne
 rw[zal]
 split
 ·rename_i e
  subst e
  rcases h with h|h
  ·rw[h]at h';cases h'
  ·rw[h]at h';simp only[Option.some.injEq]at h';exact absurd h'.symm hne
 ·exact h'
theorem zjf {σ:AS} {l:Nat} (h:zbe σ<=l):zaF σ l=none:=by
 cases e:zaF σ l with
 |none=>rfl
 |some o=>have:=(zaG σ l o e).1;omega
theorem zoq (N:Nat) (φ:AF) (σ:AS):zaF σ (zaB N φ σ)=none:=zjf (zbG N φ σ).2.2
theorem zeO:∀ {l:List Nat} {i:Nat},memN l i=true↔i∈l
 |[],i=>by simp[memN]
 |x::r,i=>by
  simp only[memN,Bool.or_eq_true,zeO (l:=r),Nat.beq_eq,List.mem_cons]
  constructor
  ·rintro (h|h)
   ·exact .inl h.symm
   ·exact .inr h
  ·rintro (h|h)
   ·exact .inl h.symm
   ·exact .inr h
theorem zd5 {l:List Nat} {d:Nat} (h:zdi l (some d)=false):∀ t∈l,t≠d:=by
 intro t ht e
 subst e
 simp only[zdi]at h
 rw[zeO.2 ht]at h
 cases h
section
variable {φ φ':AF} {σ:AS}
theorem zbg {x:Opd} (h:∀ t∈x.rd,zbs φ' t=zbs φ t):ev φ' x=ev φ x:=by
 cases x with
 |t i=>exact h i (by simp[Opd.rd])
 |c x=>rfl
theorem zeN {x:Option Opd} (h:∀ t∈zmy x,zbs φ' t=zbs φ t):x.map (ev φ')=x.map (ev φ):=by
 cases x with
 |none=>rfl
 |some x=>simp only[Option.map_some];rw[zbg h]
theorem zdN:∀ {l:List Opd},(∀ t∈zfV l,zbs φ' t=zbs φ t)->l.map (ev φ')=l.map (ev φ)
 |[],_=>rfl
 |x::l,h=>by
  simp only[zfV,List.mem_append]at h
  simp only[List.map_cons]
  rw[zbg fun t ht=>h t (.inl ht),zdN fun t ht=>h t (.inr ht)]
theorem zgy:∀ {l:List (Nat×Nat×Opd)} (cs:List AV),(∀ t∈zib l,zbs φ' t=zbs φ t)->zee φ' cs l=zee φ cs l
 |[],_,_=>rfl
 |(o,n,x)::l,cs,h=>by
  simp only[zib,List.mem_append]at h
  simp only[zee]
  rw[zbg fun t ht=>h t (.inl ht)]
  split
  ·exact zgy _ fun t ht=>h t (.inr ht)
  ·rfl
theorem zrH {e:AVal} (h:∀ t∈e.rd,zbs φ' t=zbs φ t):zea φ' σ e=zea φ σ e:=by
 funext K
 cases e<;>simp only[AVal.rd,List.mem_append]at h<;>simp only[zea]
 case mov x=>rw[zbg h]
 case pick c a b=>rw[zbg fun t ht=>h t (.inl ht),zbg fun t ht=>h t (.inr (.inl ht)),zbg fun t ht=>h t (.inr (.inr ht))]
 case bin op ty x y=>rw[zbg fun t ht=>h t (.inl ht),zbg fun t ht=>h t (.inr ht)]
 case not x=>rw[zbg h]
 case conv k x=>rw[zbg h]
 case load n a=>rw[zbg h]
 case fadr a off=>rw[zbg h]
 case iadr x i sz arr=>rw[zbg fun t ht=>h t (.inl ht),zbg fun t ht=>h t (.inr ht)]
 case fld x off n=>rw[zbg h]
 case idx x i len sz ag=>rw[zbg fun t ht=>h t (.inl ht),zbg fun t ht=>h t (.inr ht)]
 case len x=>rw[zbg h]
 case ext x i=>rw[zbg h]
 case mkfn j l=>rw[zdN h]
 case build z ps=>rw[zgy _ h]
 case slc x lo hi m sz=>rw[zbg fun t ht=>h t (.inl ht),zeN fun t ht=>h t (.inr (.inl ht)),zeN fun t ht=>h t (.inr (.inr (.inl ht))),zeN fun t ht=>h t (.inr (.inr (.inr ht)))]
 case slca x lo hi m k sz=>rw[zbg fun t ht=>h t (.inl ht),zeN fun t ht=>h t (.inr (.inl ht)),zeN fun t ht=>h t (.inr (.inr (.inl ht))),zeN fun t ht=>h t (.inr (.inr (.inr ht)))]
 case nilck x=>rw[zbg h]
 case mnx mn x y=>rw[zbg fun t ht=>h t (.inl ht),zbg fun t ht=>h t (.inr ht)]
 case cap x=>rw[zbg h]
 case look m k=>rw[zbg fun t ht=>h t (.inl ht),zbg fun t ht=>h t (.inr ht)]
end
def SLx (ld:Bool) (σ σ':AS):Prop:=(∀ l ver,zb9 σ l ver->zb9 σ' l ver)/\(ld=true->SLe σ σ')
theorem zlw {σ σ':AS} {l ver:Nat} (hs:SLe σ σ') (h:zb9 σ l ver):zb9 σ' l ver:=by
 unfold zb9 at h |-
 split at h
 ·rename_i cs r e;rw[hs _ _ e (by simp)];exact h
 ·exact h.elim
theorem SLe.x {σ σ':AS} (h:SLe σ σ') (ld:Bool):SLx ld σ σ':=⟨fun _ _ hl=>zlw h hl,fun _=>h⟩
theorem SLx.refl (ld:Bool) (σ:AS):SLx ld σ σ:=(SLe.refl σ).x ld
def Det (ld:Bool) (σ:AS) (F:AS->(AV->Prop)->Prop):Prop:=∀ K:AV->Prop,F σ K->∃ x,K x/\∀ σ',SLx ld σ σ'->∀ K':AV->Prop,K' x->F σ' K'
section
variable {φ φ':AF} {σ σ':AS} {ld:Bool}
theorem zar (x:AV):Det ld σ (fun _ K=>K x):=fun _ h=>⟨x,h,fun _ _ _ h'=>h'⟩
theorem zaT:Det ld σ (fun _ _=>False):=fun _ h=>h.elim
theorem det_ob {p:AS->Prop} {F:AS->(AV->Prop)->Prop} (hp:∀ σ',SLx ld σ σ'->p σ->p σ') (h:Det ld σ F):Det ld σ (fun σ K=>ob (p σ) (F σ K)):=by
 rintro K ⟨h1,h2⟩
 obtain ⟨x,k,h3⟩:=h K h2
 exact ⟨x,k,fun σ' hs K' k'=>⟨hp σ' hs h1,h3 σ' hs K' k'⟩⟩
theorem zbt {p:Prop} {F:AS->(AV->Prop)->Prop} (h:Det ld σ F):Det ld σ (fun σ K=>ob p (F σ K)):=det_ob (p:=fun _=>p) (fun _ _ h=>h) h
theorem zc8 {l ver:Nat} {F:AS->(AV->Prop)->Prop} (h:Det ld σ F):Det ld σ (fun σ K=>ob (zb9 σ l ver) (F σ K)):=det_ob (fun _ hs hl=>hs.1 _ _ hl) h
theorem ziC {α:Type} {o:AS->Option α} {F:α->AS->(AV->Prop)->Prop} (ho:∀ σ' v,SLx ld σ σ'->o σ=some v->o σ'=some v) (h:∀ v,Det ld σ (F v)):Det ld σ (fun σ K=>zcT (o σ) fun v=>F v σ K):=by
 intro K hk
 obtain ⟨v,e,h2⟩:=za6 hk
 obtain ⟨x,k,h3⟩:=h v K h2
 refine ⟨x,k,fun σ' hs K' k'=>?_⟩
 have e':=ho σ' v hs e
 show zcT (o σ') _
 rw[e']
 exact h3 σ' hs K' k'
theorem zpd {x y v:AV} (hs:SLe σ σ') (h:zl4 σ x y=some v):zl4 σ' x y=some v:=by
 unfold zl4 at h |-
 split at h
 ·split at h
  ·rename_i e
   rw[hs _ _ e (by simp)]
   exact h
  ·cases h
 ·cases h
theorem zcK {α:Type} {o:Option α} {F:α->AS->(AV->Prop)->Prop} (h:∀ v,Det ld σ (F v)):Det ld σ (fun σ K=>zcT o fun v=>F v σ K):=ziC (o:=fun _=>o) (fun _ _ _ h=>h) h
theorem zjK {n:Option Nat} {x y:AV} (hs:SLe σ σ') (h:zdC σ n x=some y):zdC σ' n x=some y:=by
 cases x<;>simp only[zdC]at h |-<;>try exact h
 case ptr l ver off =>
  split at h
  ·rename_i cs r e
   rw[hs _ _ e (by simp)]
   exact h
  ·cases h
theorem zrn (op:BinOp) (k:IntKind) (a b:Int):Det ld σ (fun _ K=>zpc op k a b K):=by
 cases op<;>simp only[zpc]<;>first|exact zar _|exact zaT|exact zbt (zar _)
theorem ziD (op:BinOp) (x y:AV):Det ld σ (fun _ K=>match op with|.eql=>K x|.neq=>K y|_=>False):=by
 cases op<;>first|exact zar _|exact zaT
theorem det_abin (op:BinOp) (ty:ETy) (x y:AV):Det ld σ (fun σ K=>zmb σ op ty x y K):=by
 unfold zmb
 split
 ·split
  ·exact zbt (zar _)
  ·exact zaT
  ·exact zbt (zrn _ _ _ _)
 ·exact zbt (ziD _ _ _)
 ·split
  ·exact zcK fun t=>ziD _ _ _
  ·exact zcK fun t=>ziD _ _ _
  ·exact zaT
 ·exact zbt (zc8 (ziD _ _ _))
 ·exact zcK fun t=>ziD _ _ _
theorem zoa (x:AV) (lo hi mx:Option AV) (sz:Nat):Det ld σ (fun σ K=>aslc σ x lo hi mx sz K):=by
 unfold aslc
 split
 ·refine zbt (zbt (zbt ?_))
  split
  ·exact zar _
  ·exact zar _
  ·exact zc8 (zar _)
  ·exact zaT
 ·exact zaT
 ·split
  ·refine zbt ?_
   split<;>first|exact zar _|exact zbt (zar _)|exact zaT
  ·refine zbt (zc8 ?_)
   split<;>first|exact zar _|exact zbt (zar _)|exact zaT
  ·split<;>first|exact zar _|exact zbt (zar _)|exact zaT
  ·exact zaT
theorem zkJ (e:AVal):Det (isLd e) σ (fun σ K=>zea φ σ e K):=by
 cases e<;>simp only[zea,isLd]
 case mov x=>exact zar _
 case pick c a b =>
  split
  ·rename_i t _
   cases t
   ·simp only[zia];exact zar _
   ·simp only[zjm];exact zar _
  ·exact zaT
 case bin op ty x y=>exact det_abin _ _ _ _
 case not x=>split<;>first|exact zar _|exact zaT
 case conv k x=>split<;>first|exact zar _|exact zaT
 case load n a=>exact ziC (F:=fun v _ K=>K v) (fun σ' v hs e=>zjK (hs.2 rfl) e) fun v=>zar v
 case fadr a off=>split<;>first|exact zar _|exact zc8 (zar _)|exact zaT
 case iadr x i sz arr =>
  split
  ·split
   ·exact zbt (zbt (zar _))
   ·exact zbt (zc8 (zbt (zar _)))
   ·exact zc8 (zbt (zar _))
   ·exact zbt (zar _)
   ·exact zaT
  ·exact zaT
 case fld x off n =>
  split
  ·split
   ·exact zcK (F:=fun v _ K=>K v) fun v=>zar v
   ·exact zar _
  ·exact zaT
 case idx x i len sz ag =>
  split
  ·refine zbt ?_
   split
   ·exact zar _
   ·exact zcK (F:=fun v _ K=>K v) fun v=>zar v
  ·exact zaT
 case len x=>split<;>first|exact zar _|exact zc8 (zar _)|exact zaT
 case ext x i =>
  split
  ·exact zcK (F:=fun v _ K=>K v) fun v=>zar v
  ·exact zaT
 case mkfn j l=>exact zar _
 case build z ps=>exact zcK fun cs=>zar _
 case slc x lo hi m sz=>exact zoa _ _ _ _ _
 case slca x lo hi m k sz =>
  split
  ·exact zc8 (zbt (zoa _ _ _ _ _))
  ·exact zaT
 case nilck x=>split<;>first|exact zar _|exact zc8 (zar _)|exact zaT
 case mnx mn x y=>split<;>first|exact zbt (zar _)|exact zaT
 case cap x=>split<;>first|exact zar _|exact zaT
 case look m k=>exact ziC (F:=fun v _ K=>K v) (fun σ' v hs e=>zpd (hs.2 rfl) e) fun v=>zar v
end
section
variable {P:Program} {inv:Nat->Option Nat} {w0:World} {M:Nat->Prop} {N:Nat} {φ φ1:AF} {σ:AS}
theorem CallK.mono {j:Nat} {args:List AV} {R R':AV->AS->Prop} (h:CallK P inv w0 M N φ σ j args R) (hr:∀ r σ',R r σ'->R' r σ'):CallK P inv w0 M N φ σ j args R':=by
 obtain ⟨N',h1,h2,h3⟩:=h
 refine ⟨N',h1,h2,fun g hg β w vs hm hv=>Calls.mono (h3 g hg β w vs hm hv) ?_⟩
 rintro e w' ⟨v,r,σ',β',k1,k2,k3⟩
 exact ⟨v,r,σ',β',k1,hr _ _ k2,k3⟩
theorem CallK.frame {j:Nat} {args:List AV} {R:AV->AS->Prop} (h:CallK P inv w0 M N φ1 σ j args R) (hb:zaS φ<=mx N (zaS φ1)):CallK P inv w0 M N φ σ j args R:=by
 obtain ⟨N',h1,h2,h3⟩:=h
 refine ⟨N',h1,Nat.le_trans hb ?_,h3⟩
 unfold mx
 split<;>omega
theorem zqy {a b c:Nat} (h1:a<=c) (h2:b<=c):mx a b<=c:=by unfold mx;split<;>assumption
theorem zmX {N:Nat} {φ:AF} {σ:AS} (h1:zaS φ<=N) (h2:zbe σ<=N):zaB N φ σ=N:=by
 unfold zaB mx
 split<;>split<;>omega
theorem zl8 (N:Nat) (φ:AF) (σ:AS) (o:AO):SLe σ (za8 σ (zaB N φ σ) o):=zl7 o (.inl (zoq N φ σ))
theorem zct {sz:Nat} {x:AV} {K K':Nat->List AV->Prop} (hk:∀ m l,K m l->K' m l) (h:asrc σ sz x K):asrc σ sz x K':=by
 unfold asrc at h |-
 split at h
 ·exact hk _ _ h
 ·exact ⟨h.1,hk _ _ h.2⟩
 ·refine ⟨h.1, ?_⟩
  have h2:=h.2
  split at h2
  ·exact ⟨h2.1,hk _ _ h2.2⟩
  ·exact h2.elim
 ·exact h.elim
theorem zcY {l d sz m:Nat} {dest:AV} {new:List AV} {K K':AF->AS->Prop} (hk:∀ r σ',K (zbE φ1 d r) σ'->K' (zbE φ d r) σ') (h:zpl φ1 σ l d sz dest m new K):zpl φ σ l d sz dest m new K':=by
 unfold zpl at h |-
 split at h
 ·exact ⟨h.1,hk _ _ h.2⟩
 ·refine ⟨h.1,h.2.1,h.2.2.1,h.2.2.2.1, ?_⟩
  have h2:=h.2.2.2.2
  split at h2
  ·exact ⟨h2.1,hk _ _ h2.2⟩
  ·exact h2.elim
 ·exact h.elim
theorem ziS {o:AOp} {K1 K2:AF->AS->Prop} (hk:∀ φ σ,K1 φ σ->K2 φ σ) (h:zbp P inv w0 M N o φ σ K1):zbp P inv w0 M N o φ σ K2:=by
 cases o with
 |set d e =>
  simp only[zbp,aop]at h |-
  obtain ⟨x,k1,k2⟩:=zkJ e _ h
  exact k2 σ (.refl _ σ) _ (hk _ _ k1)
 |alloc d z=>simp only[zbp,aop]at h |-;exact hk _ _ h
 |box d n x=>simp only[zbp,aop]at h |-;exact ⟨h.1,h.2.1,hk _ _ h.2.2⟩
 |isnil d neg x =>
  simp only[zbp,aop]at h |-
  split at h
  ·exact ⟨fun e=>hk _ _ (h.1 e),hk _ _ h.2⟩
  ·exact ⟨fun e=>hk _ _ (h.1 e),hk _ _ h.2⟩
  ·exact ⟨h.1,fun e=>hk _ _ (h.2.1 e),hk _ _ h.2.2⟩
  ·exact h.elim
 |mks0 d sz=>simp only[zbp,aop]at h |-;exact hk _ _ h
 |mksl d sz len z ps =>
  simp only[zbp,aop]at h |-
  obtain ⟨cs,e,h⟩:=za6 h
  rw[e]
  simp only[zgz]
  cases eb:zag cs<;>rw[eb]at h<;>exact hk _ _ h
 |store n a x =>
  simp only[zbp,aop]at h |-
  split at h
  ·split at h
   ·exact ⟨h.1,h.2.1,h.2.2.1,h.2.2.2.1,hk _ _ h.2.2.2.2⟩
   ·exact h.elim
  ·exact h.elim
 |app d s x sz=>simp only[zbp,aop]at h |-;exact zct (fun m l h=>zcY (fun r σ' h'=>⟨h'.1,hk _ _ h'.2⟩) h) h
 |make d a c z sz =>
  simp only[zbp,aop]at h |-
  split at h
  ·exact ⟨h.1,hk _ _ h.2⟩
  ·exact h.elim
 |call d j args=>simp only[zbp]at h |-;exact h.mono fun r σ' h'=>⟨h'.1,hk _ _ h'.2⟩
 |calv d f args =>
  simp only[zbp]at h |-
  split at h
  ·exact h.mono fun r σ' h'=>⟨h'.1,hk _ _ h'.2⟩
  ·exact h.elim
 |callp d j args =>
  simp only[zbp,aop]at h |-
  obtain ⟨r,h1,h2⟩:=h
  exact ⟨r,h1,hk _ _ h2⟩
 |gal d back z =>
  simp only[zbp,aop]at h |-
  split at h
  ·exact ⟨h.1,hk _ _ h.2⟩
  ·exact h.elim
 |storeA n a x pts =>
  simp only[zbp,aop]at h |-
  split at h
  ·refine ⟨h.1, ?_⟩
   have h:=h.2
   split at h
   ·exact ⟨h.1,h.2.1,h.2.2.1,h.2.2.2.1,hk _ _ h.2.2.2.2⟩
   ·exact h.elim
  ·exact h.elim
 |bad d=>exact h.elim
 |mkmap d=>simp only[zbp,aop]at h |-;exact hk _ _ h
 |appe d s x sz=>simp only[zbp,aop]at h |-;exact zct (fun m l h=>zcY (fun r σ' h'=>hk _ _ h') h) h
 |appA d s x sz pts=>simp only[zbp,aop]at h |-;exact zct (fun m l h=>⟨h.1,zcY (fun r σ' h'=>hk _ _ h') h.2⟩) h
 |calle d j args=>simp only[zbp,aop]at h |-;exact h.mono fun r σ' h'=>hk _ _ h'
 |calve d f args =>
  simp only[zbp,aop]at h |-
  split at h
  ·exact h.mono fun r σ' h'=>hk _ _ h'
  ·exact h.elim
 |mapset m k v =>
  simp only[zbp,aop]at h |-
  split at h
  ·split at h
   ·exact hk _ _ h
   ·exact h.elim
  ·exact h.elim
 |appz d s n z sz =>
  simp only[zbp,aop]at h |-
  split at h
  ·exact ⟨h.1,hk _ _ h.2⟩
  ·exact h.elim
def Sw (o:AOp) (φ φ1:AF) (σ:AS) (K:AF->AS->Prop):AF->AS->Prop:=fun φ' σ'=>(zmQ o=true\/SLx (!zex o) σ σ')/\∃ r,φ'=zcS φ o.dst r/\K (zcS φ1 o.dst r) σ'
theorem zoV {l l' ver:Nat} {cs xs:List AV} {r:Bool} {off:Nat} (hg:zaF σ l=some (.cells cs r)) (h:zb9 σ l' ver):zb9 (za8 σ l (.cells (ovl cs off xs) r)) l' ver:=by
 unfold zb9 at h |-
 rw[zal]
 by_cases e:l'=l
 ·subst e
  rw[hg]at h
  simp only[if_true,zdb]
  exact h
 ·rw[if_neg e]
  exact h
theorem zrP {o:AOp} {K:AF->AS->Prop} (hp:plain o=o) (he:zlz o=false) (h:zbp P inv w0 M N o φ1 σ K) (hr:∀ t∈o.rd,zbs φ t=zbs φ1 t) (hb:zaS φ<=mx N (zaS φ1)) :
  ∃ N2,N<=N2/\zbp P inv w0 M N2 o φ σ (Sw o φ φ1 σ K):=by
 have hfr:zaS φ<=zaB N φ1 σ:=Nat.le_trans hb (by have:=zbG N φ1 σ;exact zqy this.1 this.2.1)
 have hN:N<=zaB N φ1 σ:=(zbG N φ1 σ).1
 have hfe:zaB (zaB N φ1 σ) φ σ=zaB N φ1 σ:=zmX hfr (zbG N φ1 σ).2.2
 have hsl:∀ o,SLe σ (za8 σ (zaB N φ1 σ) o):=zl8 N φ1 σ
 cases o with
 |set d e =>
  refine ⟨N,Nat.le_refl _, ?_⟩
  simp only[zbp,aop,AOp.rd]at h hr |-
  rw[zrH hr]
  obtain ⟨x,hk,hd⟩:=zkJ e _ h
  exact hd σ (.refl _ σ) _ ⟨.inr (.refl _ σ),x,rfl,hk⟩
 |alloc d z =>
  refine ⟨_,hN, ?_⟩
  simp only[zbp,aop]at h |-
  rw[hfe]
  exact ⟨(.inr ((hsl _).x _)),_,rfl,h⟩
 |box d n x =>
  refine ⟨_,hN, ?_⟩
  simp only[zbp,aop,AOp.rd]at h hr |-
  rw[hfe,zbg hr]
  exact ⟨h.1,h.2.1,(.inr ((hsl _).x _)),_,rfl,h.2.2⟩
 |isnil d neg x =>
  refine ⟨N,Nat.le_refl _, ?_⟩
  simp only[zbp,aop,AOp.rd]at h hr |-
  rw[zbg hr]
  split at h
  ·exact ⟨fun e=>⟨.inr (SLx.refl _ σ),_,rfl,h.1 e⟩,.inr (SLx.refl _ σ),_,rfl,h.2⟩
  ·exact ⟨fun e=>⟨.inr (SLx.refl _ σ),_,rfl,h.1 e⟩,.inr (SLx.refl _ σ),_,rfl,h.2⟩
  ·exact ⟨h.1,fun e=>⟨.inr (SLx.refl _ σ),_,rfl,h.2.1 e⟩,.inr (SLx.refl _ σ),_,rfl,h.2.2⟩
  ·exact h.elim
 |mks0 d sz =>
  refine ⟨N,Nat.le_refl _, ?_⟩
  simp only[zbp,aop]at h |-
  exact ⟨.inr (SLx.refl _ σ),_,rfl,h⟩
 |mksl d sz len z ps =>
  refine ⟨_,hN, ?_⟩
  simp only[zbp,aop,AOp.rd]at h hr |-
  rw[hfe,zgy _ hr]
  obtain ⟨cs,e,h⟩:=za6 h
  rw[e]
  simp only[zgz]
  cases eb:zag cs<;>rw[eb]at h
  ·exact ⟨(.inr ((hsl _).x _)),_,rfl,h⟩
  ·exact ⟨.inr (SLx.refl _ σ),_,rfl,h⟩
 |store n a x =>
  refine ⟨N,Nat.le_refl _, ?_⟩
  simp only[zbp,aop,AOp.rd,List.mem_append]at h hr |-
  rw[zbg fun t ht=>hr t (.inl ht),zbg fun t ht=>hr t (.inr ht)]
  split at h
  ·split at h
   ·rename_i hg
    exact ⟨h.1,h.2.1,h.2.2.1,h.2.2.2.1,(.inr ⟨fun l' ver hl=>zoV hg hl,fun e=>by simp[zex]at e⟩),.u,rfl,h.2.2.2.2⟩
   ·exact h.elim
  ·exact h.elim
 |app d s x sz =>
  refine ⟨_,hN, ?_⟩
  simp only[zbp,aop,AOp.rd,List.mem_append]at h hr |-
  rw[hfe,zbg fun t ht=>hr t (.inl ht),zbg fun t ht=>hr t (.inr ht)]
  refine zct (fun m l hk=>zcY (fun r σ' h'=>?_) hk) h
  exact ⟨h'.1,(.inr (SLe.x h'.1 _)),r,rfl,h'.2⟩
 |make d l c z sz =>
  refine ⟨_,hN, ?_⟩
  simp only[zbp,aop,AOp.rd,List.mem_append]at h hr |-
  rw[hfe,zbg fun t ht=>hr t (.inl ht),zbg fun t ht=>hr t (.inr ht)]
  split at h
  ·exact ⟨h.1,(.inr ((hsl _).x _)),_,rfl,h.2⟩
  ·exact h.elim
 |call d j args =>
  refine ⟨N,Nat.le_refl _, ?_⟩
  simp only[zbp,AOp.rd]at h hr |-
  rw[zdN hr]
  exact (h.frame hb).mono fun r σ' h'=>⟨h'.1,(.inr (SLe.x h'.1 _)),r,rfl,h'.2⟩
 |calv d f args =>
  refine ⟨N,Nat.le_refl _, ?_⟩
  simp only[zbp,AOp.rd,List.mem_append]at h hr |-
  rw[zbg fun t ht=>hr t (.inl ht),zdN fun t ht=>hr t (.inr ht)]
  split at h
  ·exact (h.frame hb).mono fun r σ' h'=>⟨h'.1,(.inr (SLe.x h'.1 _)),r,rfl,h'.2⟩
  ·exact h.elim
 |callp d j args =>
  refine ⟨N,Nat.le_refl _, ?_⟩
  simp only[zbp,aop,AOp.rd]at h hr |-
  rw[zdN hr]
  obtain ⟨r,h1,h2⟩:=h
  exact ⟨r,h1,.inr (SLx.refl _ σ),r,rfl,h2⟩
 |gal d back z =>
  refine ⟨N,Nat.le_refl _, ?_⟩
  simp only[zbp,aop]at h |-
  split at h
  ·rename_i hg
   exact ⟨h.1,(.inr ((zl7 _ (.inr hg)).x _)),_,rfl,h.2⟩
  ·exact h.elim
 |storeA n a x pts=>simp[plain]at hp
 |bad d=>exact h.elim
 |appA d s x sz pts =>
  refine ⟨_,hN, ?_⟩
  have hpt:pts=[]:=by simpa [plain] using hp.symm
  subst hpt
  simp only[zbp,aop,AOp.rd,List.mem_append]at h hr |-
  rw[hfe,zbg fun t ht=>hr t (.inl ht),zbg fun t ht=>hr t (.inr ht)]
  refine zct (fun m l hk=>⟨by cases ev φ1 s<;>rfl,zcY (fun r σ' h'=>?_) hk.2⟩) h
  exact ⟨.inl rfl,r,rfl,h'⟩
 |appe d s x sz=>cases he
 |calle d j args=>cases he
 |calve d f args=>cases he
 |mkmap d =>
  refine ⟨_,hN, ?_⟩
  simp only[zbp,aop]at h |-
  rw[hfe]
  exact ⟨(.inr ((hsl _).x _)),_,rfl,h⟩
 |mapset m k v =>
  refine ⟨N,Nat.le_refl _, ?_⟩
  simp only[zbp,aop,AOp.rd,List.mem_append]at h hr |-
  rw[zbg fun t ht=>hr t (.inl ht),zbg fun t ht=>hr t (.inr (.inl ht)),zbg fun t ht=>hr t (.inr (.inr ht))]
  split at h
  ·rename_i l a b _ _ _
   split at h
   ·rename_i kvs hg
    refine ⟨.inr ⟨fun l' ver hl=>?_,fun e=>by simp[zex]at e⟩,.u,rfl,h⟩
    unfold zb9 at hl |-
    rw[zal]
    by_cases e:l'=l
    ·subst e;rw[hg]at hl;exact hl.elim
    ·rw[if_neg e];exact hl
   ·exact h.elim
  ·exact h.elim
 |appz d s n z sz =>
  refine ⟨_,hN, ?_⟩
  simp only[zbp,aop,AOp.rd,List.mem_append]at h hr |-
  rw[hfe,zbg fun t ht=>hr t (.inl ht),zbg fun t ht=>hr t (.inr ht)]
  split at h
  ·exact ⟨h.1,(.inr ((hsl _).x _)),_,rfl,h.2⟩
  ·exact h.elim
def zhe (P:Program) (inv:Nat->Option Nat) (w0:World) (M:Nat->Prop) (N:Nat) (g:GOp) (φ:AF) (σ:AS) (K:AF->AS->Prop):Prop :=
 match g with
 |(none,o)=>zbp P inv w0 M N o φ σ K
 |(some (s,want),o)=>(∃ t,zbs φ s=.b t/\(t=want->zbp P inv w0 M N o φ σ K)/\(¬t=want->K (zcS φ o.dst .u) σ))\/(zbs φ s=.u/\K (zcS φ o.dst .u) σ)
def zrF (P:Program) (inv:Nat->Option Nat) (w0:World) (M:Nat->Prop) (N:Nat):List GOp->(AF->AS->Prop)->AF->AS->Prop
 |[],K,φ,σ=>K φ σ
 |g::r,K,φ,σ=>zhe P inv w0 M N g φ σ (zrF P inv w0 M N r K)
theorem awpL_of:∀ {l:List GOp} {K:AF->AS->Prop} {φ:AF} {σ:AS},zbu P inv w0 M N l K φ σ->zrF P inv w0 M N l K φ σ:=by
 intro l
 induction l with
 |nil=>exact fun h=>h
 |cons g l ih =>
  intro K φ σ h
  have mono:∀ {o:AOp} {φ:AF} {σ:AS},zbp P inv w0 M N o φ σ (zbu P inv w0 M N l K)->zbp P inv w0 M N o φ σ (zrF P inv w0 M N l K):=by
   intro o φ σ h
   exact ziS (fun _ _ h=>ih h) h
  obtain ⟨g,o⟩:=g
  cases g with
  |none=>exact mono h
  |some sw =>
   obtain ⟨s,want⟩:=sw
   cases want<;>simp only[zbu]at h<;>split at h
   all_goals first|exact h.elim|skip
   ·rename_i t et
    refine .inl ⟨t,et,fun e=>?_,fun e=>?_⟩
    ·have:=h.2 e;rw[zd3 (by rw[et,e])]at this;exact mono this
    ·have e':t=true:=by simpa using e
     have:=h.1 e';rw[zd3 (by rw[et,e'])]at this;exact ih this
   ·rename_i et;exact .inr ⟨et,ih h⟩
   ·rename_i t et
    refine .inl ⟨t,et,fun e=>?_,fun e=>?_⟩
    ·have:=h.1 e;rw[zd3 (by rw[et,e])]at this;exact mono this
    ·have e':t=false:=by simpa using e
     have:=h.2 e';rw[zd3 (by rw[et,e'])]at this;exact ih this
   ·rename_i et;exact .inr ⟨et,ih h⟩
end
end Go.Eng
