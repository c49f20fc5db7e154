/-
  A part of the engine that walks the functions' codes, and of the functions' contracts. Conditions: those that each theorem names.
-/
import Derived.Test.YtjfongdncghjmaaGreatK2
import Derived.Below
import Derived.Calls
import Derived.ChangeKeysEq
import Derived.DataReads
import Derived.Deep.LoopGhost
import Derived.Laws.AppendOwn
import Derived.Laws.Cells
import Derived.Laws.CopyRow
import Derived.Laws.Entries
import Derived.Laws.MakeOwn
import Derived.Laws.Rows
import Derived.Laws.StructEq
import Derived.Laws.Tables
import Derived.Lib.AppendZerosOnto
import Derived.MapKept
import Derived.Orders
import Derived.ProofKit
import Derived.ScopeJumps
import Derived.Tactics2
import Derived.WalkSpells
set_option linter.unusedSimpArgs false
set_option linter.unusedVariables false
set_option linter.unusedSectionVars false
namespace Go.Eng
open Go.RowKit
section
variable {P:Program} {inv:Nat->Option Nat} {w0:World} {M:Nat->Prop} {n N:Nat} {φ:AF} {σ:AS} {β:Nat->Nat} {a:Act} {w:World}
theorem zmc {w w':World} (h:w'.heap=w.heap) (p:Addr):w'.cell? p=w.cell? p:=by simp[World.cell?,h]
theorem zpz {N:Nat} {cs:List AV} (h:zab cs<=N) (off m:Nat):zab (seg cs off m)<=N :=
 zdr fun x hx=>zcW h x (List.mem_of_mem_drop (List.mem_of_mem_take hx))
theorem zpD {sz:Nat} {x:AV} {u:Value} {K:Nat->List AV->Prop} (hm:Mem inv w0 M σ β w) (hx:rel (ctx inv M σ β w) x u) (h:zmo σ sz x K) :
  ∃ m new A c news,K m new/\u=.slice A m c/\relCs (ctx inv M σ β w) new news/\news.length=m*sz/\zab new<=zax σ /\
   ∀ w',w'.heap=w.heap->(Builtin.firstCells sz m (.slice A m c)).run P w'=.ok news.toArray w':=by
 unfold zmo at h;split at h
 ·simp only[rel]at hx
  obtain ⟨ad,rfl⟩:=hx;refine ⟨0,[],ad,0,[],h,rfl,zbs,by simp,by simp[zab],fun w' _=>?_⟩
  cases ad<;>simp[Builtin.firstCells,loadCells,loadCellsFrom]
 ·rename_i sz' es
  obtain ⟨rfl,h⟩:=h;simp only[rel]at hx;obtain ⟨ad,cap,rfl,hcap,hr⟩:=hx;by_cases hne:es=[]
  ·subst hne
   refine ⟨_,_,ad,cap,[],h,rfl,by simpa using zbs,by simp,by simp[zab],fun w' _=>?_⟩
   cases ad<;>simp[Builtin.firstCells,loadCells,loadCellsFrom]
  ·obtain ⟨a',rfl,_,_,hrows⟩:=hr hne
   obtain ⟨hl,hb,ys,hys,hc⟩:=zhe hrows;have hyl:=zaB hys;refine ⟨_,_,_,cap,ys,h,rfl,zdY (S:=(ctx inv M σ β w).S) _ _ hb hys,by rw[<-hyl,hl],by rw[zbr _ hb];omega,fun w' hw'=>?_⟩
   exact run_firstCells_some w' sz' es.length a' es.length cap ys (by rw[<-hyl,hl]) fun j v hv=>by
    rw[zmc hw'];have:=hc j v hv;simp only[Nat.zero_add]at this;exact this
 ·rename_i l ver off m sz'
  obtain ⟨rfl,h⟩:=h;split at h
  ·rename_i cs r hg
   obtain ⟨hv,h⟩:=h;have hlive:zcd σ l ver:=by unfold zcd;rw[hg];exact hv
   obtain ⟨p,ad,cap,hp,hpv,hb,rfl,hcap,hr⟩:=zcP hlive hx;have hbd:=zpz (zau σ l _ hg).2 off (m*sz');have hsegl:(seg cs off (m*sz')).length=m*sz':=by simp[seg];omega
   by_cases h0:m=0
   ·subst h0
    refine ⟨0,_,ad,cap,[],h,rfl,by simpa [seg] using zbs,by simp,hbd,fun w' _=>?_⟩
    cases ad<;>simp[Builtin.firstCells,loadCells,loadCellsFrom]
   ·have hreal:r=true:=by
     cases r with
     |true=>rfl
     |false =>
      unfold zai at hp;rw[hg]at hp;cases hp
      simp at hr;omega
    subst hreal;have hpe:p=⟨β l,cs.length,zaN w (β l),true⟩:=by unfold zai at hp;rw[hg]at hp;cases hp;rfl
    subst hpe;simp only[if_true]at hr;obtain ⟨hr1,hr2⟩:=hr;have had:ad=some ⟨β l,off,none⟩:=hr1.resolve_left (by omega)
    subst had;obtain ⟨ys,hyl,hyr,hyc⟩:=hm.cell hg;refine ⟨m,_,_,cap,(ys.drop off).take (m*sz'),h,rfl,zcg _ (zch _ hyr),by simp[hyl];omega,hbd,fun w' hw'=>?_⟩
    exact run_firstCells_some w' sz' m _ m cap _ (by simp[hyl];omega) fun j v hv=>by
     rw[zmc hw',zbZ];rw[List.getElem?_take]at hv;split at hv
     ·rw[List.getElem?_drop]at hv;exact hyc _ _ hv
     ·cases hv
  ·exact h.elim
 ·exact h.elim
theorem Mem.ghost_put {l:Nat} (h:Mem inv w0 M σ β w) (hl:zax σ<=l):Mem inv w0 M (sput σ l (.cells [] false)) β w/\Ext l (ctx inv M σ β w) (ctx inv M (sput σ l (.cells [] false)) β w)/\zai β w (sput σ l (.cells [] false)) l=some ⟨0,0,0,false⟩:=by
 have hno:∀ o,zah σ l≠some o:=fun o e=>by have:=(zau σ l o e).1;omega
 have hget:∀ k o,zah (sput σ l (.cells [] false)) k=some o->o.real=true->zah σ k=some o:=by
  intro k o e hr;rw[zag]at e;split at e
  ·simp at e;subst e;cases hr
  ·exact e
 have hpl:∀ k,k≠l->zai β w (sput σ l (.cells [] false)) k=zai β w σ k:=by
  intro k hk;unfold zai;rw[zag,if_neg hk]
 have hx:Ext l (ctx inv M σ β w) (ctx inv M (sput σ l (.cells [] false)) β w):=by
  refine ⟨⟨rfl,Nat.le_refl _,fun _ _ _=>rfl,fun b _ hA=>?_⟩,fun k hk p' hp'=>?_⟩
  ·rcases hA with hm|⟨k,o,e,hr,hb⟩
   ·exact .inl hm
   ·exact .inr ⟨k,o,hget k o e hr,hr,hb⟩
  ·exact ⟨p',(hpl k (by omega)).symm.trans hp',Nat.le_refl _,fun _=>rfl⟩
 refine ⟨⟨h.below,fun l1 l2 o1 o2 e1 e2 r1 r2=>h.inj l1 l2 o1 o2 (hget _ _ e1 r1) (hget _ _ e2 r2) r1 r2,fun l1 o1 e1 r1=>h.own l1 o1 (hget _ _ e1 r1) r1,fun l1 cs e1=>?_,fun l1 cs e1=>?_,fun l1 kvs e1=>h.maps l1 kvs (hget _ _ e1 rfl)⟩,hx, ?_⟩
 ·have e2:=hget _ _ e1 rfl
  obtain ⟨xs,ty,q1,q2,q3⟩:=h.cells l1 cs e2;exact ⟨xs,ty,q1,q2,hx.relCs (zaA _ (Nat.le_trans (zau σ l1 _ e2).2 hl)) q3⟩
 ·rw[zag]at e1
  split at e1
  ·simp at e1;exact e1
  ·exact h.ghost l1 cs e1
 ·unfold zai
  rw[zag,if_pos rfl];rfl
theorem Mem.alike {σ':AS} (h:Mem inv w0 M σ β w) (he:∀ l,zah σ' l=zah σ l) (N1:Nat):Mem inv w0 M σ' β w/\Ext N1 (ctx inv M σ β w) (ctx inv M σ' β w):=h.drop (fun l o e=>by rw[<-he l];exact e) N1
theorem zsm {t u ty e d':TypeId} {i:TypeInfo} {z:Value} (hs:St inv w0 M n φ σ β a w) (ht:P.underlying t=some (.slice e)) (hu:P.underlying u=some (.slice d')) (hi:P.info? e=some i) (hz:i.zero=some z) (hzs:z.cells.size=i.size) (hpos:0<i.size) (hby:i.bytes<=32768)
  {d:Nat} (hd:d<n) {s x:AV} {vs vx:Value} (hs1:rel (ctx inv M σ β w) s vs) (hx1:rel (ctx inv M σ β w) x vx) {K:AF->AS->Prop}
  (hh:zmo σ i.size x fun m new=>zml φ σ (zaw N φ σ) d i.size s m new K) :
  ∃ v w' φ' σ' β',K φ' σ'/\(Builtin.append_ #[t,u] ty #[vs,vx]).run P w=.ok v w'/\St inv w0 M n φ' σ' β' (a.put (some d) v) w'/\Ext N (ctx inv M σ β w) (ctx inv M σ' β' w'):=by
 obtain ⟨m,new,A,c,news,h,rfl,hnr,hnl,hnb,hfc⟩:=zpD (P:=P) hs.mem hx1 hh;clear hh;have hnewl:=zaB hnr;obtain ⟨f1,f2,f3⟩:=zbw N φ σ;have hones:=zdX hnr;unfold zml at h;split at h
 ·-- nothing lies zcl
  rename_i sz0;obtain ⟨hsize,h⟩:=h;simp only[rel]at hs1;obtain ⟨ad,rfl⟩:=hs1;by_cases h0:m=0
  ·subst h0
   have hn0:new=[]:=List.eq_nil_of_length_eq_zero (by rw[hnewl,hnl];simp)
   subst hn0;have hg:=hs.mem.ghost_put f3;refine ⟨.slice ad 0 0,w,_,_,β,h,zhb w ht hu hi ad 0 0 (Nat.le_refl _) A c, ?_,hg.2.1.mono f1⟩;simp only[Nat.lt_irrefl,decide_false];refine hs.put hg.1 hg.2.1 f2 hd ?_;simp only[rel];refine ⟨rfl,fun p' hp'=>?_⟩
   have:p'=⟨0,0,0,false⟩:=by have:=(show zai β w _ _=some p' from hp').symm.trans hg.2.2;simpa using this
   subst this;exact ⟨by simp,fun _=>⟨by simp,ad,0,rfl,Nat.le_refl _,by simp⟩⟩
  ·have hfo:(Builtin.firstCells i.size 0 (.slice ad 0 0)).run P w.drew=.ok #[] w.drew:=by cases ad<;>simp[Builtin.firstCells,loadCells,loadCellsFrom]
   have hrun:=zeF (P:=P) (ty:=ty) w ht hu hi hz ad 0 0 [] news A m c hfo (hfc w.drew rfl) (by omega) (by omega)
    (growslice_fits (by omega) (Nat.le_trans (Nat.mul_le_mul_left _ hby) (by omega)))
   simp only[Nat.zero_add]at hrun;have hge:=grownCap_ge w m 0 e;have hnew:=hs.new_sm (N:=N) (d:=d) hd (cs:=new) (m:=m) (sz:=i.size) (cap:=grownCap w m 0 e) (w':=w.drew.alloc (.cells ([].toArray++news.toArray++Builtin.zeroCells z.cells (grownCap w m 0 e-m)) e))
    rfl rfl rfl rfl (Nat.le_trans hnb f3) (by rw[hnewl,hnl]) hge
    (by simp[size_zeroCells,hzs,hnl];rw[<-Nat.add_mul];exact Nat.mul_le_mul_right _ (by omega))
    (by simp[hnewl];exact hnr)
   rw[show decide (0<m)=true by simp;omega]at h
   exact ⟨_,_,_,_,_,h,hrun,hnew.1,hnew.2⟩
 ·-- a named row
  rename_i l ver off k sz';obtain ⟨e1,e2,hkv,hsize,h⟩:=h;subst e1 e2;split at h
  ·rename_i cs r hg
   obtain ⟨hv,h⟩:=h;have hlive:zcd σ l ver:=by unfold zcd;rw[hg];exact hv
   obtain ⟨p,ad,cap,hp,hpv,hb,rfl,hcap,hr⟩:=zcP hlive hs1;by_cases h0:m=0
   ·subst h0
    have hn0:new=[]:=List.eq_nil_of_length_eq_zero (by rw[hnewl,hnl];simp)
    subst hn0;have hal:=hs.mem.alike (σ':=sput σ l (.cells (cs++[]) (r||decide (0<0)))) (fun l'=>by rw[zag];split<;>simp_all) (zaw N φ σ)
    refine ⟨.slice ad k cap,w,_,_,β,h,zhb w ht hu hi ad k cap hcap A c, ?_,hal.2.mono f1⟩;refine hs.put hal.1 hal.2 f2 hd ?_;have:rel (ctx inv M σ β w) (.sm l ((k+0)*i.size) 0 (k+0) i.size) (.slice ad k cap):=by rw[Nat.add_zero,hkv];exact hs1
    refine hal.2.rel ?_ this;simp only[AV.under,Nat.blt_eq];have:=(zau σ l _ hg).1;omega
   ·have hrb:(r||decide (0<m))=true:=by simp;omega
    rw[hrb]at h;by_cases hroom:k+m<=cap
    ·-- zcl is room
     have hreal:r=true:=by
      cases r with
      |true=>rfl
      |false=>unfold zai at hp;rw[hg]at hp;cases hp;simp at hr;omega
     subst hreal;have hpe:p=⟨β l,cs.length,zaN w (β l),true⟩:=by unfold zai at hp;rw[hg]at hp;cases hp;rfl
     subst hpe;simp only[if_true]at hr;obtain ⟨hr1,hr2⟩:=hr;have had:ad=some ⟨β l,0,none⟩:=hr1.resolve_left (by omega)
     subst had;obtain ⟨xs,te,e1,e2,e3⟩:=hs.mem.cells l cs hg;have hbs:zaN w (β l)=xs.size:=by simp[zaN,e1]
     rw[hbs]at hr2;have hfit:k*i.size+news.length<=xs.size:=by rw[hnl,<-Nat.add_mul];exact Nat.le_trans (Nat.mul_le_mul_right _ hroom) (by omega)
     have hrun:=zha (P:=P) (ty:=ty) w ht hu hi (β l) k cap xs te e1 A m c news (hfc w rfl) hones hroom hfit;have hcl:cs.length=k*i.size:=by omega
     have hxl:cs.length<=xs.toList.length:=by simpa using e2
     have hw:=hs.mem.write (cs':=cs++new) (xs':=(xs.toList.take (k*i.size)++news++xs.toList.drop (k*i.size+news.length)).toArray) (N2:=zaw N φ σ) hg e1 f3
      (zb1 (Nat.le_trans (zau σ l _ hg).2 f3) (Nat.le_trans hnb f3))
      (by simp[hnewl];omega) (by simp;omega) (by simp)
      (by
       have hlen:(xs.toList.take (k*i.size)++news).length=(cs++new).length:=by simp[hnewl];omega
       simp only;rw[List.take_append_of_le_length (by rw[hlen];exact Nat.le_refl _),<-hlen,List.take_length,<-hcl]
       exact za6 e3 hnr)
     refine ⟨_,_,_,_,β,h,hrun,hs.put hw.1 hw.2.1 f2 hd ?_,hw.2.1.mono f1⟩;have:=zgc (inv:=inv) (M:=M) (off:=0) (m:=k+m) (sz:=i.size) (cap:=cap) (ver:=(k+m)*i.size) hw.2.2 (by simp[hnewl,hnl,Nat.add_mul];omega) (by simp) hroom rfl (by simpa using hr2)
     exact this
    ·-- a new row
     have holds:∃ olds:List Value,olds.length=k*i.size/\relCs (ctx inv M σ β w) cs olds/\(Builtin.firstCells i.size k (.slice ad k cap)).run P w.drew=.ok olds.toArray w.drew:=by
      cases r with
      |false =>
       have hc0:=hs.mem.ghost l cs hg;subst hc0;have hk0:k=0:=by
        rcases Nat.eq_zero_or_pos k with e|e
        ·exact e
        ·have:0<k*i.size:=Nat.mul_pos e hpos
         simp at hv;omega
       subst hk0;refine ⟨[],by simp,zbs, ?_⟩
       cases ad<;>simp[Builtin.firstCells,loadCells,loadCellsFrom]
      |true =>
       have hpe:p=⟨β l,cs.length,zaN w (β l),true⟩:=by unfold zai at hp;rw[hg]at hp;cases hp;rfl
       subst hpe;simp only[if_true]at hr;obtain ⟨ys,hyl,hyr,hyc⟩:=hs.mem.cell hg;refine ⟨ys,by omega,hyr, ?_⟩
       by_cases hk:k=0
       ·subst hk
        have:ys=[]:=List.eq_nil_of_length_eq_zero (by omega)
        subst this;cases ad<;>simp[Builtin.firstCells,loadCells,loadCellsFrom]
       ·have had:ad=some ⟨β l,0,none⟩:=hr.1.resolve_left (by omega)
        subst had;exact run_firstCells_some w.drew i.size k _ k cap ys (by omega) fun j v hv'=>by rw[zbZ];simpa using hyc j v hv'
     obtain ⟨olds,hol,hor,hof⟩:=holds;have hrun:=zeF (P:=P) (ty:=ty) w ht hu hi hz ad k cap olds news A m c hof (hfc w.drew rfl) (by omega) (by omega)
      (growslice_fits (by omega) (Nat.le_trans (Nat.mul_le_mul_left _ hby) (by omega)))
     have hge:=grownCap_ge w (k+m) cap e;have hcl:cs.length=k*i.size:=by omega
     generalize hblk:olds.toArray++news.toArray++Builtin.zeroCells z.cells (grownCap w (k+m) cap e-(k+m))=blk at hrun;have hbl:blk.size=grownCap w (k+m) cap e*i.size:=by
      rw[<-hblk];simp only[Array.size_append,List.size_toArray,size_zeroCells,hzs,hol,hnl,<-Nat.add_mul]
      congr 1
      omega
     have hbt:blk.toList.take (cs++new).length=olds++news:=by
      rw[<-hblk];have:(cs++new).length=(olds++news).length:=by simp[hnewl,hol];omega
      rw[this];simp only[Array.toList_append];rw[List.take_left'];rfl
     have hheap:∀ b,b<w.heap.size->(w.drew.alloc (.cells blk e)).heap[b]?=w.heap[b]?:=fun b hb=>Below.heap_alloc w.drew _ b hb
     have hlen':(cs++new).length<=blk.size:=by
      rw[hbl];simp only[List.length_append,hnewl,hnl,hcl,<-Nat.add_mul];exact Nat.mul_le_mul_right _ hge
     have hsizep:0<m*i.size:=Nat.mul_pos (by omega) hpos
     have hput:=Mem.put (l:=l) (b':=w.heap.size) (cs':=cs++new) (xs':=blk) (ty:=e) (N:=zaw N φ σ) (w':=w.drew.alloc (.cells blk e)) hs.mem
      (hs.mem.below.trans ⟨rfl,rfl,rfl,by simp,fun b hb=>hheap b (Nat.lt_of_lt_of_le hb hs.mem.below.size)⟩) (by simp) (fun b hb _=>hheap b hb) (heap_alloc_new w.drew _) hlen' hs.mem.below.size
      (fun l' o' _ e' hr'=>Nat.ne_of_lt (hs.mem.own l' o' e' hr').2) (.inl (Nat.le_refl _)) (fun l' o' e' _=>Nat.le_trans (zau σ l' o' e').2 f3)
      (zb1 (Nat.le_trans (zau σ l _ hg).2 f3) (Nat.le_trans hnb f3))
      (fun _ p' hp'=>⟨p,hp,by simp at hp';subst hp';simp[hpv,hnewl,hnl];omega,fun ee=>by simp at hp';subst hp';simp[hpv,hnewl,hnl]at ee;omega⟩)
      (by rw[hbt];exact za6 hor hnr)
     have hpl:zai (upd β l w.heap.size) (w.drew.alloc (.cells blk e)) (sput σ l (.cells (cs++new) true)) l=some ⟨w.heap.size,(cs++new).length,blk.size,true⟩:=by
      unfold zai;rw[zag,if_pos rfl];have:(w.drew.alloc (.cells blk e)).heap[w.heap.size]?=some (.cells blk e (0,0)):=heap_alloc_new w.drew _;simp only[zbe,zaN,this]
     refine ⟨_,_,_,_,_,h,hrun,hs.put hput.1 hput.2 f2 hd ?_,hput.2.mono f1⟩;exact zgc (inv:=inv) (M:=M) (off:=0) (m:=k+m) (sz:=i.size) (cap:=grownCap w (k+m) cap e) (ver:=(k+m)*i.size) hpl (by simp[hnewl,hnl,Nat.add_mul];omega) (by simp) hge rfl (by show 0+_<=blk.size;rw[hbl];omega)
  ·exact h.elim
 ·exact h.elim
theorem zsb (hs:St inv w0 M n φ σ β a w) {t e ty:TypeId} {i:TypeInfo} {zs:List (Nat×AV)} (ht:P.underlying t=some (.slice e)) (hz:zdO P e=some zs) (hi:P.info? e=some i) (hl:(zc3 zs).length=i.size) (hpos:0<i.size)
  {x:AV} {K:AF->AS->Prop}
  (h:match x with
  |.s0 _=>K φ σ
  |.sm l ver off n sz'=>ob (sz'=i.size) <| ob (off+n*i.size<=ver) (match zah σ l with
   |some (.cells cs r)=>ob (cs.length=ver) (K φ (sput σ l (.cells (ovl cs off (List.replicate n (zc3 zs)).flatten) r)))
   |_=>False)
  |_=>False) {v:Value} (hv:rel (ctx inv M σ β w) x v) :
  ∃ w' σ',(Builtin.clear_ #[t] ty #[v]).run P w=.ok (.tuple #[]) w'/\St inv w0 M n φ σ' β a w'/\Ext N (ctx inv M σ β w) (ctx inv M σ' β w')/\K φ σ':=by
 cases x with
 |s0 sz0 =>
  simp only[rel]at hv;obtain ⟨ad,rfl⟩:=hv;refine ⟨w,σ, ?_,hs,.refl _ _,h⟩;cases ad<;>simp[Builtin.clear_,run_underlying ht]
 |sm l ver off m sz' =>
  obtain ⟨rfl,h2,h⟩:=h;split at h
  ·rename_i cs r hg
   obtain ⟨hver,h⟩:=h;have hlive:zcd σ l ver:=by unfold zcd;rw[hg];exact hver
   obtain ⟨p,ad,cap,hp,hpv,hb,rfl,hcap,hr⟩:=zcP hlive hv;obtain ⟨f1,f2,f3⟩:=zbw N φ σ;by_cases h0:m=0
   ·subst h0
    simp only[List.replicate_zero,List.flatten_nil]at h;have ho:ovl cs off []=cs:=rfl;rw[ho]at h;have hal:=hs.mem.alike (σ':=sput σ l (.cells cs r)) (fun l'=>by rw[zag];split<;>simp_all) (zaw N φ σ)
    refine ⟨w,_, ?_,hs.keep hal.1 hal.2 f2,hal.2.mono f1,h⟩;cases ad<;>simp[Builtin.clear_,run_underlying ht]
   ·have hreal:r=true:=by
     cases r with
     |true=>rfl
     |false=>unfold zai at hp;rw[hg]at hp;cases hp;simp at hr;omega
    subst hreal;have hpe:p=⟨β l,cs.length,zaN w (β l),true⟩:=by unfold zai at hp;rw[hg]at hp;cases hp;rfl
    subst hpe;simp only[if_true]at hr;have had:ad=some ⟨β l,off,none⟩:=hr.1.resolve_left (by omega)
    subst had;obtain ⟨xs,te,e1,e2,e3⟩:=hs.mem.cells l cs hg;obtain ⟨i',zv,hi',hzv,hzr⟩:=zce (c:=ctx inv M σ β w) hz;rw[hi]at hi';simp only[Option.some.injEq]at hi';subst hi';have hzl:=zaB hzr;have hzs:zv.cells.size=i.size:=by rw[<-Array.length_toList,<-hzl];exact hl
    have hz2:(Builtin.zeroCells zv.cells m).toList=(List.replicate m zv.cells.toList).flatten:=zc1 zv.cells m;have hrr:=zgS hzr m;have hnl:((List.replicate m zv.cells.toList).flatten).length=m*i.size:=by rw[zbM];simp[hzs]
    have hcl:(List.replicate m (zc3 zs)).flatten.length=m*i.size:=by rw[zbM,hl]
    have hcsl:cs.length<=xs.toList.length:=by simpa using e2
    have hst:=run_storeCells_at P (β l) off te (List.replicate m zv.cells.toList).flatten 0 xs w e1 (by rw[hnl];omega) (zdX hrr)
    simp only[Nat.add_zero]at hst;have hw:=hs.mem.write (cs':=ovl cs off (List.replicate m (zc3 zs)).flatten) (xs':=(xs.toList.take off++(List.replicate m zv.cells.toList).flatten++xs.toList.drop (off+(List.replicate m zv.cells.toList).flatten.length)).toArray) (N2:=zaw N φ σ) hg e1 f3
     (zfm _ _ _ (Nat.le_trans (zau σ l _ hg).2 f3) (zeH (by rw[zb8 hz];omega) m))
     (by rw[zb3];simp only[List.size_toArray,List.length_append,List.length_take,List.length_drop,hnl];omega) (by simp only[List.size_toArray,List.length_append,List.length_take,List.length_drop,hnl];simp;omega) (by rw[zb3];exact Nat.le_refl _)
     (by
      rw[zb3,zir _ _ _ (by omega)]
      have:=znE xs.toList (List.replicate m zv.cells.toList).flatten off cs.length (by omega) hcsl
      rw[this,hnl,hcl];exact za6 (za6 (zcg off e3) hrr) (zch _ e3))
    refine ⟨_,_, ?_,hs.keep hw.1 hw.2.1 f2,hw.2.1.mono f1,h⟩;obtain ⟨m',rfl⟩:∃ m',m=m'+1:=⟨m-1,by omega⟩
    simp[Builtin.clear_,run_underlying ht,zeroValue,typeInfo,hi,hzv,hz2,hst]
  ·exact h.elim
 |_=>exact h.elim
end
section
variable {P:Program} {inv:Nat->Option Nat} {w0:World} {M:Nat->Prop} {n N:Nat} {φ:AF} {σ:AS} {β:Nat->Nat} {a:Act} {w:World}
theorem zox {d:Option Nat} (h:zjg n d=true):∀ k,d=some k->k<n:=by
 intro k hk;subst hk
 simpa [zjg] using h
theorem zjL (hE:zcs P inv) (hs:St inv w0 M n φ σ β a w) {g j:Nat} (hg:inv g=some j) {args:List AV} {vs:Array Value} (hr:zcp (ctx inv M σ β w) args vs.toList) {K:AF->AS->Prop} {d:Option Nat} (hd:∀ k,d=some k->k<n)
  (h:CallK P inv w0 M N φ σ j args fun r σ'=>K (zcu φ d r) σ') {o:Oper} (ho:o.dst=d) {za0:Act->World->Prop} {Q:Exit->Act->World->Prop}
  (hn:∀ φ' σ' β' a' w',K φ' σ'->St inv w0 M n φ' σ' β' a' w'->Ext N (ctx inv M σ β w) (ctx inv M σ' β' w')->za0 a' w')
  (hx:(execOp a.eval o).run P w=(callFunc g vs).run P w):o.wp P a w za0 Q:=by
 obtain ⟨fn,h1,h2,h3⟩:=hE.2 g j hg;unfold Oper.wp;have hc:(callFunc g vs).run P w=.ok (.enter g vs) w:=by
  simp only[callFunc,Sem.run_bind,run_program,Result.andThen_ok,h1,h3,h2,Bool.false_eq_true,if_false,Sem.run_pure]
 rw[hx,hc];simp only[Oper.upon];obtain ⟨N',hN,hφ,hac⟩:=h;refine (hac g hg β w vs hs.mem hr).mono fun e w' ⟨v,r,σ',β',he,hk,hm,hext,hrr⟩=>?_
 subst he;show za0 (a.put o.dst v) w'
 rw[ho];cases d with
 |none=>exact hn _ _ _ _ _ hk (hs.keep hm hext hφ) (hext.mono hN)
 |some d=>exact hn _ _ _ _ _ hk (hs.put hm hext hφ (hd d rfl) hrr) (hext.mono hN)
theorem zl6 (hs:Knows inv w0 M φ σ β a w) {ts:List TypeId} {xs:List Operand} {l:List Opd} (h:zl7 P inv (ts.zip xs)=some l) (hl:ts.length=xs.length):zcp (ctx inv M σ β w) (l.map (ev φ)) (xs.map a.eval):=by
 have:=ziT hs h;have e:(ts.zip xs).map (fun p=>a.eval p.2)=xs.map a.eval:=by
  show (ts.zip xs).map (a.eval∘Prod.snd)=_
  rw[<-List.map_map,List.map_snd_zip (by omega)]
 rw[e]at this;exact this
set_option maxHeartbeats 1000000 in
theorem zr3 (hE:zcs P inv) (hM:∀ b,M b->b<w0.heap.size) (hs:St inv w0 M n φ σ β a w) {o:Oper} {op:AOp} (hc:zbP P inv o=some op) (hdst:op.dst=o.dst) (hok:zjg n o.dst=true) {K:AF->AS->Prop} (h:aop P inv w0 M N op φ σ K)
  {za0:Act->World->Prop} {Q:Exit->Act->World->Prop} (hn:∀ φ' σ' β' a' w',K φ' σ'->St inv w0 M n φ' σ' β' a' w'->Ext N (ctx inv M σ β w) (ctx inv M σ' β' w')->za0 a' w'):o.wp P a w za0 Q:=by
 have hdl:=zox hok;obtain ⟨f1,f2,f3⟩:=zbw N φ σ;have val:∀ {v:Value} {w':World},(execOp a.eval o).run P w=.ok (.value v) w'->za0 (a.put o.dst v) w'->o.wp P a w za0 Q:=by
  intro v w' h1 h2;unfold Oper.wp;rw[h1];exact h2
 unfold zbP at hc;split at hc
 ·-- alloc
  rename_i t ho;obtain ⟨z,h1,rfl⟩:=Option.map_eq_some_iff.1 hc;simp only[AOp.dst]at hdst;obtain ⟨i,zv,hi,hz,hzr⟩:=zce (c:=ctx inv M σ β w) h1;have hlen:=zaB hzr;have hnew:=hs.new_ptr (N:=N) (ty:=t) (hdl _ hdst.symm) (cs:=zc3 z) (xs:=zv.cells) (by rw[zb8 h1];omega) (by simpa using hlen) hzr
  refine val (v:=.pointer (some ⟨w.heap.size,0,none⟩)) (w':=w.alloc (.cells zv.cells t)) ?_ ?_
  ·simp only[execOp,ho,Sem.run_bind,zfv hi hz,Result.andThen_ok,Sem.run_pure]
  ·rw[<-hdst];exact hn _ _ _ _ _ h hnew.1 hnew.2
 ·-- box
  rename_i t x ho;split at hc
  ·rename_i k dx h1 h2
   simp only[Option.some.injEq]at hc;subst hc;simp only[AOp.dst]at hdst;obtain ⟨k1,k2,h⟩:=h;have hx:=zap hs.toKnows h2;have hxc:=ziW k1 hx;have hlen:=zaB hxc;have hnew:=hs.new_ptr (N:=N) (ty:=t) (hdl _ hdst.symm) (cs:=(ev φ dx).cells) (xs:=(a.eval x).cells) (Nat.le_trans (zfQ _) (Nat.le_trans (zkR dx (zg1 h2)) f2)) (by simpa using hlen) hxc
   refine val (v:=.pointer (some ⟨w.heap.size,0,none⟩)) (w':=w.alloc (.cells (a.eval x).cells t)) ?_ ?_
   ·simp[execOp,ho,Instr.box,newVar,newRow]
   ·rw[<-hdst]
    rw[k2]at hnew;exact hn _ _ _ _ _ h hnew.1 hnew.2
  ·cases hc
 ·-- a slice and nil
  rename_i op0 t x _ ho;split at hc
  ·rename_i et e1
   have hn':∀ (ad:Option Addr) (len cap:Nat) (neg:Bool),op0=(if neg=true then .neq else .eql)->a.eval x=.slice ad len cap->(ad=none->len=0)->zq2 len neg (fun t=>K (zbq φ (o.dst.getD 0) (.b t)) σ)->o.dst=some (o.dst.getD 0)->o.wp P a w za0 Q:=by
    intro ad len cap neg hop hx hz hk hds;have hg:=zcI (P:=P) (w:=w) op0 t x (.const (.slice none 0 0)) (.slice ad len cap) (.slice none 0 0) (by simp) (by simp)
    have hcst:a.eval (.const (.slice none 0 0))=.slice none 0 0:=rfl;have hv:(execOp a.eval o).run P w=.ok (.value (.bool (ad.isNone != neg))) w:=by
     cases neg with
     |true =>
      simp only[if_true]at hop;subst hop;simp only[execOp,ho,hx,hcst,Sem.run_bind,hg,Result.andThen_ok,run_neq_slice_nil_any w t et ad len cap 0 0 e1,Sem.run_pure];simp
     |false =>
      simp only[Bool.false_eq_true,if_false]at hop;subst hop;simp only[execOp,ho,hx,hcst,Sem.run_bind,hg,Result.andThen_ok,Lib.run_eql_slice_nil w t et ad len cap 0 0 e1,Sem.run_pure];simp
    refine val hv ?_;have hput:∀ b,K (zbq φ (o.dst.getD 0) (.b b)) σ->za0 (a.put o.dst (.bool b)) w:=by
     intro b hk;rw[hds];exact hn _ _ _ _ _ hk (hs.set (hdl _ hds) (by simp only[rel])) (.refl _ _)
    cases ad with
    |none=>have:=hput (!neg) (hk.1 (hz rfl));simpa using this
    |some ad=>have:=hput neg hk.2;simpa using this
   have fin:∀ (dx:Opd) (neg:Bool),op0=(if neg=true then .neq else .eql)->zc5 P inv t x=some dx->op=.isnil (o.dst.getD 0) neg dx->o.wp P a w za0 Q:=by
    intro dx neg hop h1 e;subst e;have r1:=zap hs.toKnows h1;simp only[AOp.dst]at hdst;simp only[aop]at h;split at h
    ·rename_i sz es ep
     rw[ep]at r1;simp only[rel]at r1;obtain ⟨ad,cap,q1,_,q3⟩:=r1;refine hn' ad _ cap neg hop q1 (fun e=>?_) h hdst.symm
     cases es with
     |nil=>rfl
     |cons r es=>obtain ⟨a',ea,_⟩:=q3 (by simp);rw[e]at ea;cases ea
    ·rename_i sz ep
     rw[ep]at r1;simp only[rel]at r1;obtain ⟨ad,q1⟩:=r1;exact hn' ad _ _ neg hop q1 (fun _=>rfl) h hdst.symm
    ·rename_i l ver off m sz ep
     rw[ep]at r1;obtain ⟨p,ad,cap,_,_,_,q1,hcap,hr⟩:=zcP h.1 r1;refine hn' ad _ cap neg hop q1 (fun e=>?_) h.2 hdst.symm
     subst e;split at hr
     ·rcases hr.1 with h0|h0
      ·omega
      ·cases h0
     ·omega
    ·exact h.elim
   split at hc
   ·rename_i dx h1
    simp only[Option.some.injEq]at hc;exact fin dx false rfl h1 hc.symm
   ·rename_i dx h1
    simp only[Option.some.injEq]at hc;exact fin dx true rfl h1 hc.symm
   ·cases hc
  ·cases hc
 ·-- buildSlice
  rename_i t len parts ho;split at hc
  ·rename_i h00
   obtain ⟨hlen0,hp0⟩:=h00;split at hc
   ·rename_i e e1
    obtain ⟨k,h1,rfl⟩:=Option.map_eq_some_iff.1 hc;simp only[AOp.dst]at hdst;simp only[aop]at h;have hp1:parts=#[]:=Array.isEmpty_iff.1 hp0;have hrun:(execOp a.eval o).run P w=.ok (.value (.slice (some ⟨w.heap.size,0,none⟩) 0 0)) (w.alloc (.cells #[] e)):=by
     simp[execOp,ho,hlen0,hp1,Instr.buildSlice,Sem.run_bind,run_underlying e1,zc4 h1,Instr.fill,newRow]
     congr 2
     exact Array.eq_empty_of_size_eq_zero (by simp)
    obtain ⟨m1,m2⟩:=hs.mem.call (w':=w.alloc (.cells #[] e)) ((Below.refl _ w).alloc (Nat.le_refl _) _) (mx N (zaM φ));refine val hrun ?_;rw[<-hdst];exact hn _ _ _ _ _ h (hs.put m1 m2 (zaq _ _) (hdl _ hdst.symm) (by simp only[rel];exact ⟨_,rfl⟩)) (m2.mono (zaQ _ _))
   ·cases hc
  rename_i hnot;split at hc
  ·rename_i e e1
   split at hc
   ·rename_i k z h1 h2
    split at hc
    ·rename_i ps h3
     split at hc
     ·rename_i hcond
      obtain ⟨c1,c2,c3,c4⟩:=hcond;simp only[Option.some.injEq]at hc;subst hc;simp only[AOp.dst]at hdst;obtain ⟨i,zv,hi,hz,hzr⟩:=zce (c:=ctx inv M σ β w) h2;have hzl:=zaB hzr;have hzs:zv.cells.size=k:=by rw[<-Array.length_toList,<-hzl];exact c4
      simp only[aop]at h;obtain ⟨cs,ecs,h⟩:=za2 h
      ·have hmade:relCs (ctx inv M σ β w) (List.replicate len (zc3 z)).flatten (madeCells zv.cells (len*k)).toList:=by
        rw[<-hzs,zc1];exact zgS hzr len
       obtain ⟨cells',k1,k2⟩:=zd7 hs.toKnows h3 ecs hmade;have hcl:cs.length=len*k:=by
        have:∀ {ps:List (Nat×Nat×Opd)} {c c':List AV},zdn φ c ps=some c'->c'.length=c.length:=by
         intro ps
         induction ps with
         |nil=>intro c c' h;simp only[zdn,Option.some.injEq]at h;rw[h]
         |cons p ps ih =>
          obtain ⟨o1,o2,o3⟩:=p;intro c c' h;simp only[zdn]at h;split at h
          ·rw[ih h,zb3]
          ·cases h
        rw[this ecs,zbM,c4]
       have hcl2:=zaB k2;have hrun:(execOp a.eval o).run P w=.ok (.value (.slice (some ⟨w.heap.size,0,none⟩) len len)) (w.alloc (.cells cells' e)):=by
        have hne:¬len*k=0:=fun e=>by rcases Nat.mul_eq_zero.1 e with e|e<;>omega
        have hle:¬(len*k > 2 ^ 24):=by have:(2:Nat) ^ 24=16777216:=rfl;omega
        have k1':Instr.fill (fun i=>some (i*k,k)) (Array.map (fun x=>zv.cells[x % zv.cells.size]!) (Array.range (len*k))) (parts.toList.map fun p=>(p.1,a.eval p.2))=some cells':=by
         rw[<-k1];simp only[Option.map_some];rfl
        simp only[execOp,ho,Instr.buildSlice,Sem.run_bind,run_underlying e1,Result.andThen_ok,zc4 h1,if_neg hle,Sem.run_pure,if_neg hne,zeroValue,run_typeInfo w hi,hz];simp only[Array.toList_map]at k1' |-
        rw[k1'];simp[newRow]
       have hb:zab cs<=zaw N φ σ:=zfP ecs (zeS h3) _ f2 (zeH (by rw[zb8 h2];omega) len)
       have hrow:relCs (ctx inv M σ β w) cs (cells'.toList.take cs.length):=by
        rw[show cs.length=cells'.toList.length from hcl2,List.take_length]
        exact k2
       have hnew:=hs.new_sm (N:=N) (hdl _ hdst.symm) (cs:=cs) (xs:=cells') (ty:=e) (sz:=k) (m:=len) (cap:=len) (w':=w.alloc (.cells cells' e)) rfl rfl rfl rfl hb hcl (Nat.le_refl _) (by rw[<-Array.length_toList,<-hcl2,hcl];exact Nat.le_refl _) hrow
       refine val hrun ?_;rw[<-hdst];split at h
       ·rename_i hbare
        have hcall:=hs.mem.call (w':=w.alloc (.cells cells' e)) ((Below.refl _ _).alloc (Nat.le_refl _) _) (zaM φ);have hcallN:=hs.mem.call (w':=w.alloc (.cells cells' e)) ((Below.refl _ _).alloc (Nat.le_refl _) _) N;refine hn _ _ _ _ _ h (hs.put hcall.1 hcall.2 (Nat.le_refl _) (hdl _ hdst.symm) ?_) hcallN.2;simp only[rel];refine ⟨_,_,by rw[zbX],by rw[zbX];exact Nat.le_refl _,fun _=>⟨_,rfl, ?_, ?_, ?_⟩⟩
        ·rintro (hm|⟨l',o',e',hr',hb'⟩)
         ·have h6:=hM _ hm
          have h7:=hs.mem.below.size;simp only at h6;omega
         ·have:=(hs.mem.own l' o' e' hr').2
          simp only at hb';omega
        ·show w.heap.size<(w.alloc (.cells cells' e)).heap.size
         simp
        ·refine zcX len (by omega) hbare (ys:=cells'.toList) ?_ fun j u hu=>?_
         ·have h5:=hcall.2.relCs (zaA cs (by rw[zbr cs hbare];omega)) k2
          exact zdY (S:=fun _=>none) cs _ hbare h5
         ·show (w.alloc (.cells cells' e)).cell? _=some u
          rw[Nat.zero_add,zbZ,Nat.zero_add];have:(w.alloc (.cells cells' e)).heap[w.heap.size]?=some (.cells cells' e (0,0)):=heap_alloc_new w _;simp only[World.cell?,this,Option.isSome_none,Bool.false_eq_true,if_false]
          simpa using hu
       ·exact hn _ _ _ _ _ h hnew.1 hnew.2
     ·cases hc
    ·cases hc
   ·cases hc
  ·cases hc
 ·-- store
  rename_i t x y ho;split at hc
  ·rename_i k dx dy h1 h2 h3
   simp only[Option.some.injEq]at hc;subst hc;simp only[AOp.dst]at hdst;have r1:=zap hs.toKnows h2;have r2:=zap hs.toKnows h3;simp only[aop]at h;split at h
   ·rename_i l ver off ep
    rw[ep]at r1;split at h
    ·rename_i cs r hg
     obtain ⟨q1,q2,q3,⟨q4,q5⟩,h⟩:=h;obtain ⟨w',hrun,hst,hext⟩:=zmx (N:=N) hs h1 r1 r2 (zkR dy (zg1 h3)) hg q1 q2 q3 q4 q5;unfold Oper.wp;have hx:(execOp a.eval o).run P w=.ok .skip w':=by simp only[execOp,ho,Sem.run_bind,hrun,Result.andThen_ok,Sem.run_pure]
     rw[hx];show za0 (a.put o.dst undef) w'
     rw[<-hdst];exact hn _ _ _ _ _ h hst hext
    ·exact h.elim
   ·exact h.elim
  ·cases hc
 ·-- makeSlice
  rename_i t l c ho;split at hc
  ·rename_i e e1
   split at hc
   ·rename_i i z dl dc hi h2 h3 h4
    split at hc
    ·rename_i hcond
     obtain ⟨c1,c2,c3⟩:=hcond;simp only[Option.some.injEq]at hc;subst hc;simp only[AOp.dst]at hdst;obtain ⟨i',zv,hi',hz,hzr⟩:=zce (c:=ctx inv M σ β w) h2;rw[hi]at hi';simp only[Option.some.injEq]at hi';subst hi';have hzl:=zaB hzr;have hzs:zv.cells.size=i.size:=by rw[<-Array.length_toList,<-hzl];exact c2
     have r1:=zap hs.toKnows h3;have r2:=zap hs.toKnows h4;simp only[aop]at h;split at h
     ·rename_i kl al kc ac el ec
      rw[el]at r1;rw[ec]at r2;simp only[rel]at r1 r2;obtain ⟨⟨q1,q2,q3⟩,h⟩:=h;have hbytes:(i.bytes:Int)*ac<=281474976710656:=by
       have h5:(i.bytes:Int)*ac<=32768*ac:=Int.mul_le_mul_of_nonneg_right (by omega) (by omega)
       omega
      have hrun:=run_make (P:=P) w t e i zv e1 hi hz kl kc al ac q1 q2 hbytes (by omega)
      have hle:al.toNat<=ac.toNat:=by omega
      have hnew:=hs.new_sm (N:=N) (hdl _ hdst.symm) (cs:=(List.replicate al.toNat (zc3 z)).flatten) (xs:=madeCells zv.cells (ac.toNat*i.size)) (ty:=e) (sz:=i.size) (m:=al.toNat) (cap:=ac.toNat) (w':=w.alloc (.cells (madeCells zv.cells (ac.toNat*i.size)) e)) rfl rfl rfl rfl
       (zeH (by rw[zb8 h2];omega) _) (by rw[zbM,c2]) hle (by rw[size_madeCells];exact Nat.le_refl _)
       (by rw[zbM,c2,<-hzs,zjc zv.cells _ _ hle];exact zgS hzr _)
      refine val (v:=.slice (some ⟨w.heap.size,0,none⟩) al.toNat ac.toNat) (w':=w.alloc (.cells (madeCells zv.cells (ac.toNat*i.size)) e)) ?_ ?_
      ·simp only[execOp,ho,r1,r2,Sem.run_bind,hrun,Result.andThen_ok,Sem.run_pure]
      ·rw[<-hdst];exact hn _ _ _ _ _ h hnew.1 hnew.2
     ·exact h.elim
    ·cases hc
   ·cases hc
  ·cases hc
 ·-- call
  rename_i c ho;unfold znn at hc;split at hc
  ·rename_i g ecal
   split at hc
   ·rename_i j l h1 h2
    split at hc
    ·rename_i hsz
     simp only[Option.some.injEq]at hc;subst hc;simp only[aop]at h;refine zjL hE hs h1 (vs:=c.args.map a.eval) ?_ hdl h rfl hn ?_
     ·rw[Array.toList_map];exact zl6 hs.toKnows h2 (by simpa using hsz)
     ·simp[execOp,ho,resolve,ecal,invoke,Act.eval,Deferred.ofValue]
    ·cases hc
   ·cases hc
  ·rename_i f _ ecal
   split at hc
   ·rename_i df l h1 h2
    split at hc
    ·rename_i hsz
     simp only[Option.some.injEq]at hc;subst hc;have r1:=zap hs.toKnows h1;simp only[aop]at h;split at h
     ·rename_i j caps ej
      rw[ej]at r1;simp only[rel]at r1;obtain ⟨g,xs,q1,q2,q3⟩:=r1;refine zjL hE hs q2 (vs:=c.args.map a.eval++xs) ?_ hdl h rfl hn ?_
      ·rw[Array.toList_append,Array.toList_map];exact zif (zl6 hs.toKnows h2 (by simpa using hsz)) q3
      ·simp[execOp,ho,resolve,ecal,q1,invoke,Deferred.ofValue]
     ·exact h.elim
    ·cases hc
   ·cases hc
  ·-- clear
   rename_i ecal;split at hc
   ·rename_i s t e0 e1 e2
    split at hc
    ·rename_i e ds e3 e4
     split at hc
     ·rename_i i z hi e8
      split at hc
      ·rename_i hcond
       simp only[Option.some.injEq]at hc;subst hc;simp only[aop]at h;obtain ⟨callee,⟨args⟩,⟨ts⟩⟩:=c;simp only at ecal e1 e2;subst ecal e1 e2;obtain ⟨w',σ',hrun,hst,hext,hk⟩:=zsb (N:=N) (ty:=o.type) hs e3 e8 hi hcond.2 hcond.1 h (zap hs.toKnows e4);refine val (v:=.tuple #[]) (w':=w') ?_ ?_
       ·simp[execOp,ho,resolve,invoke,builtin,hrun]
       ·rw[e0];exact hn _ _ _ _ _ hk hst hext
      ·cases hc
     ·cases hc
    ·cases hc
   ·cases hc
  ·rename_i ecal
   split at hc
   ·rename_i d s x t u e0 e1 e2
    split at hc
    ·rename_i e d' ds dx e3 e4 e5 e6
     split at hc
     ·rename_i i e7
      split at hc
      ·rename_i z e8
       split at hc
       ·rename_i hcond
        simp only[Option.some.injEq]at hc;subst hc;simp only[aop]at h;obtain ⟨v,w',φ',σ',β',hk,hrun,hst,hext⟩:=zsm (N:=N) (ty:=o.type) hs e3 e4 e7 e8 hcond.2.1 hcond.1 hcond.2.2 (hdl d e0) (zap hs.toKnows e5) (zap hs.toKnows e6) h;obtain ⟨callee,⟨args⟩,⟨ts⟩⟩:=c;simp only at ecal e1 e2;subst ecal e1 e2;refine val (v:=v) (w':=w') ?_ ?_
        ·simp[execOp,ho,resolve,invoke,builtin,hrun]
        ·rw[e0];exact hn _ _ _ _ _ hk hst hext
       ·cases hc
      ·cases hc
     ·cases hc
    ·-- so many zeros
     rename_i e kq ds dx e3 e4 e5 e6;split at hc
     ·rename_i i z hi e8
      split at hc
      ·rename_i hcond
       obtain ⟨c1,c2,c3⟩:=hcond;simp only[Option.some.injEq]at hc;subst hc;obtain ⟨i',zv,hi',hz,hzr⟩:=zce (c:=ctx inv M σ β w) e8;rw[hi]at hi';simp only[Option.some.injEq]at hi';subst hi';have hzl:=zaB hzr;have hzs:zv.cells.size=i.size:=by rw[<-Array.length_toList,<-hzl];exact c2
       have r1:=zap hs.toKnows e5;have r2:=zap hs.toKnows e6;simp only[aop]at h;obtain ⟨callee,⟨args⟩,⟨ts⟩⟩:=c;simp only at ecal e1 e2;subst ecal e1 e2;split at h
       ·rename_i sz0 b el eb
        rw[el]at r1;rw[eb]at r2;simp only[rel]at r1 r2;obtain ⟨ad,r1⟩:=r1;obtain ⟨⟨q1,q2⟩,h⟩:=h;obtain ⟨m,rfl⟩:=Int.eq_ofNat_of_zero_le q1;simp only[Int.toNat_natCast]at h;rcases Nat.eq_zero_or_pos m with h0|h0
        ·subst h0
         simp only[Nat.lt_irrefl,decide_false,List.replicate_zero,List.flatten_nil]at h;have hg:=hs.mem.ghost_put f3;have hrun:(Builtin.append_ #[t,u] o.type #[.slice ad 0 0,.int .i64 ((0:Nat):Int)]).run P w=.ok (.slice ad 0 0) w:=by
          have hw:IntKind.i64.wrap (0:Int)=0:=by rw[IntKind.wrap_i64];rfl
          cases ad<;>simp[Builtin.append_,run_underlying e3,run_underlying e4,sizeOf,typeInfo,hi,asInt,asIntOf,hw,storeCells]
         refine val (v:=.slice ad 0 0) (w':=w) ?_ ?_
         ·simp only[Int.natCast_zero]at hrun
          simp[execOp,ho,resolve,invoke,builtin,r1,r2,hrun]
         ·rw[e0]
          refine hn _ _ _ _ _ h (hs.put hg.1 hg.2.1 f2 (hdl d e0) ?_) (hg.2.1.mono f1);simp only[rel];refine ⟨rfl,fun p' hp'=>?_⟩
          have:p'=⟨0,0,0,false⟩:=by have:=(show zai β w _ _=some p' from hp').symm.trans hg.2.2;simpa using this
          subst this;exact ⟨by simp,fun _=>⟨by simp,ad,0,rfl,Nat.le_refl _,by simp⟩⟩
        ·have hm31:m<=2147483648:=by omega
         have hby:m*i.bytes<=140737488355328:=Nat.le_trans (Nat.mul_le_mul_left _ c3) (by omega)
         have hfo:(Builtin.firstCells i.size 0 (.slice ad 0 0)).run P w.drew=.ok #[] w.drew:=by cases ad<;>simp[Builtin.firstCells,loadCells,loadCellsFrom]
         have hrun:=Lib.run_append_grow_zeros (P:=P) w t u o.type e i zv .i64 kq e3 e4 hi hz ad 0 0 [] hfo m h0 c1 (by omega) (by omega) (by omega) (growslice_fits (by omega) (by simpa using hby))
         simp only[Nat.zero_add]at hrun;have hge:=grownCap_ge w m 0 e;rw[show decide (0<m)=true by simpa using h0]at h
         have hnew:=hs.new_sm (N:=N) (hdl d e0) (cs:=(List.replicate m (zc3 z)).flatten) (m:=m) (sz:=i.size) (cap:=grownCap w m 0 e) (w':=w.drew.alloc (.cells ([].toArray++Builtin.zeroCells zv.cells m++Builtin.zeroCells zv.cells (grownCap w m 0 e-m)) e))
          rfl rfl rfl rfl (zeH (by rw[zb8 e8];omega) _) (by rw[zbM,c2]) hge
          (by simp[size_zeroCells,hzs];rw[<-Nat.add_mul];exact Nat.mul_le_mul_right _ (by omega))
          (by
           have hz2:(Builtin.zeroCells zv.cells m).toList=(List.replicate m zv.cells.toList).flatten:=zc1 zv.cells m;have:([].toArray++Builtin.zeroCells zv.cells m++Builtin.zeroCells zv.cells (grownCap w m 0 e-m)).toList.take (List.replicate m (zc3 z)).flatten.length=(List.replicate m zv.cells.toList).flatten:=by
            simp only[Array.toList_append,hz2,List.nil_append];rw[List.take_left' (by rw[zbM,zbM,c2];simp[hzs])]
           rw[this];exact zgS hzr m)
         refine val (v:=.slice (some ⟨w.heap.size,0,none⟩) m (grownCap w m 0 e)) (w':=w.drew.alloc (.cells ([].toArray++Builtin.zeroCells zv.cells m++Builtin.zeroCells zv.cells (grownCap w m 0 e-m)) e)) ?_ ?_
         ·simp only[execOp,ho,resolve,invoke,builtin,r1,r2]
          simp[hrun,r1,r2]
         ·rw[e0];exact hn _ _ _ _ _ h hnew.1 hnew.2
       ·exact h.elim
      ·cases hc
     ·cases hc
    ·cases hc
   ·cases hc
  ·cases hc
 ·-- makeMap
  rename_i t ho;simp only[Option.some.injEq]at hc;subst hc;simp only[AOp.dst]at hdst;simp only[aop]at h;have hnew:=hs.new_map (N:=N) (hdl _ hdst.symm);refine val (v:=.map (some w.heap.size)) (w':=w.alloc (.map #[] 0)) ?_ ?_
  ·simp[execOp,ho,Instr.makeMap]
  ·rw[<-hdst];exact hn _ _ _ _ _ h hnew.1 hnew.2
 ·-- mapUpdate
  rename_i t m k v ho;split at hc
  ·rename_i kt vt e1
   split at hc
   ·rename_i dm dk dv e2 h1 h2 h3
    simp only[Option.some.injEq]at hc;subst hc;simp only[AOp.dst]at hdst;have r1:=zap hs.toKnows h1;have r2:=zap hs.toKnows h2;have r3:=zap hs.toKnows h3;simp only[aop]at h;split at h
    ·rename_i l b x em ek exv
     split at h
     ·rename_i kvs hg
      rw[em]at r1;rw[ek]at r2;rw[exv]at r3;simp only[rel]at r1 r2 r3;have hp:zai β w σ l=some ⟨β l,0,0,true⟩:=by unfold zai;rw[hg]
      have hm:=r1.2 _ hp rfl;simp only at hm;obtain ⟨es,clk,hh,hes⟩:=hs.mem.maps l kvs hg;have hfk:(Instr.findKey kt (.int .i64 b) es.toList).run P w=.ok (ziL es.toList b 0) w:=by
       simp only[Instr.findKey,Sem.run_bind,run_underlying e2,Result.andThen_ok,zg0 b es.toList kvs 0 hes,Sem.run_pure]
      have hck:=Go.MapKept.run_checkKey (w:=w) (k:=.int .i64 b) e2 rfl false 9999;have hown:=hs.mem.own l _ hg rfl;have hu:upd β l (β l)=β:=by funext k;unfold upd;split<;>simp_all
      have fin:∀ (es':Array MapEntry) (clk':Nat),es'.toList.map (fun e=>(e.key,e.val))=(zmW kvs b x).map (fun p=>(Value.int .i64 p.1,Value.int .i64 p.2)) ->
        (Instr.mapUpdate t (a.eval m) (a.eval k) (a.eval v)).run P w=.ok () { w with heap:=w.heap.setIfInBounds (β l) (.map es' clk') }->o.wp P a w za0 Q:=by
       intro es' clk' he hrun;have hput:=hs.mem.put_imap (l:=l) (b':=β l) (kvs:=zmW kvs b x) (es:=es') (clk:=clk') (w':={ w with heap:=w.heap.setIfInBounds (β l) (.map es' clk') }) (N:=zaw N φ σ)
        (hs.mem.below.trans ⟨rfl,rfl,rfl,by simp,fun b' hb'=>(Go.MapKept.heap_set hh).2 b' (by omega)⟩) (by simp)
        (fun b' _ hne=>(Go.MapKept.heap_set hh).2 b' hne) (Go.MapKept.heap_set hh).1 hown.1 (fun l' o' hne e hr he=>hne (hs.mem.inj l' l o' _ e hg hr rfl he)) (.inr ⟨kvs,hg,rfl⟩) (fun hle=>by omega) f3 (fun hle=>by omega) he
       rw[hu]at hput;unfold Oper.wp;have hx:(execOp a.eval o).run P w=.ok .skip { w with heap:=w.heap.setIfInBounds (β l) (.map es' clk') }:=by simp only[execOp,ho,Sem.run_bind,hrun,Result.andThen_ok,Sem.run_pure]
       rw[hx];show za0 (a.put o.dst undef) _
       rw[<-hdst];exact hn _ _ _ _ _ h (hs.keep hput.1 hput.2.1 f2) (hput.2.1.mono f1)
      rcases zlZ b x es.toList kvs 0 hes with ⟨g1,g2⟩|⟨j,y,e',g1,g2,g3,g4⟩
      ·rw[g1]at hfk
       refine fin (es.push { key:=.int .i64 b,val:=.int .i64 x,born:=clk }) (clk+1) (by rw[g2];simp[hes]) ?_
       rw[hm,r2,r3];simp only[Instr.mapUpdate,Sem.run_bind,run_underlying e1,Result.andThen_ok,Go.MapKept.run_getObj_map hh,hck,hfk,Go.MapKept.run_setObj_map _ hh]
      ·rw[g1,Nat.zero_add]at hfk
       refine fin (es.modify j fun e=>{ e with key:=.int .i64 b,val:=.int .i64 x }) clk (by rw[<-g4];simp) ?_
       rw[hm,r2,r3];have g5:es[j]?=some e':=by simpa using g2
       have hks:(Instr.keyThatStays (.int .i64 b) (.int .i64 b)).run P w=.ok (.int .i64 b) w:=Go.MapKept.run_keyThatStays (d:=.int .i64) rfl;simp only[Instr.mapUpdate,Sem.run_bind,run_underlying e1,Result.andThen_ok,Go.MapKept.run_getObj_map hh,hck,hfk,g5,Option.map_some,Option.getD_some,g3,hks,Go.MapKept.run_setObj_map _ hh]
     ·exact h.elim
    ·exact h.elim
   ·cases hc
  ·cases hc
 ·cases hc
theorem zph (hs:St inv w0 M n φ σ β a w) {o:Oper} {d sz len0:Nat} {z0:List (Nat×AV)} {ps0:List (Nat×Nat×Opd)} (hc:zbP P inv o=some (.mksl d sz len0 z0 ps0)) (hdst0:some d=o.dst) (hok:zjg n o.dst=true) {K:AF->AS->Prop} (h:aop P inv w0 M N (.mksr d sz len0 z0 ps0) φ σ K)
  {za0:Act->World->Prop} {Q:Exit->Act->World->Prop} (hn:∀ φ' σ' β' a' w',K φ' σ'->St inv w0 M n φ' σ' β' a' w'->Ext N (ctx inv M σ β w) (ctx inv M σ' β' w')->za0 a' w'):o.wp P a w za0 Q:=by
 have hdl:=zox hok;obtain ⟨f1,f2,f3⟩:=zbw N φ σ;have val:∀ {v:Value} {w':World},(execOp a.eval o).run P w=.ok (.value v) w'->za0 (a.put o.dst v) w'->o.wp P a w za0 Q:=by
  intro v w' h1 h2;unfold Oper.wp;rw[h1];exact h2
 have inv:∃ t len parts,o.op=.buildSlice t len parts:=by
  clear h hn val;unfold zbP at hc;split at hc;all_goals first|(rename_i t len parts ho;exact ⟨t,len,parts,ho⟩)|skip
  all_goals (exfalso;revert hc;try unfold znn)
  all_goals (repeat' split)
  all_goals first|(intro hop;cases hop;done)|(intro hop;simp at hop;done)|(intro hop;obtain ⟨_,_,e⟩:=Option.map_eq_some_iff.1 hop;cases e)
 obtain ⟨t,len,parts,ho⟩:=inv;unfold zbP at hc;rw[ho]at hc;simp only at hc;split at hc
 ·split at hc
  ·obtain ⟨_,_,e⟩:=Option.map_eq_some_iff.1 hc;cases e
  ·cases hc
 rename_i hnot;split at hc
 ·rename_i e e1
  split at hc
  ·rename_i k z h1 h2
   split at hc
   ·rename_i ps h3
    split at hc
    ·rename_i hcond
     obtain ⟨c1,c2,c3,c4⟩:=hcond;simp only[Option.some.injEq,AOp.mksl.injEq]at hc;obtain ⟨hd0,rfl,rfl,rfl,rfl⟩:=hc;have hdst:some d=o.dst:=hdst0;obtain ⟨i,zv,hi,hz,hzr⟩:=zce (c:=ctx inv M σ β w) h2;have hzl:=zaB hzr;have hzs:zv.cells.size=k:=by rw[<-Array.length_toList,<-hzl];exact c4
     simp only[aop]at h;obtain ⟨cs,ecs,h⟩:=za2 h
     ·have hmade:relCs (ctx inv M σ β w) (List.replicate len (zc3 z)).flatten (madeCells zv.cells (len*k)).toList:=by
       rw[<-hzs,zc1];exact zgS hzr len
      obtain ⟨cells',k1,k2⟩:=zd7 hs.toKnows h3 ecs hmade;have hcl:cs.length=len*k:=by
       have:∀ {ps:List (Nat×Nat×Opd)} {c c':List AV},zdn φ c ps=some c'->c'.length=c.length:=by
        intro ps
        induction ps with
        |nil=>intro c c' h;simp only[zdn,Option.some.injEq]at h;rw[h]
        |cons p ps ih =>
         obtain ⟨o1,o2,o3⟩:=p;intro c c' h;simp only[zdn]at h;split at h
         ·rw[ih h,zb3]
         ·cases h
       rw[this ecs,zbM,c4]
      have hcl2:=zaB k2;have hrun:(execOp a.eval o).run P w=.ok (.value (.slice (some ⟨w.heap.size,0,none⟩) len len)) (w.alloc (.cells cells' e)):=by
       have hne:¬len*k=0:=fun e=>by rcases Nat.mul_eq_zero.1 e with e|e<;>omega
       have hle:¬(len*k > 2 ^ 24):=by have:(2:Nat) ^ 24=16777216:=rfl;omega
       have k1':Instr.fill (fun i=>some (i*k,k)) (Array.map (fun x=>zv.cells[x % zv.cells.size]!) (Array.range (len*k))) (parts.toList.map fun p=>(p.1,a.eval p.2))=some cells':=by
        rw[<-k1];simp only[Option.map_some];rfl
       simp only[execOp,ho,Instr.buildSlice,Sem.run_bind,run_underlying e1,Result.andThen_ok,zc4 h1,if_neg hle,Sem.run_pure,if_neg hne,zeroValue,run_typeInfo w hi,hz];simp only[Array.toList_map]at k1' |-
       rw[k1'];simp[newRow]
      have hb:zab cs<=zaw N φ σ:=zfP ecs (zeS h3) _ f2 (zeH (by rw[zb8 h2];omega) len)
      have hrow:relCs (ctx inv M σ β w) cs (cells'.toList.take cs.length):=by
       rw[show cs.length=cells'.toList.length from hcl2,List.take_length]
       exact k2
      have hnew:=hs.new_sm (N:=N) (hdl _ hdst.symm) (cs:=cs) (xs:=cells') (ty:=e) (sz:=k) (m:=len) (cap:=len) (w':=w.alloc (.cells cells' e)) rfl rfl rfl rfl hb hcl (Nat.le_refl _) (by rw[<-Array.length_toList,<-hcl2,hcl];exact Nat.le_refl _) hrow
      refine val hrun ?_;rw[<-hdst];exact hn _ _ _ _ _ h hnew.1 hnew.2
    ·cases hc
   ·cases hc
  ·cases hc
 ·cases hc
end
section
variable {P:Program} {inv:Nat->Option Nat} {w0:World} {M:Nat->Prop} {n N:Nat} {φ:AF} {σ:AS} {β:Nat->Nat} {a:Act} {w:World}
theorem zn4 (hE:zcs P inv) (hM:∀ b,M b->b<w0.heap.size) (hs:St inv w0 M n φ σ β a w) {o:Oper} {op:AOp} (hc:zbt P inv n o=some op) {K:AF->AS->Prop} (h:aop P inv w0 M N op φ σ K)
  {za0:Act->World->Prop} {Q:Exit->Act->World->Prop} (hn:∀ φ' σ' β' a' w',K φ' σ'->St inv w0 M n φ' σ' β' a' w'->Ext N (ctx inv M σ β w) (ctx inv M σ' β' w')->za0 a' w'):o.wp P a w za0 Q:=by
 unfold zbt at hc;split at hc
 ·rename_i e he
  split at hc
  ·rename_i d hd
   split at hc
   ·rename_i hlt
    simp only[Option.some.injEq]at hc;subst hc;obtain ⟨x,y,hk,hr,hrun⟩:=zpC hs.toKnows he (K:=fun x=>K (zbq φ d x) σ) h
    unfold Oper.wp;rw[hrun];show za0 (a.put o.dst y) w
    rw[hd];exact hn _ _ _ _ _ hk (hs.set hlt hr) (.refl _ _)
   ·cases hc
  ·cases hc
 ·split at hc
  ·rename_i op' he
   split at hc
   ·rename_i hcond
    simp only[Option.some.injEq]at hc;subst hc;exact zr3 hE hM hs he hcond.1 hcond.2 h hn
   ·cases hc
  ·split at hc
   ·simp only[Option.some.injEq]at hc
    subst hc;exact h.elim
   ·cases hc
theorem zc9 {o:Oper} {op:AOp} (hc:zbt P inv n o=some op):op.dst=o.dst/\zjg n o.dst=true:=by
 unfold zbt at hc;split at hc
 ·split at hc
  ·rename_i d hd
   split at hc
   ·rename_i hlt
    simp only[Option.some.injEq]at hc;subst hc;exact ⟨hd.symm,by rw[hd];simpa [zjg] using hlt⟩
   ·cases hc
  ·cases hc
 ·split at hc
  ·split at hc
   ·rename_i hcond
    simp only[Option.some.injEq]at hc;subst hc;exact hcond
   ·cases hc
  ·split at hc
   ·rename_i hcond
    simp only[Option.some.injEq]at hc;subst hc;exact ⟨rfl,hcond⟩
   ·cases hc
theorem St.skip (hs:St inv w0 M n φ σ β a w) {d:Option Nat} (hd:zjg n d=true):St inv w0 M n (zcu φ d .u) σ β (a.put d undef) w:=by
 cases d with
 |none=>exact hs
 |some d=>exact hs.set (zox hd d rfl) (by simp only[rel])
theorem zjk {ops:Array Oper} {j s:Nat} (hj:(ops[j]?).bind (·.dst)=some s) (hs:s<a.tmps.size):yielded ops a.tmps j=match a.tmps.getD s undef with|.bool b=>some b|_=>none:=by
 have h:a.tmps[s]?=some (a.tmps.getD s undef):=by simp[hs]
 simp only[yielded,hj,Option.bind_some,h];cases a.tmps.getD s undef<;>rfl
theorem zis (hE:zcs P inv) (hM:∀ b,M b->b<w0.heap.size) {ops:Array Oper} {Q:Exit->Act->World->Prop} {K:AF->AS->Prop} :
  ∀ {l:List Oper} {al:List GOp} {φ:AF} {σ:AS} {β:Nat->Nat} {a:Act} {w:World},zbD P inv n ops l=some al->zbU P inv w0 M N al K φ σ->St inv w0 M n φ σ β a w ->
   (∀ φ' σ' β' a' w',K φ' σ'->St inv w0 M n φ' σ' β' a' w'->Ext N (ctx inv M σ β w) (ctx inv M σ' β' w')->Q .normal a' w')->wpList P ops Q l a w
 |[],al,φ,σ,β,a,w,hc,h,hs,hn=>by
  simp only[zbD,Option.some.injEq]at hc;subst hc;exact hn _ _ _ _ _ h hs (.refl _ _)
 |o::l,al,φ,σ,β,a,w,hc,h,hs,hn=>by
  simp only[zbD]at hc;split at hc
  ·rename_i g op al' hg hop hal
   simp only[Option.some.injEq]at hc;subst hc;obtain ⟨hd1,hd2⟩:=zc9 hop;have go:∀ {φ:AF},St inv w0 M n φ σ β a w->Region.wanted o (yielded ops a.tmps)=true->aop P inv w0 M N op φ σ (zbU P inv w0 M N al' K)->wpList P ops Q (o::l) a w:=by
    intro φ hs hw h;unfold wpList;rw[if_pos hw];refine .inl (zn4 hE hM hs hop h fun φ' σ' β' a' w' hk hst hext=>?_)
    exact zis hE hM hal hk hst fun φ2 σ2 β2 a2 w2 k2 s2 e2=>hn _ _ _ _ _ k2 s2 (hext.trans e2)
   have skip:∀ {φ:AF},St inv w0 M n φ σ β a w->Region.wanted o (yielded ops a.tmps)=false->zbU P inv w0 M N al' K (zcu φ op.dst .u) σ->wpList P ops Q (o::l) a w:=by
    intro φ hs hw h;refine wpList_skip hw ?_;rw[hd1]at h;exact zis hE hM hal h (hs.skip hd2) hn
   cases hgd:o.guard with
   |none =>
    rw[hgd]at hg;simp only[zeU,Option.some.injEq]at hg;subst hg;exact go hs (by simp[Region.wanted,hgd]) h
   |some jw =>
    obtain ⟨j,want⟩:=jw;rw[hgd]at hg;simp only[zeU]at hg;split at hg
    ·rename_i s hj
     split at hg
     ·rename_i hlt
      simp only[Option.some.injEq]at hg;subst hg;have hy:=zjk (a:=a) hj (by rw[hs.size];exact hlt)
      have hsl:=hs.slots s;have hcs:(∃ t,zbl φ s=.b t/\(t=want->aop P inv w0 M N op φ σ (zbU P inv w0 M N al' K))/\(¬t=want->zbU P inv w0 M N al' K (zcu φ op.dst .u) σ))\/(zbl φ s=.u/\zbU P inv w0 M N al' K (zcu φ op.dst .u) σ):=by
       cases want<;>simp only[zbU]at h<;>split at h
       all_goals first|exact h.elim|skip
       ·rename_i t et
        refine .inl ⟨t,et,fun e=>?_,fun e=>?_⟩
        ·have:=h.2 e;rwa [zeo (by rw[et,e])]at this
        ·have e':t=true:=by simpa using e
         have:=h.1 e';rwa [zeo (by rw[et,e'])]at this
       ·rename_i et;exact .inr ⟨et,h⟩
       ·rename_i t et
        refine .inl ⟨t,et,fun e=>?_,fun e=>?_⟩
        ·have:=h.1 e;rwa [zeo (by rw[et,e])]at this
        ·have e':t=false:=by simpa using e
         have:=h.2 e';rwa [zeo (by rw[et,e'])]at this
       ·rename_i et;exact .inr ⟨et,h⟩
      rcases hcs with ⟨t,et,h1,h2⟩|⟨et,h⟩
      ·rw[et]at hsl
       simp only[rel]at hsl;have hw:Region.wanted o (yielded ops a.tmps)=decide (t=want):=by
        simp only[Region.wanted,hgd,hy,hsl];cases t<;>cases want<;>rfl
       by_cases htw:t=want
       ·exact go hs (by rw[hw];simpa using htw) (h1 htw)
       ·exact skip hs (by rw[hw];simpa using htw) (h2 htw)
      ·rw[et]at hsl
       simp only[rel]at hsl;refine skip hs ?_ h;simp only[Region.wanted,hgd,hy,hsl];rfl
     ·cases hg
    ·cases hg
  ·cases hc
theorem AWp.mono {c:ACode} {Q Q':Exit->AF->AS->Prop} (hq:∀ e φ σ,Q e φ σ->Q' e φ σ) (h:AWp P inv w0 M N n c Q φ σ):AWp P inv w0 M N n c Q' φ σ :=
 fun c₀ hc β a w hs=>Code.wp_mono (fun _ _ _ ⟨φ',σ',β',q,r⟩=>⟨φ',σ',β',hq _ _ _ q,r⟩) (h c₀ hc β a w hs)
theorem zer {prs:List (List Nat)} {gs:List GOp} {k:Nat} {c:ACode} (h:drawn prs gs k=some c):∃ l,c=.regd k l:=by
 unfold drawn at h;simp only at h;split at h
 ·simp only[Option.some.injEq]at h;exact ⟨_,h.symm⟩
 ·split at h
  ·simp only[Option.some.injEq]at h;exact ⟨_,h.symm⟩
  ·cases h
theorem za7 {ops:Array Oper} {c:ACode} (h:zgw P inv n ops=some c):∃ kl:Nat×List GOp,c=.regd kl.1 kl.2:=by
 unfold zgw at h;split at h
 ·split at h
  ·rename_i e
   simp only[Option.some.injEq]at h;obtain ⟨l,rfl⟩:=zer e;exact ⟨(_,l),h.symm⟩
  ·obtain ⟨l,rfl⟩:=zer h
   exact ⟨(_,l),rfl⟩
 ·cases h
theorem inv_skip {c₀:Code} (h:zaD P inv n c₀=some .skip):c₀=.skip:=by
 unfold zaD at h;split at h<;>first|rfl|(cases h;done)|(obtain ⟨_,e⟩:=za7 h;cases e;done)|(obtain ⟨_,_,e⟩:=Option.map_eq_some_iff.1 h;cases e;done)|(split at h<;>simp at h)
theorem inv_exit {c₀:Code} {id:Nat} (h:zaD P inv n c₀=some (.exit id)):c₀=.exit id:=by
 unfold zaD at h;split at h<;>first|(cases h;done)|(obtain ⟨_,e⟩:=za7 h;cases e;done)|(obtain ⟨_,_,e⟩:=Option.map_eq_some_iff.1 h;cases e;done)|(simp only[Option.some.injEq,ACode.exit.injEq]at h;rw[h];done)|(split at h<;>simp at h)
theorem inv_ret {c₀:Code} (h:zaD P inv n c₀=some .ret):c₀=.ret:=by
 unfold zaD at h;split at h<;>first|rfl|(cases h;done)|(obtain ⟨_,e⟩:=za7 h;cases e;done)|(obtain ⟨_,_,e⟩:=Option.map_eq_some_iff.1 h;cases e;done)|(split at h<;>simp at h)
theorem inv_reg {c₀:Code} {l:List GOp} (h:zaD P inv n c₀=some (.reg l)):∃ id ops,c₀=.region id ops false/\zbD P inv n ops ops.toList=some l:=by
 unfold zaD at h;split at h<;>first|(cases h;done)|(obtain ⟨_,e⟩:=za7 h;cases e;done)|(obtain ⟨l',h1,e⟩:=Option.map_eq_some_iff.1 h;cases e;exact ⟨_,_,rfl,h1⟩)|(obtain ⟨_,_,e⟩:=Option.map_eq_some_iff.1 h;cases e;done)|(split at h<;>simp at h)
theorem inv_seq {c₀:Code} {x y:ACode} (h:zaD P inv n c₀=some (.seq x y)):∃ x₀ y₀,c₀=.seq x₀ y₀/\zaD P inv n x₀=some x/\zaD P inv n y₀=some y:=by
 unfold zaD at h;split at h<;>first|(cases h;done)|(obtain ⟨_,e⟩:=za7 h;cases e;done)|(obtain ⟨_,_,e⟩:=Option.map_eq_some_iff.1 h;cases e;done)|skip
 all_goals (split at h<;>first|(cases h;done)|skip)
 all_goals (simp only[Option.some.injEq,ACode.seq.injEq]at h)
 rename_i h1 h2;exact ⟨_,_,rfl,by rw[h1,h.1],by rw[h2,h.2]⟩
theorem inv_cond {c₀:Code} {c:Opd} {x y:ACode} (h:zaD P inv n c₀=some (.cond c x y)):∃ d x₀ y₀,c₀=.cond d x₀ y₀/\zc5 P inv 0 d=some c/\zaD P inv n x₀=some x/\zaD P inv n y₀=some y:=by
 unfold zaD at h;split at h<;>first|(cases h;done)|(obtain ⟨_,e⟩:=za7 h;cases e;done)|(obtain ⟨_,_,e⟩:=Option.map_eq_some_iff.1 h;cases e;done)|skip
 all_goals (split at h<;>first|(cases h;done)|skip)
 all_goals (simp only[Option.some.injEq,ACode.cond.injEq]at h)
 rename_i h1 h2 h3;exact ⟨_,_,_,rfl,by rw[h1,h.1],by rw[h2,h.2.1],by rw[h3,h.2.2]⟩
theorem zro {c₀:Code} {id:Nat} {x:ACode} (h:zaD P inv n c₀=some (.block id x)):∃ x₀,c₀=.block id x₀/\zaD P inv n x₀=some x:=by
 unfold zaD at h;split at h<;>first|(cases h;done)|(obtain ⟨_,e⟩:=za7 h;cases e;done)|(obtain ⟨l',h1,e⟩:=Option.map_eq_some_iff.1 h;cases e;exact ⟨_,rfl,h1⟩)|(obtain ⟨_,_,e⟩:=Option.map_eq_some_iff.1 h;cases e;done)|(split at h<;>simp at h)
theorem zoc {c₀:Code} {x:ACode} (h:zaD P inv n c₀=some (.loop x)):∃ x₀,c₀=.loop x₀/\zaD P inv n x₀=some x:=by
 unfold zaD at h;split at h<;>first|(cases h;done)|(obtain ⟨_,e⟩:=za7 h;cases e;done)|(obtain ⟨l',h1,e⟩:=Option.map_eq_some_iff.1 h;cases e;exact ⟨_,rfl,h1⟩)|(obtain ⟨_,_,e⟩:=Option.map_eq_some_iff.1 h;cases e;done)|(split at h<;>simp at h)
theorem AWp.skip {Q:Exit->AF->AS->Prop} (h:Q .normal φ σ):AWp P inv w0 M N n .skip Q φ σ:=by
 intro c₀ hc β a w hs;rw[inv_skip hc];exact wp_skip ⟨φ,σ,β,h,hs,.refl _ _⟩
theorem AWp.exit {id:Nat} {Q:Exit->AF->AS->Prop} (h:Q (.exit id) φ σ):AWp P inv w0 M N n (.exit id) Q φ σ:=by
 intro c₀ hc β a w hs;rw[inv_exit hc];exact wp_exit ⟨φ,σ,β,h,hs,.refl _ _⟩
theorem AWp.ret {Q:Exit->AF->AS->Prop} (h:Q .ret φ σ):AWp P inv w0 M N n .ret Q φ σ:=by
 intro c₀ hc β a w hs;rw[inv_ret hc];exact wp_ret ⟨φ,σ,β,h,hs,.refl _ _⟩
theorem AWp.reg (hE:zcs P inv) (hM:∀ b,M b->b<w0.heap.size) {l:List GOp} {Q:Exit->AF->AS->Prop} (h:zbU P inv w0 M N l (Q .normal) φ σ):AWp P inv w0 M N n (.reg l) Q φ σ:=by
 intro c₀ hc β a w hs;obtain ⟨id,ops,rfl,hl⟩:=inv_reg hc;exact wp_region_list (zis hE hM hl h hs fun φ' σ' β' a' w' hk hst hext=>⟨φ',σ',β',hk,hst,hext⟩)
def Then (K:AF->AS->Prop) (Q:Exit->AF->AS->Prop):Exit->AF->AS->Prop
 |.normal,φ,σ=>K φ σ
 |e,φ,σ=>Q e φ σ
theorem AWp.seq {x y:ACode} {Q:Exit->AF->AS->Prop} (h:∀ K:AF->AS->Prop,(∀ φ σ,AWp P inv w0 M N n y Q φ σ->K φ σ)->AWp P inv w0 M N n x (Then K Q) φ σ):AWp P inv w0 M N n (.seq x y) Q φ σ:=by
 intro c₀ hc β a w hs;obtain ⟨x₀,y₀,rfl,hx,hy⟩:=inv_seq hc;refine wp_seq ?_;refine Code.wp_mono ?_ (h _ (fun _ _ h=>h) x₀ hx β a w hs)
 rintro e a' w' ⟨φ',σ',β',q,hst,hext⟩;cases e with
 |normal=>exact Code.wp_mono (fun _ _ _ ⟨φ2,σ2,β2,q2,hst2,hext2⟩=>⟨φ2,σ2,β2,q2,hst2,hext.trans hext2⟩) (q y₀ hy β' a' w' hst)
 |exit id=>exact ⟨φ',σ',β',q,hst,hext⟩
 |goto l=>exact ⟨φ',σ',β',q,hst,hext⟩
 |ret=>exact ⟨φ',σ',β',q,hst,hext⟩
 |panic ch=>exact ⟨φ',σ',β',q,hst,hext⟩
 |outgrown=>exact ⟨φ',σ',β',q,hst,hext⟩
theorem AWp.cond {c:Opd} {x y:ACode} {Q:Exit->AF->AS->Prop} {t:Bool} (ht:ev φ c=.b t) (h1:t=true->AWp P inv w0 M N n x Q φ σ) (h2:t=false->AWp P inv w0 M N n y Q φ σ):AWp P inv w0 M N n (.cond c x y) Q φ σ:=by
 intro c₀ hc β a w hs;obtain ⟨d,x₀,y₀,rfl,hd,hx,hy⟩:=inv_cond hc;have hr:=zap hs.toKnows hd;rw[ht]at hr;simp only[rel]at hr;exact wp_cond_split hr (fun e=>h1 e x₀ hx β a w hs) (fun e=>h2 e y₀ hy β a w hs)
def znv (id:Nat) (Q:Exit->AF->AS->Prop):Exit->AF->AS->Prop
 |.exit id',φ,σ=>if id'=id then Q .normal φ σ else Q (.exit id') φ σ
 |e,φ,σ=>Q e φ σ
theorem AWp.block {id:Nat} {x:ACode} {Q:Exit->AF->AS->Prop} (h:AWp P inv w0 M N n x (znv id Q) φ σ):AWp P inv w0 M N n (.block id x) Q φ σ:=by
 intro c₀ hc β a w hs;obtain ⟨x₀,rfl,hx⟩:=zro hc;refine wp_block ?_;refine Code.wp_mono ?_ (h x₀ hx β a w hs);rintro e a' w' ⟨φ',σ',β',q,hst,hext⟩;cases e with
 |exit id' =>
  simp only[znv]at q;simp only[Exit.inBlock];split
  ·rename_i e;rw[if_pos e]at q;exact ⟨φ',σ',β',q,hst,hext⟩
  ·rename_i e;rw[if_neg e]at q;exact ⟨φ',σ',β',q,hst,hext⟩
 |normal=>exact ⟨φ',σ',β',q,hst,hext⟩
 |goto l=>exact ⟨φ',σ',β',q,hst,hext⟩
 |ret=>exact ⟨φ',σ',β',q,hst,hext⟩
 |panic ch=>exact ⟨φ',σ',β',q,hst,hext⟩
 |outgrown=>exact ⟨φ',σ',β',q,hst,hext⟩
def ziG:List (Nat×AV)->AF->Prop
 |[],_=>True
 |(i,x)::r,φ=>zbl φ i=x/\ziG r φ
def zdG:List (Nat×AO)->AS->Prop
 |[],_=>True
 |(l,o)::r,σ=>zah σ l=some o/\zdG r σ
theorem zkN:∀ {φ' φ:AF},ziG φ' φ->∀ i,zbl φ' i=.top\/zbl φ' i=zbl φ i
 |[],_,_,i=>.inl rfl
 |(j,x)::r,φ,h,i=>by
  simp only[ziG]at h;simp only[zbl];split
  ·rename_i e;subst e;exact .inr h.1.symm
  ·exact zkN h.2 i
theorem zeb:∀ {σ' σ:AS},zdG σ' σ->∀ l o,zah σ' l=some o->zah σ l=some o
 |[],_,_,l,o,h=>by simp[zah]at h
 |(j,x)::r,σ,hs,l,o,h=>by
  simp only[zdG]at hs;simp only[zah]at h;split at h
  ·rename_i e;subst e;simp only[Option.some.injEq]at h;subst h;exact hs.1
  ·exact zeb hs.2 l o h
theorem St.sub {φ':AF} {σ':AS} (hs:St inv w0 M n φ σ β a w) (h1:ziG φ' φ) (h2:zdG σ' σ) (N1:Nat):St inv w0 M n φ' σ' β a w/\Ext N1 (ctx inv M σ β w) (ctx inv M σ' β w):=by
 have hd:=fun N=>hs.mem.drop (zeb h2) N
 refine ⟨⟨⟨fun i=>?_,(hd 0).1⟩,hs.size,hs.defers⟩,(hd N1).2⟩
 rcases zkN h1 i with e|e
 ·rw[e];simp only[rel]
 ·rw[e];exact (hd (zaM φ)).2.rel (zaK _ (zbO φ i)) (hs.slots i)
theorem AWp.sub {φ':AF} {σ':AS} {c:ACode} {Q:Exit->AF->AS->Prop} (h:AWp P inv w0 M N n c Q φ' σ') (h1:ziG φ' φ) (h2:zdG σ' σ):AWp P inv w0 M N n c Q φ σ:=by
 intro c₀ hc β a w hs;obtain ⟨hs',hx⟩:=hs.sub h1 h2 N;exact Code.wp_mono (fun _ _ _ ⟨φ2,σ2,β2,q2,hst2,hext2⟩=>⟨φ2,σ2,β2,q2,hst2,hx.trans hext2⟩) (h c₀ hc β a w hs')
theorem AWp.loop {x:ACode} {Q:Exit->AF->AS->Prop} (I:Nat->AF->AS->Prop) (m:Nat) (h0:∃ φ' σ',I m φ' σ'/\ziG φ' φ/\zdG σ' σ)
  (hr:∀ m φ σ,I m φ σ->AWp P inv w0 M N n x (Then (fun φ' σ'=>∃ m' φ2 σ2,m'<m/\I m' φ2 σ2/\ziG φ2 φ'/\zdG σ2 σ') Q) φ σ):AWp P inv w0 M N n (.loop x) Q φ σ:=by
 intro c₀ hc β a w hs;obtain ⟨x₀,rfl,hx⟩:=zoc hc;obtain ⟨φ0,σ0,hI,hf,hss⟩:=h0;obtain ⟨hs0,he0⟩:=hs.sub hf hss N;refine Code.wp_mono (fun _ _ _ h=>h) (wp_loop_ghost (fun m' a' w'=>∃ φ' σ' β',I m' φ' σ'/\St inv w0 M n φ' σ' β' a' w'/\Ext N (ctx inv M σ β w) (ctx inv M σ' β' w')) m ⟨φ0,σ0,β,hI,hs0,he0⟩ ?_)
 rintro m1 a1 w1 ⟨φ1,σ1,β1,hI1,hs1,he1⟩;refine Code.wp_mono ?_ (hr m1 φ1 σ1 hI1 x₀ hx β1 a1 w1 hs1);rintro e a2 w2 ⟨φ2,σ2,β2,q,hst,hext⟩;cases e with
 |normal =>
  obtain ⟨m',φ3,σ3,hlt,hI3,hf3,hs3⟩:=q;obtain ⟨hst3,hext3⟩:=hst.sub hf3 hs3 N;exact ⟨m',hlt,φ3,σ3,β2,hI3,hst3,he1.trans (hext.trans hext3)⟩
 |exit id=>exact ⟨φ2,σ2,β2,q,hst,he1.trans hext⟩
 |goto l=>exact ⟨φ2,σ2,β2,q,hst,he1.trans hext⟩
 |ret=>exact ⟨φ2,σ2,β2,q,hst,he1.trans hext⟩
 |panic ch=>exact ⟨φ2,σ2,β2,q,hst,he1.trans hext⟩
 |outgrown=>exact ⟨φ2,σ2,β2,q,hst,he1.trans hext⟩
end
mutual
def zaR (f:Nat->Option (List AV)):AV->AV
 |.agg cs=>.agg (zaT f cs)
 |.tup cs=>.tup (zaT f cs)
 |.fn j cs=>.fn j (zaT f cs)
 |.s0 sz=>.sl sz []
 |.ptr l ver off=>match f l with
  |some cs=>if cs.length=ver/\0<ver then .ip ver [cs] 0 off else .top
  |none=>.top
 |.sm l ver off n sz=>match f l with
  |some cs=>if cs.length=ver/\off+n*sz<=ver then .sl sz (zbd sz n (cs.drop off)) else .top
  |none=>.top
 |.mp _=>.top
 |.i k n=>.i k n
 |.b t=>.b t
 |.v x=>.v x
 |.u=>.u
 |.sl sz es=>.sl sz es
 |.ip sz es i k=>.ip sz es i k
 |.top=>.top
def zaT (f:Nat->Option (List AV)):List AV->List AV
 |[]=>[]
 |x::xs=>zaR f x::zaT f xs
end
def za5:Nat->AS->Nat->Option (List AV)
 |0,_,_=>none
 |k+1,σ,l=>match zah σ l with
  |some (.cells cs _)=>some (zaT (za5 k σ) cs)
  |_=>none
def zfZ (k:Nat) (σ:AS) (x:AV):AV:=zaR (za5 k σ) x
def zbF (k:Nat) (σ:AS) (xs:List AV):List AV:=zaT (za5 k σ) xs
mutual
def AV.scalar:AV->Bool
 |.agg cs=>zcD cs
 |.tup cs=>zcD cs
 |.i _ _=>true|.b _=>true|.v _=>true|.u=>true|.s0 _=>true
 |.sl _ es=>es.isEmpty
 |.ip _ _ _ _=>false|.ptr _ _ _=>false|.sm _ _ _ _ _=>false|.mp _=>false|.fn _ _=>false|.top=>true
def zcD:List AV->Bool
 |[]=>true
 |x::xs=>x.scalar&&zcD xs
end
mutual
theorem ze4 {c c':Ctx}:∀ (x:AV) (y:Value),x.scalar=true->rel c x y->rel c' x y
 |.agg cs,y,s,r=>by
  simp only[rel]at r |-
  obtain ⟨xs,e,r⟩:=r;exact ⟨xs,e,zg8 cs _ (by simpa only[AV.scalar] using s) r⟩
 |.tup cs,y,s,r=>by
  simp only[rel]at r |-
  obtain ⟨xs,e,r⟩:=r;exact ⟨xs,e,zh1 cs _ (by simpa only[AV.scalar] using s) r⟩
 |.i _ _,_,_,r=>by simpa only[rel] using r
 |.b _,_,_,r=>by simpa only[rel] using r
 |.v _,_,_,r=>by simpa only[rel] using r
 |.u,_,_,r=>by simpa only[rel] using r
 |.s0 _,_,_,r=>by simpa only[rel] using r
 |.sl sz es,y,s,r=>by
  simp only[AV.scalar,List.isEmpty_iff]at s;subst s;simp only[rel]at r |-
  obtain ⟨ad,cap,e,h,_⟩:=r;exact ⟨ad,cap,e,h,fun h=>absurd rfl h⟩
 |.ip _ _ _ _,_,s,_=>by simp[AV.scalar]at s
 |.ptr _ _ _,_,s,_=>by simp[AV.scalar]at s
 |.sm _ _ _ _ _,_,s,_=>by simp[AV.scalar]at s
 |.mp _,_,s,_=>by simp[AV.scalar]at s
 |.fn _ _,_,s,_=>by simp[AV.scalar]at s
 |.top,_,_,_=>by simp only[rel]
theorem zh1 {c c':Ctx}:∀ (xs:List AV) (ys:List Value),zcD xs=true->zcp c xs ys->zcp c' xs ys
 |[],_,_,r=>by simpa only[zcp] using r
 |x::xs,ys,s,r=>by
  simp only[zcD,Bool.and_eq_true]at s;simp only[zcp]at r |-
  obtain ⟨y,ys',e,r1,r2⟩:=r;exact ⟨y,ys',e,ze4 x y s.1 r1,zh1 xs ys' s.2 r2⟩
theorem zg8 {c c':Ctx}:∀ (xs:List AV) (ys:List Value),zcD xs=true->relCs c xs ys->relCs c' xs ys
 |[],_,_,r=>by simpa only[relCs] using r
 |x::xs,ys,s,r=>by
  simp only[zcD,Bool.and_eq_true]at s;simp only[relCs]at r |-
  obtain ⟨y,ys',e,ho,r1,r2⟩:=r;exact ⟨y,ys',e,ho,ze4 x y s.1 r1,zg8 xs ys' s.2 r2⟩
end
section
variable {P:Program} {inv:Nat->Option Nat} {w0:World} {M:Nat->Prop} {n N:Nat} {φ:AF} {σ:AS} {β:Nat->Nat} {a:Act} {w:World}
def zpH (c':Ctx) (σ:AS) (β:Nat->Nat) (f:Nat->Option (List AV)):Prop :=
 ∀ l cs',f l=some cs'->∃ cs r,zah σ l=some (.cells cs r)/\cs'.length=cs.length/\zaf cs'=true/\(r=true->∃ ys:List Value,relCs c' cs' ys/\∀ j u,ys[j]?=some u->c'.w.cell? ⟨β l,j,none⟩=some u)
theorem zcA (f:Nat->Option (List AV)):∀ (xs:List AV),(zaT f xs).length=xs.length
 |[]=>by simp[zaT]
 |x::xs=>by simp[zaT,zcA f xs]
mutual
theorem ze2 {c':Ctx} {f:Nat->Option (List AV)} (hf:zpH c' σ β f):∀ (x:AV),(zaR f x).bare=true
 |.agg cs=>by simp only[zaR,AV.bare];exact zdS hf cs
 |.tup cs=>by simp only[zaR,AV.bare];exact zdS hf cs
 |.fn j cs=>by simp only[zaR,AV.bare];exact zdS hf cs
 |.s0 sz=>by simp only[zaR,AV.bare]
 |.ptr l ver off=>by
  simp only[zaR];split
  ·split<;>simp only[AV.bare]
  ·simp only[AV.bare]
 |.sm l ver off n sz=>by
  simp only[zaR];split
  ·split<;>simp only[AV.bare]
  ·simp only[AV.bare]
 |.mp _=>by simp only[zaR,AV.bare]
 |.i _ _=>by simp only[zaR,AV.bare]
 |.b _=>by simp only[zaR,AV.bare]
 |.v _=>by simp only[zaR,AV.bare]
 |.u=>by simp only[zaR,AV.bare]
 |.sl _ _=>by simp only[zaR,AV.bare]
 |.ip _ _ _ _=>by simp only[zaR,AV.bare]
 |.top=>by simp only[zaR,AV.bare]
theorem zdS {c':Ctx} {f:Nat->Option (List AV)} (hf:zpH c' σ β f):∀ (xs:List AV),zaf (zaT f xs)=true
 |[]=>by simp only[zaT,zaf]
 |x::xs=>by simp only[zaT,zaf,ze2 hf x,zdS hf xs,Bool.and_self]
end
mutual
theorem zeC (hm:Mem inv w0 M σ β w) (hM:∀ b,M b->b<w0.heap.size) {A':Nat->Prop} (hA:∀ b,A' b->M b) {f:Nat->Option (List AV)} (hf:zpH ⟨inv,w,A',fun _=>none⟩ σ β f):∀ (x:AV) (y:Value),rel (ctx inv M σ β w) x y->rel ⟨inv,w,A',fun _=>none⟩ (zaR f x) y
 |.agg cs,y,r=>by
  simp only[zaR,rel]at r |-
  obtain ⟨xs,e,r⟩:=r;exact ⟨xs,e,zgK hm hM hA hf cs _ r⟩
 |.tup cs,y,r=>by
  simp only[zaR,rel]at r |-
  obtain ⟨xs,e,r⟩:=r;exact ⟨xs,e,zdQ hm hM hA hf cs _ r⟩
 |.fn j cs,y,r=>by
  simp only[zaR,rel]at r |-
  obtain ⟨g,xs,e,hi,r⟩:=r;exact ⟨g,xs,e,hi,zdQ hm hM hA hf cs _ r⟩
 |.s0 sz,y,r=>by
  simp only[zaR,rel]at r |-
  obtain ⟨ad,e⟩:=r;exact ⟨ad,0,e,Nat.le_refl _,fun h=>absurd rfl h⟩
 |.ptr l ver off,y,r=>by
  simp only[zaR];split
  ·rename_i cs' e
   split
   ·rename_i hl
    obtain ⟨cs,rl,hg,h1,h2,h3⟩:=hf l cs' e;have hlive:zcd σ l ver:=by unfold zcd;rw[hg];show cs.length=ver;omega
    obtain ⟨p,hp,_,rfl⟩:=zdB hlive r;have hrl:rl=true:=by
     cases rl with
     |true=>rfl
     |false=>have:=hm.ghost l cs hg;subst this;simp only[List.length_nil]at h1;omega
    subst hrl;obtain ⟨ys,h4,h5⟩:=h3 rfl;have hpb:p.block=β l:=by unfold zai at hp;rw[hg]at hp;cases hp;rfl
    have hown:=hm.own l _ hg rfl;simp only[rel];refine ⟨⟨β l,0,none⟩,by simp[zbZ,hpb],fun ha=>by have:=hM _ (hA _ ha);simp only at this;omega,hown.2, ?_⟩
    simp only[zaS,and_true];refine ⟨hl.1,zgd h2 h4 fun j u hu=>?_⟩
    rw[zbZ];have:=h5 j u hu
    simpa using this
   ·simp only[rel]
  ·simp only[rel]
 |.sm l ver off m sz,y,r=>by
  simp only[zaR];split
  ·rename_i cs' e
   split
   ·rename_i hl
    obtain ⟨cs,rl,hg,h1,h2,h3⟩:=hf l cs' e;have hlive:zcd σ l ver:=by unfold zcd;rw[hg];show cs.length=ver;omega
    obtain ⟨p,ad,cap,hp,hv,hb,rfl,hcap,hr⟩:=zcP hlive r;simp only[rel];refine ⟨ad,cap,by rw[zbX],by rw[zbX];exact hcap,fun hne=>?_⟩
    have hm0:0<m:=by
     rcases Nat.eq_zero_or_pos m with e0|e0
     ·subst e0;exact absurd rfl hne
     ·exact e0
    have hrl:rl=true:=by
     cases rl with
     |true=>rfl
     |false=>unfold zai at hp;rw[hg]at hp;cases hp;simp at hr;omega
    subst hrl;have hpe:p=⟨β l,cs.length,zaN w (β l),true⟩:=by unfold zai at hp;rw[hg]at hp;cases hp;rfl
    subst hpe;simp only[if_true]at hr;obtain ⟨ys,h4,h5⟩:=h3 rfl;have hown:=hm.own l _ hg rfl;refine ⟨_,hr.1.resolve_left (by omega),fun ha=>by have:=hM _ (hA _ ha);simp only at this;omega,hown.2, ?_⟩
    refine zcX m (by rw[List.length_drop];omega) (zfn _ _ h2) (zch off h4) fun j u hu=>?_
    rw[zbZ,Nat.zero_add];rw[List.getElem?_drop]at hu;exact h5 _ u hu
   ·simp only[rel]
  ·simp only[rel]
 |.mp _,_,_=>by simp only[zaR,rel]
 |.i _ _,_,r=>by simpa only[zaR,rel] using r
 |.b _,_,r=>by simpa only[zaR,rel] using r
 |.v _,_,r=>by simpa only[zaR,rel] using r
 |.u,_,r=>by simpa only[zaR,rel] using r
 |.sl sz es,y,r=>by
  have hle:(ctx inv M σ β w).Le ⟨inv,w,A',fun _=>none⟩:=⟨rfl,Nat.le_refl _,fun _ _ _=>rfl,fun b _ h=>.inl (hA b h)⟩
  simp only[zaR];exact zeh (N:=0) hle (.sl sz es) y (.inr rfl) r
 |.ip sz es i k,y,r=>by
  have hle:(ctx inv M σ β w).Le ⟨inv,w,A',fun _=>none⟩:=⟨rfl,Nat.le_refl _,fun _ _ _=>rfl,fun b _ h=>.inl (hA b h)⟩
  simp only[zaR];exact zeh (N:=0) hle (.ip sz es i k) y (.inr rfl) r
 |.top,_,_=>by simp only[zaR,rel]
theorem zdQ (hm:Mem inv w0 M σ β w) (hM:∀ b,M b->b<w0.heap.size) {A':Nat->Prop} (hA:∀ b,A' b->M b) {f:Nat->Option (List AV)} (hf:zpH ⟨inv,w,A',fun _=>none⟩ σ β f):∀ (xs:List AV) (ys:List Value),zcp (ctx inv M σ β w) xs ys->zcp ⟨inv,w,A',fun _=>none⟩ (zaT f xs) ys
 |[],_,r=>by simpa only[zaT,zcp] using r
 |x::xs,ys,r=>by
  simp only[zaT,zcp]at r |-
  obtain ⟨y,ys',e,r1,r2⟩:=r;exact ⟨y,ys',e,zeC hm hM hA hf x y r1,zdQ hm hM hA hf xs ys' r2⟩
theorem zgK (hm:Mem inv w0 M σ β w) (hM:∀ b,M b->b<w0.heap.size) {A':Nat->Prop} (hA:∀ b,A' b->M b) {f:Nat->Option (List AV)} (hf:zpH ⟨inv,w,A',fun _=>none⟩ σ β f):∀ (xs:List AV) (ys:List Value),relCs (ctx inv M σ β w) xs ys->relCs ⟨inv,w,A',fun _=>none⟩ (zaT f xs) ys
 |[],_,r=>by simpa only[zaT,relCs] using r
 |x::xs,ys,r=>by
  simp only[zaT,relCs]at r |-
  obtain ⟨y,ys',e,ho,r1,r2⟩:=r;exact ⟨y,ys',e,ho,zeC hm hM hA hf x y r1,zgK hm hM hA hf xs ys' r2⟩
end
theorem zec (hm:Mem inv w0 M σ β w) (hM:∀ b,M b->b<w0.heap.size) {A':Nat->Prop} (hA:∀ b,A' b->M b):∀ (k:Nat),zpH ⟨inv,w,A',fun _=>none⟩ σ β (za5 k σ)
 |0=>fun l cs' h=>by simp[za5]at h
 |k+1=>fun l cs' h=>by
  have ih:=zec hm hM hA k;simp only[za5]at h;split at h
  ·rename_i cs r e
   simp only[Option.some.injEq]at h;subst h;refine ⟨cs,r,e,zcA _ _,zdS ih cs,fun hr=>?_⟩
   subst hr;obtain ⟨ys,_,h2,h3⟩:=hm.cell e;exact ⟨ys,zgK hm hM hA ih cs ys h2,h3⟩
  ·cases h
def PC (P:Program) (inv:Nat->Option Nat) (j:Nat) (args:List AV) (R:AV->Prop):Prop :=
 ∀ g,inv g=some j->∀ (M:Nat->Prop) (w:World) (vs:Array Value),(∀ b,M b->b<w.heap.size)->zcp ⟨inv,w,M,fun _=>none⟩ args vs.toList ->
  Calls P g vs w fun e w'=>∃ v r,e=.returned v/\R r/\Below w.heap.size w w'/\r.bare=true/\rel ⟨inv,w',M,fun _=>none⟩ r v
theorem PC.mono {j:Nat} {args:List AV} {R R':AV->Prop} (h:PC P inv j args R) (hr:∀ r,R r->R' r):PC P inv j args R' :=
 fun g hg M w vs hM ha=>(h g hg M w vs hM ha).mono fun _ _ ⟨v,r,e,h1,h2⟩=>⟨v,r,e,hr r h1,h2⟩
theorem zk4 (hm:Mem inv w0 M σ β w) (hM:∀ b,M b->b<w0.heap.size):∀ b,avoid M σ β b->b<w.heap.size:=by
 rintro b (h|⟨l,o,e,hr,rfl⟩)
 ·exact Nat.lt_of_lt_of_le (hM b h) hm.below.size
 ·exact (hm.own l o e hr).2
theorem PC.callK (hM:∀ b,M b->b<w0.heap.size) {j:Nat} {args:List AV} {R:AV->Prop} (h:PC P inv j args R) {K:AV->AS->Prop} (hk:∀ r,R r->K r σ):CallK P inv w0 M N φ σ j args K:=by
 refine ⟨mx N (zaM φ),zaQ _ _,zaq _ _,fun g hg β w vs hm ha=>?_⟩
 have hle:(ctx inv M σ β w).Le ⟨inv,w,avoid M σ β,fun _=>none⟩:=⟨rfl,Nat.le_refl _,fun _ _ _=>rfl,fun _ _ h=>h⟩
 refine (h g hg (avoid M σ β) w vs (zk4 hm hM) (zco (N:=0) hle _ _ (.inr rfl) ha)).mono ?_;rintro e w' ⟨v,r,rfl,hr,hb,hbare,hrel⟩;have hc:=hm.call hb (mx N (zaM φ));exact ⟨v,r,σ,β,rfl,hk r hr,hc.1,hc.2,zhy (S:=zai β w' σ) r v hbare hrel⟩
theorem PC.snapK (hM:∀ b,M b->b<w0.heap.size) (k:Nat) {j:Nat} {args:List AV} {R:AV->Prop} (h:PC P inv j (zbF k σ args) R) {K:AV->AS->Prop} (hk:∀ r,R r->r.scalar=true/\K r σ):CallK P inv w0 M N φ σ j args K:=by
 refine ⟨mx N (zaM φ),zaQ _ _,zaq _ _,fun g hg β w vs hm ha=>?_⟩
 have hf:=zec hm hM (A':=fun _=>False) (fun _ h=>h.elim) k
 refine (h g hg (fun _=>False) w vs (fun _ h=>h.elim) (zdQ hm hM (fun _ h=>h.elim) hf _ _ ha)).mono ?_
 rintro e w' ⟨v,r,rfl,hr,hb,hbare,hrel⟩;have hc:=hm.call hb (mx N (zaM φ));exact ⟨v,r,σ,β,rfl,(hk r hr).2,hc.1,hc.2,ze4 r v (hk r hr).1 hrel⟩
theorem zeg (hs:Knows inv w0 M φ σ β a w):∀ {l:List ResultVar} {rs:List ARes} {xs:List AV},cres P l=some rs->zi1 φ σ rs=some xs ->
  ∃ ys:List Value,zcp (ctx inv M σ β w) xs ys/\(l.mapM fun
   |.tmp t=>pure (a.tmps.getD t undef)
   |.cell ad t=>do loadVar t (<-asAddr (a.tmps.getD ad undef)):Sem (List Value)).run P w=.ok ys w
 |[],rs,xs,h,hx=>by
  simp only[cres,Option.some.injEq]at h;subst h;simp only[zi1,Option.some.injEq]at hx;subst hx;exact ⟨[],znX,rfl⟩
 |.tmp t::l,rs,xs,h,hx=>by
  simp only[cres]at h;obtain ⟨rs',h1,rfl⟩:=Option.map_eq_some_iff.1 h;simp only[zi1,ares]at hx;split at hx
  ·rename_i x xs' e1 e2
   simp only[Option.some.injEq]at hx e1;subst hx e1;obtain ⟨ys,h2,h3⟩:=zeg hs h1 e2;exact ⟨_,zge (hs.slots t) h2,by simp only[List.mapM_cons,Sem.run_bind,Sem.run_pure,Result.andThen_ok,h3]⟩
  ·cases hx
 |.cell ad t::l,rs,xs,h,hx=>by
  simp only[cres]at h;split at h
  ·rename_i lo rs' h0 h1
   simp only[Option.some.injEq]at h;subst h;simp only[zi1,ares]at hx;split at hx
   ·rename_i x xs' e1 e2
    simp only[Option.some.injEq]at hx;subst hx;obtain ⟨ys,h2,h3⟩:=zeg hs h1 e2;obtain ⟨u,k1,k2⟩:=zi4 hs h0 (hs.slots ad) e1;have hp:∃ pa,a.tmps.getD ad undef=.pointer (some pa):=by
     revert k2;cases a.tmps.getD ad undef with
     |pointer pa=>cases pa<;>simp[Instr.loadAt,Instr.sureAddr]
     |_=>simp[Instr.loadAt,Instr.sureAddr]
    obtain ⟨pa,hpa⟩:=hp;have k3:(loadVar t pa).run P w=.ok u w:=by
     rw[hpa]at k2
     simpa [Instr.loadAt,Instr.sureAddr] using k2
    refine ⟨u::ys,zge k1 h2, ?_⟩;have ha:(asAddr (a.tmps.getD ad undef)).run P w=.ok pa w:=by rw[hpa];rfl
    simp only[List.mapM_cons,Sem.run_bind,ha,Sem.run_pure,Result.andThen_ok,k3,h3]
   ·cases hx
  ·cases h
theorem ziH (hs:Knows inv w0 M φ σ β a w) {fn:Func} {rs:List ARes} {x:AV} (h:cres P fn.results.toList=some rs) (hx:zeR φ σ rs=some x):∃ y,rel (ctx inv M σ β w) x y/\(results fn a.tmps).run P w=.ok y w:=by
 have key:∀ {xs:List AV},zi1 φ σ rs=some xs->∃ ys:List Value,zcp (ctx inv M σ β w) xs ys/\(results fn a.tmps).run P w=.ok (if h:ys.toArray.size=1 then ys.toArray[0] else .tuple ys.toArray) w:=by
  intro xs hxs;obtain ⟨ys,h1,h2⟩:=zeg hs h hxs;refine ⟨ys,h1, ?_⟩;unfold results;rw[Sem.run_bind,Array.mapM_eq_mapM_toList,Sem.run_map]
  erw[h2]
  rfl
 unfold zeR at hx;split at hx
 ·rename_i e
  simp only[Option.some.injEq]at hx;subst hx;obtain ⟨ys,h1,h2⟩:=key e;simp only[zcp]at h1;obtain ⟨y,ys',rfl,h3,rfl⟩:=h1;exact ⟨y,h3,h2⟩
 ·rename_i hne e
  simp only[Option.some.injEq]at hx;subst hx;obtain ⟨ys,h1,h2⟩:=key e;have hlen:ys.length≠1:=by
   intro h1l;obtain ⟨x,hx⟩:=List.length_eq_one_iff.1 ((zfJ h1).trans h1l);exact hne x (by rw[hx])
  refine ⟨.tuple ys.toArray,by simp only[rel];exact ⟨_,rfl,by simpa using h1⟩, ?_⟩
  rw[h2,dif_neg (by simpa using hlen)]
 ·cases hx
theorem zoG:∀ (args:List AV) (k i:Nat),zbl (zoH k args) i=if k<=i then (args[i-k]?).getD .top else .top
 |[],k,i=>by simp[zoH,zbl]
 |x::xs,k,i=>by
  simp only[zoH,zbl,zoG xs (k+1) i];by_cases h:i=k
  ·subst h;simp
  ·rw[if_neg h]
   by_cases h2:k+1<=i
   ·rw[if_pos h2,if_pos (by omega),show i-k=(i-(k+1))+1 by omega];simp
   ·rw[if_neg h2,if_neg (by omega)]
def zsv (res:List ARes) (R:AV->AS->Prop):Exit->AF->AS->Prop
 |.normal,φ,σ=>∃ r,zeR φ σ res=some r/\R r σ
 |.ret,φ,σ=>∃ r,zeR φ σ res=some r/\R r σ
 |_,_,_=>False
theorem AC.body {j:Nat} {F:AFn} (hF:Has P inv j F) {args:List AV} {R:AV->AS->Prop} (hl:args.length<=F.ntmps) (h:AWp P inv w0 M N F.ntmps F.body (zsv F.res R) (zoH 0 args) σ):AC P inv w0 M N j args σ R:=by
 intro g hg β w vs hm ha;obtain ⟨fn,hf,hc⟩:=hF g hg;unfold zl9 at hc;split at hc
 ·rename_i c rs hb hrs
  obtain ⟨ac,h1,h2⟩:=Option.map_eq_some_iff.1 hc;subst h2;have hlen:=zfJ ha;have hvs:vs.size<=fn.ntmps:=by have:args.length<=fn.ntmps:=hl;rw[hlen]at this;simpa using this
  refine calls_of_wp hf hb ?_;have hst:St inv w0 M fn.ntmps (zoH 0 args) σ β { tmps:=vs++Array.replicate (fn.ntmps-vs.size) undef,defers:=[] } w:=by
   refine ⟨⟨fun i=>?_,hm⟩,by simp;omega,rfl⟩
   rw[zoG];simp only[Nat.zero_le,if_true,Nat.sub_zero];cases e:args[i]? with
   |none=>simp only[Option.getD_none,rel]
   |some x =>
    obtain ⟨y,k1,k2⟩:=zki ha e;have hi:i<vs.size:=by
     have:=(List.getElem?_eq_some_iff.1 k1).1
     simpa using this
    have hy:vs[i]?=some y:=by simpa using k1
    have:(vs++Array.replicate (fn.ntmps-vs.size) undef).getD i undef=y:=by
     rw[Array.getD_eq_getD_getElem?,Array.getElem?_append_left hi,hy];rfl
    rw[this];exact k2
  refine Code.wp_mono ?_ (h c h1 β _ w hst);rintro e a' w' ⟨φ',σ',β',q,hst',hext⟩;cases e with
  |normal =>
   obtain ⟨r,hr,hR⟩:=q;obtain ⟨y,k1,k2⟩:=ziH hst'.toKnows hrs hr;exact ⟨hst'.defers,y,k2,y,r,σ',β',rfl,hR,hst'.mem,hext,k1⟩
  |ret =>
   obtain ⟨r,hr,hR⟩:=q;obtain ⟨y,k1,k2⟩:=ziH hst'.toKnows hrs hr;exact ⟨hst'.defers,y,k2,y,r,σ',β',rfl,hR,hst'.mem,hext,k1⟩
  |exit id=>exact q.elim
  |goto l=>exact q.elim
  |panic ch=>exact q.elim
  |outgrown=>exact q.elim
 ·cases hc
theorem AC.callK {j:Nat} {args:List AV} {K:AV->AS->Prop} (N':Nat) (hN:N<=N') (hφ:zaM φ<=N') (h:AC P inv w0 M N' j args σ K):CallK P inv w0 M N φ σ j args K:=⟨N',hN,hφ,h⟩
theorem PC.intro {j:Nat} {F:AFn} (hF:Has P inv j F) {args:List AV} {R:AV->Prop} (hl:args.length<=F.ntmps)
  (h:∀ (w0:World) (M:Nat->Prop),(∀ b,M b->b<w0.heap.size)->AWp P inv w0 M 0 F.ntmps F.body (zsv F.res fun r σ=>R (zfZ 4 σ r)) (zoH 0 args) []):PC P inv j args R:=by
 intro g hg M w vs hM ha;have hm:Mem inv w M [] (fun _=>0) w:=⟨.refl _ _,by intro l l' o o' e;simp[zah]at e,by intro l o e;simp[zah]at e,by intro l cs e;simp[zah]at e,by intro l cs e;simp[zah]at e,by intro l kvs e;simp[zah]at e⟩
 have hle:(⟨inv,w,M,fun _=>none⟩:Ctx).Le (ctx inv M [] (fun _=>0) w):=⟨rfl,Nat.le_refl _,fun _ _ _=>rfl,fun b _ h=>by
  rcases h with h|⟨l,o,e,_⟩
  ·exact h
  ·simp[zah]at e⟩
 have hS:(ctx inv M [] (fun _=>0) w).S=fun _=>none:=by funext l;simp[ctx,zai,zah]
 refine (AC.body hF hl (h w M hM) g hg (fun _=>0) w vs hm (zco (N:=0) hle _ _ (.inr hS) ha)).mono ?_
 rintro e w' ⟨v,r,σ',β',rfl,hR,hm',_,hr⟩;have hf:=zec hm' hM (A':=M) (fun _ h=>h) 4
 exact ⟨v,_,rfl,hR,hm'.below,ze2 hf r,zeC hm' hM (fun _ h=>h) hf r v hr⟩
end
theorem SLe.refl (σ:AS):SLe σ σ:=fun _ _ h _=>h
theorem SLe_refl (σ:AS):SLe σ σ=True:=eq_true (.refl σ)
theorem zgB {σ:AS} {l:Nat} (o:AO) (h:zah σ l=none\/zah σ l=some .rsv):SLe σ (sput σ l o):=by
 intro l' o' h' hne;rw[zag];split
 ·rename_i e
  subst e;rcases h with h|h
  ·rw[h]at h';cases h'
  ·rw[h]at h';simp only[Option.some.injEq]at h';exact absurd h'.symm hne
 ·exact h'
theorem zjp {σ:AS} {l:Nat} (h:zax σ<=l):zah σ l=none:=by
 cases e:zah σ l with
 |none=>rfl
 |some o=>have:=(zau σ l o e).1;omega
theorem zoX (N:Nat) (φ:AF) (σ:AS):zah σ (zaw N φ σ)=none:=zjp (zbw N φ σ).2.2
theorem zfb:∀ {l:List Nat} {i:Nat},memN l i=true↔i∈l
 |[],i=>by simp[memN]
 |x::r,i=>by
  simp only[memN,Bool.or_eq_true,zfb (l:=r),Nat.beq_eq,List.mem_cons];constructor
  ·rintro (h|h)
   ·exact .inl h.symm
   ·exact .inr h
  ·rintro (h|h)
   ·exact .inl h.symm
   ·exact .inr h
theorem zcw {l:List Nat} {d:Nat} (h:zcx l (some d)=false):∀ t∈l,t≠d:=by
 intro t ht e;subst e;simp only[zcx]at h;rw[zfb.2 ht]at h;cases h
section
variable {φ φ':AF} {σ:AS}
theorem zbb {x:Opd} (h:∀ t∈x.rd,zbl φ' t=zbl φ t):ev φ' x=ev φ x:=by
 cases x with
 |t i=>exact h i (by simp[Opd.rd])
 |c x=>rfl
theorem zfa {x:Option Opd} (h:∀ t∈zmT x,zbl φ' t=zbl φ t):x.map (ev φ')=x.map (ev φ):=by
 cases x with
 |none=>rfl
 |some x=>simp only[Option.map_some];rw[zbb h]
theorem zdi:∀ {l:List Opd},(∀ t∈zdj l,zbl φ' t=zbl φ t)->l.map (ev φ')=l.map (ev φ)
 |[],_=>rfl
 |x::l,h=>by
  simp only[zdj,List.mem_append]at h;simp only[List.map_cons];rw[zbb fun t ht=>h t (.inl ht),zdi fun t ht=>h t (.inr ht)]
theorem ze9:∀ {l:List (Nat×Nat×Opd)} (cs:List AV),(∀ t∈zgW l,zbl φ' t=zbl φ t)->zdn φ' cs l=zdn φ cs l
 |[],_,_=>rfl
 |(o,n,x)::l,cs,h=>by
  simp only[zgW,List.mem_append]at h;simp only[zdn];rw[zbb fun t ht=>h t (.inl ht)]
  split
  ·exact ze9 _ fun t ht=>h t (.inr ht)
  ·rfl
theorem zsk {e:AVal} (h:∀ t∈e.rd,zbl φ' t=zbl φ t):zdN φ' σ e=zdN φ σ e:=by
 funext K
 cases e<;>simp only[AVal.rd,List.mem_append]at h<;>simp only[zdN]
 case mov x=>rw[zbb h]
 case pick c a b=>rw[zbb fun t ht=>h t (.inl ht),zbb fun t ht=>h t (.inr (.inl ht)),zbb fun t ht=>h t (.inr (.inr ht))]
 case bin op ty x y=>rw[zbb fun t ht=>h t (.inl ht),zbb fun t ht=>h t (.inr ht)]
 case not x=>rw[zbb h]
 case conv k x=>rw[zbb h]
 case load n a=>rw[zbb h]
 case fadr a off=>rw[zbb h]
 case iadr x i sz arr=>rw[zbb fun t ht=>h t (.inl ht),zbb fun t ht=>h t (.inr ht)]
 case fld x off n=>rw[zbb h]
 case idx x i len sz ag=>rw[zbb fun t ht=>h t (.inl ht),zbb fun t ht=>h t (.inr ht)]
 case len x=>rw[zbb h]
 case ext x i=>rw[zbb h]
 case mkfn j l=>rw[zdi h]
 case build z ps=>rw[ze9 _ h]
 case slc x lo hi m sz=>rw[zbb fun t ht=>h t (.inl ht),zfa fun t ht=>h t (.inr (.inl ht)),zfa fun t ht=>h t (.inr (.inr (.inl ht))),zfa fun t ht=>h t (.inr (.inr (.inr ht)))]
 case slca x lo hi m k sz=>rw[zbb fun t ht=>h t (.inl ht),zfa fun t ht=>h t (.inr (.inl ht)),zfa fun t ht=>h t (.inr (.inr (.inl ht))),zfa fun t ht=>h t (.inr (.inr (.inr ht)))]
 case nilck x=>rw[zbb h]
 case mnx mn x y=>rw[zbb fun t ht=>h t (.inl ht),zbb fun t ht=>h t (.inr ht)]
 case cap x=>rw[zbb h]
 case look m k=>rw[zbb fun t ht=>h t (.inl ht),zbb fun t ht=>h t (.inr ht)]
end
def SLx (ld:Bool) (σ σ':AS):Prop:=(∀ l ver,zcd σ l ver->zcd σ' l ver)/\(ld=true->SLe σ σ')
theorem zlM {σ σ':AS} {l ver:Nat} (hs:SLe σ σ') (h:zcd σ l ver):zcd σ' l ver:=by
 unfold zcd at h |-
 split at h
 ·rename_i cs r e;rw[hs _ _ e (by simp)];exact h
 ·exact h.elim
theorem SLe.x {σ σ':AS} (h:SLe σ σ') (ld:Bool):SLx ld σ σ':=⟨fun _ _ hl=>zlM h hl,fun _=>h⟩
theorem SLx.refl (ld:Bool) (σ:AS):SLx ld σ σ:=(SLe.refl σ).x ld
def Det (ld:Bool) (σ:AS) (F:AS->(AV->Prop)->Prop):Prop:=∀ K:AV->Prop,F σ K->∃ x,K x/\∀ σ',SLx ld σ σ'->∀ K':AV->Prop,K' x->F σ' K'
section
variable {φ φ':AF} {σ σ':AS} {ld:Bool}
theorem zat (x:AV):Det ld σ (fun _ K=>K x):=fun _ h=>⟨x,h,fun _ _ _ h'=>h'⟩
theorem zaV:Det ld σ (fun _ _=>False):=fun _ h=>h.elim
theorem det_ob {p:AS->Prop} {F:AS->(AV->Prop)->Prop} (hp:∀ σ',SLx ld σ σ'->p σ->p σ') (h:Det ld σ F):Det ld σ (fun σ K=>ob (p σ) (F σ K)):=by
 rintro K ⟨h1,h2⟩;obtain ⟨x,k,h3⟩:=h K h2;exact ⟨x,k,fun σ' hs K' k'=>⟨hp σ' hs h1,h3 σ' hs K' k'⟩⟩
theorem zbA {p:Prop} {F:AS->(AV->Prop)->Prop} (h:Det ld σ F):Det ld σ (fun σ K=>ob p (F σ K)):=det_ob (p:=fun _=>p) (fun _ _ h=>h) h
theorem zc8 {l ver:Nat} {F:AS->(AV->Prop)->Prop} (h:Det ld σ F):Det ld σ (fun σ K=>ob (zcd σ l ver) (F σ K)):=det_ob (fun _ hs hl=>hs.1 _ _ hl) h
theorem ziR {α:Type} {o:AS->Option α} {F:α->AS->(AV->Prop)->Prop} (ho:∀ σ' v,SLx ld σ σ'->o σ=some v->o σ'=some v) (h:∀ v,Det ld σ (F v)):Det ld σ (fun σ K=>zcR (o σ) fun v=>F v σ K):=by
 intro K hk;obtain ⟨v,e,h2⟩:=za2 hk;obtain ⟨x,k,h3⟩:=h v K h2;refine ⟨x,k,fun σ' hs K' k'=>?_⟩
 have e':=ho σ' v hs e;show zcR (o σ') _
 rw[e'];exact h3 σ' hs K' k'
theorem zpF {x y v:AV} (hs:SLe σ σ') (h:zmi σ x y=some v):zmi σ' x y=some v:=by
 unfold zmi at h |-
 split at h
 ·split at h
  ·rename_i e
   rw[hs _ _ e (by simp)]
   exact h
  ·cases h
 ·cases h
theorem zcV {α:Type} {o:Option α} {F:α->AS->(AV->Prop)->Prop} (h:∀ v,Det ld σ (F v)):Det ld σ (fun σ K=>zcR o fun v=>F v σ K):=ziR (o:=fun _=>o) (fun _ _ _ h=>h) h
theorem zjQ {n:Option Nat} {x y:AV} (hs:SLe σ σ') (h:zds σ n x=some y):zds σ' n x=some y:=by
 cases x<;>simp only[zds]at h |-<;>try exact h
 case ptr l ver off =>
  split at h
  ·rename_i cs r e
   rw[hs _ _ e (by simp)]
   exact h
  ·cases h
theorem zr5 (op:BinOp) (k:IntKind) (a b:Int):Det ld σ (fun _ K=>zpE op k a b K):=by
 cases op<;>simp only[zpE]<;>first|exact zat _|exact zaV|exact zbA (zat _)
theorem ziS (op:BinOp) (x y:AV):Det ld σ (fun _ K=>match op with|.eql=>K x|.neq=>K y|_=>False):=by
 cases op<;>first|exact zat _|exact zaV
theorem det_abin (op:BinOp) (ty:ETy) (x y:AV):Det ld σ (fun σ K=>abin σ op ty x y K):=by
 unfold abin;split
 ·split
  ·exact zbA (zat _)
  ·exact zaV
  ·exact zbA (zr5 _ _ _ _)
 ·exact zbA (ziS _ _ _)
 ·split
  ·exact zcV fun t=>ziS _ _ _
  ·exact zcV fun t=>ziS _ _ _
  ·exact zaV
 ·exact zbA (zc8 (ziS _ _ _))
 ·exact zcV fun t=>ziS _ _ _
theorem zoy (x:AV) (lo hi mx:Option AV) (sz:Nat):Det ld σ (fun σ K=>aslc σ x lo hi mx sz K):=by
 unfold aslc;split
 ·refine zbA (zbA (zbA ?_))
  split
  ·exact zat _
  ·exact zat _
  ·exact zc8 (zat _)
  ·exact zaV
 ·exact zaV
 ·split
  ·refine zbA ?_
   split<;>first|exact zat _|exact zbA (zat _)|exact zaV
  ·refine zbA (zc8 ?_)
   split<;>first|exact zat _|exact zbA (zat _)|exact zaV
  ·split<;>first|exact zat _|exact zbA (zat _)|exact zaV
  ·exact zaV
theorem zkW (e:AVal):Det (isLd e) σ (fun σ K=>zdN φ σ e K):=by
 cases e<;>simp only[zdN,isLd]
 case mov x=>exact zat _
 case pick c a b =>
  split
  ·rename_i t _
   cases t
   ·simp only[ziq];exact zat _
   ·simp only[zjw];exact zat _
  ·exact zaV
 case bin op ty x y=>exact det_abin _ _ _ _
 case not x=>split<;>first|exact zat _|exact zaV
 case conv k x=>split<;>first|exact zat _|exact zaV
 case load n a=>exact ziR (F:=fun v _ K=>K v) (fun σ' v hs e=>zjQ (hs.2 rfl) e) fun v=>zat v
 case fadr a off=>split<;>first|exact zat _|exact zc8 (zat _)|exact zaV
 case iadr x i sz arr =>
  split
  ·split
   ·exact zbA (zbA (zat _))
   ·exact zbA (zc8 (zbA (zat _)))
   ·exact zc8 (zbA (zat _))
   ·exact zbA (zat _)
   ·exact zaV
  ·exact zaV
 case fld x off n =>
  split
  ·split
   ·exact zcV (F:=fun v _ K=>K v) fun v=>zat v
   ·exact zat _
  ·exact zaV
 case idx x i len sz ag =>
  split
  ·refine zbA ?_
   split
   ·exact zat _
   ·exact zcV (F:=fun v _ K=>K v) fun v=>zat v
  ·exact zaV
 case len x=>split<;>first|exact zat _|exact zc8 (zat _)|exact zaV
 case ext x i =>
  split
  ·exact zcV (F:=fun v _ K=>K v) fun v=>zat v
  ·exact zaV
 case mkfn j l=>exact zat _
 case build z ps=>exact zcV fun cs=>zat _
 case slc x lo hi m sz=>exact zoy _ _ _ _ _
 case slca x lo hi m k sz =>
  split
  ·exact zc8 (zbA (zoy _ _ _ _ _))
  ·exact zaV
 case nilck x=>split<;>first|exact zat _|exact zc8 (zat _)|exact zaV
 case mnx mn x y=>split<;>first|exact zbA (zat _)|exact zaV
 case cap x=>split<;>first|exact zat _|exact zaV
 case look m k=>exact ziR (F:=fun v _ K=>K v) (fun σ' v hs e=>zpF (hs.2 rfl) e) fun v=>zat v
end
end Go.Eng
