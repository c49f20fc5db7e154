/-
  A part of the engine that walks the functions' codes, and of the functions' contracts. Conditions: those that each theorem names.
-/
import Derived.Test.YtnjpcpdmnadadaaGreatK3
import Derived.Below
import Derived.Calls
import Derived.ChangeKeysEq
import Derived.DataReads
import Derived.Deep.LoopGhost
import Derived.Laws.AppendOwn
import Derived.Laws.Cells
import Derived.Laws.CopyRow
import Derived.Laws.Entries
import Derived.Laws.MakeOwn
import Derived.Laws.Rows
import Derived.Laws.StructEq
import Derived.Laws.Tables
import Derived.Lib.AppendZerosOnto
import Derived.MapKept
import Derived.Orders
import Derived.ProofKit
import Derived.ScopeJumps
import Derived.Tactics2
import Derived.WalkSpells
set_option linter.unusedSimpArgs false
set_option linter.unusedVariables false
set_option linter.unusedSectionVars false
namespace Go.Eng
open Go.RowKit
section
variable {P:Program} {inv:Nat→Option Nat} {w0:World} {M:Nat→Prop} {n N:Nat} {φ:AF} {σ:AS} {β:Nat→Nat} {a:Act} {w:World}
theorem getD_put (a:Act) (d i:Nat) (y:Value) (hd:d<a.tmps.size):(a.put (some d) y).tmps.getD i undef=if i=d then y else a.tmps.getD i undef:=by
 simp only[Act.put,Array.getD_eq_getD_getElem?,Array.getElem?_setIfInBounds]
 by_cases h:i=d
 ·subst h;simp[hd]
 ·rw[if_neg (fun e=>h e.symm),if_neg h]
theorem St.put {σ':AS} {β':Nat→Nat} {w':World} {N1:Nat} (hs:St inv w0 M n φ σ β a w) (hm:Mem inv w0 M σ' β' w') (he:Ext N1 (ctx inv M σ β w) (ctx inv M σ' β' w')) (hN:zaC φ≤N1) {d:Nat} (hd:d<n) {x:AV} {y:Value}
  (hr:rel (ctx inv M σ' β' w') x y):St inv w0 M n (za5 φ d x) σ' β' (a.put (some d) y) w':=by
 refine ⟨⟨fun i=>?_,hm⟩,by simp[Act.put,hs.size],hs.defers⟩
 rw[zaU,getD_put a d i y (by rw[hs.size];exact hd)]
 split
 ·exact hr
 ·exact he.rel (zaI _ (Nat.le_trans (zbC φ i) hN)) (hs.slots i)
theorem St.keep {σ':AS} {β':Nat→Nat} {w':World} {N1:Nat} (hs:St inv w0 M n φ σ β a w) (hm:Mem inv w0 M σ' β' w') (he:Ext N1 (ctx inv M σ β w) (ctx inv M σ' β' w')) (hN:zaC φ≤N1) :
  St inv w0 M n φ σ' β' a w' :=
 ⟨⟨fun i=>he.rel (zaI _ (Nat.le_trans (zbC φ i) hN)) (hs.slots i),hm⟩,hs.size,hs.defers⟩
theorem St.set (hs:St inv w0 M n φ σ β a w) {d:Nat} (hd:d<n) {x:AV} {y:Value} (hr:rel (ctx inv M σ β w) x y):St inv w0 M n (za5 φ d x) σ β (a.put (some d) y) w :=
 hs.put hs.mem (.refl (zaC φ) _) (Nat.le_refl _) hd hr
theorem zbe (N:Nat) (φ:AF) (σ:AS):N≤zas N φ σ∧zaC φ≤zas N φ σ∧zaR σ≤zas N φ σ:=by
 have h1:=zaF N (mx (zaC φ) (zaR σ))
 have h2:=zal N (mx (zaC φ) (zaR σ))
 have h3:=zaF (zaC φ) (zaR σ)
 have h4:=zal (zaC φ) (zaR σ)
 unfold zas
 omega
theorem zjD (d:Opd) (h:∀ x,d=.c x→x.bound=0):(ev φ d).bound≤zaC φ:=by
 cases d with
 |t i=>exact zbC φ i
 |c x=>simp only[ev,h x rfl];omega
theorem zgh {t:TypeId} {x:Operand} {d:Opd} (h:zcM P inv t x=some d):∀ y,d=.c y→y.bound=0:=by
 intro y hy
 subst hy
 unfold zcM at h
 split at h
 ·cases h
 ·rename_i v
  obtain ⟨z,h1,h2⟩:=Option.map_eq_some_iff.1 h
  cases h2
  unfold cav at h1
  repeat' split at h1
  all_goals first|(cases h1;done)|(simp only[Option.some.injEq]at h1;subst h1;simp[AV.bound])
 ·obtain ⟨z,h1,h2⟩:=Option.map_eq_some_iff.1 h
  cases h2
  simp[AV.bound,zab]
 ·cases h
theorem ze4 (x:AV):zab x.cells≤x.bound:=by
 cases x<;>simp[AV.cells,zab,AV.bound,mx]
 all_goals (split<;>omega)
theorem Mem.fresh_put {l:Nat} {cs:List AV} {xs:Array Value} {ty:TypeId} {w':World} (h:Mem inv w0 M σ β w) (hl:zaR σ≤l) (hcb:zab cs≤l) (hheap:w'.heap=w.heap.push (.cells xs ty)) (hos:w'.os=w.os) (htape:w'.tape=w.tape) (hout:w'.output=w.output)
  (hlen:cs.length≤xs.size) (hrel:relCs (ctx inv M σ β w) cs (xs.toList.take cs.length)) :
  Mem inv w0 M (zaQ σ l (.cells cs true)) (upd β l w.heap.size) w'∧Ext l (ctx inv M σ β w) (ctx inv M (zaQ σ l (.cells cs true)) (upd β l w.heap.size) w') ∧
   zah (upd β l w.heap.size) w' (zaQ σ l (.cells cs true)) l=some ⟨w.heap.size,cs.length,xs.size,true⟩:=by
 have hold:∀ b,b<w.heap.size→w'.heap[b]?=w.heap[b]?:=fun b hb=>by rw[hheap,Array.getElem?_push,if_neg (by omega)]
 have hnew:w'.heap[w.heap.size]?=some (.cells xs ty (0,0)):=by rw[hheap];simp
 have hsz:w.heap.size≤w'.heap.size:=by rw[hheap];simp
 have hbel:Below w0.heap.size w0 w':=h.below.trans ⟨hos,htape,hout,hsz,fun b hb=>hold b (Nat.lt_of_lt_of_le hb h.below.size)⟩
 have hno:∀ o,zax σ l≠some o:=fun o e=>by have:=(zap σ l o e).1;omega
 have:=Mem.put (l:=l) (b':=w.heap.size) (N:=l) h hbel hsz (fun b hb _=>hold b hb) hnew hlen h.below.size (fun l' o' _ e hr=>Nat.ne_of_lt (h.own l' o' e hr).2) (.inl (Nat.le_refl _))
  (fun l' o' e _=>Nat.le_trans (zap σ l' o' e).2 hl) hcb (fun hlt=>absurd hlt (Nat.lt_irrefl _)) hrel
 refine ⟨this.1,this.2, ?_⟩
 unfold zah
 rw[zaf,if_pos rfl]
 simp[zaZ,zaG,hnew]
theorem zhh:∀ {r:List (Nat×AV)} {zs:List Value},zmL (zcE r) zs=true→zab (zcE r)=0:=by
 intro r zs h
 generalize zcE r=xs at h
 induction xs generalizing zs with
 |nil=>rfl
 |cons x xs ih =>
  cases zs with
  |nil=>simp[zmL]at h
  |cons z zs =>
   simp only[zmL,Bool.and_eq_true]at h
   have h2:=ih h.2
   have h1:x.bound=0:=by
    have:=h.1
    unfold zmC at this
    split at this<;>first|(simp[AV.bound];done)|cases this
   simp[zab,h1,h2,mx]
theorem zbG {t:TypeId} {r:List (Nat×AV)} (h:zdm P t=some r):zab (zcE r)=0:=by
 unfold zdm at h
 split at h
 ·split at h
  ·split at h
   ·rename_i e4
    cases h
    exact zhh e4
   ·cases h
  ·cases h
 ·cases h
theorem zfq {l ver off m sz cap:Nat} {p:Place} (hp:zah β w σ l=some p) (hv:p.len=ver) (h1:off+m*sz≤ver) (hcap:m≤cap) (hreal:p.real=true) (hsz:off+cap*sz≤p.size) :
  rel (ctx inv M σ β w) (.sm l ver off m sz) (.slice (some ⟨p.block,off,none⟩) m cap):=by
 simp only[rel]
 refine ⟨rfl,fun p' hp'=>?_⟩
 have:p'=p:=by have:=(show zah β w σ l=some p' from hp').symm.trans hp;simpa using this
 subst this
 exact ⟨by omega,fun _=>⟨h1,_,cap,rfl,hcap,by rw[hreal];exact ⟨.inr rfl,hsz⟩⟩⟩
theorem zfN:∀ (xs ys:List AV),zab (xs++ys)≤mx (zab xs) (zab ys)
 |[],ys=>by simp only[List.nil_append];exact zal _ _
 |x::xs,ys=>by
  have:=zfN xs ys
  simp only[List.cons_append,zab]
  unfold mx at this ⊢
  repeat' split
  all_goals (repeat' split at this)<;>omega
theorem zbZ {N:Nat} {xs ys:List AV} (h1:zab xs≤N) (h2:zab ys≤N):zab (xs++ys)≤N:=by
 have:=zfN xs ys
 unfold mx at this
 split at this<;>omega
theorem zcz {N:Nat}:∀ {xs:List AV},zab xs≤N→∀ x∈xs,x.bound≤N
 |[],_,x,h=>by cases h
 |y::ys,h,x,hx=>by
  simp only[zab]at h
  have h1:=zaF y.bound (zab ys)
  have h2:=zal y.bound (zab ys)
  rcases List.mem_cons.1 hx with rfl|hx
  ·omega
  ·exact zcz (by omega) x hx
theorem zc1 {N:Nat}:∀ {xs:List AV},(∀ x∈xs,x.bound≤N)→zab xs≤N
 |[],_=>by simp[zab]
 |y::ys,h=>by
  have h1:=h y (by simp)
  have h2:=zc1 (fun x hx=>h x (by simp[hx]):∀ x∈ys,x.bound≤N)
  simp only[zab,mx]
  split<;>omega
theorem zeB {N:Nat}:∀ (xs cs:List AV) (off:Nat),zab cs≤N→zab xs≤N→zab (ovl cs off xs)≤N
 |[],_,_,h,_=>h
 |x::xs,cs,off,h,hx=>by
  simp only[zab]at hx
  have h1:=zaF x.bound (zab xs)
  have h2:=zal x.bound (zab xs)
  refine zeB xs _ _ (zc1 fun y hy=>?_) (by omega)
  rcases List.mem_or_eq_of_mem_set hy with hy|rfl
  ·exact zcz h y hy
  ·omega
theorem ze3:∀ {ps:List (Nat×Nat×Opd)} {cs cs':List AV},zc0 φ cs ps=some cs'→(∀ p∈ps,∀ y,p.2.2=.c y→y.bound=0)→∀ N,zaC φ≤N→zab cs≤N→zab cs'≤N
 |[],_,_,h,_,_,_,hb=>by simp only[zc0,Option.some.injEq]at h;subst h;exact hb
 |(off,n,x)::ps,cs,_,h,hp,N,hN,hb=>by
  simp only[zc0]at h
  split at h
  ·refine ze3 h (fun p hp'=>hp p (by simp[hp'])) N hN (zeB _ _ _ hb ?_)
   exact Nat.le_trans (ze4 _) (Nat.le_trans (zjD x (hp (off,n,x) (by simp))) hN)
  ·cases h
theorem zeb {zah:Nat→Option (Nat×Nat×TypeId)}:∀ {l:List (Nat×Operand)} {ps:List (Nat×Nat×Opd)},zeO P inv zah l=some ps→∀ p∈ps,∀ y,p.2.2=.c y→y.bound=0
 |[],_,h,p,hp=>by simp only[zeO,Option.some.injEq]at h;subst h;cases hp
 |(i,x)::l,_,h,p,hp=>by
  simp only[zeO]at h
  split at h
  ·split at h
   ·rename_i off n t _ _ _ d ps e1 e2
    simp only[Option.some.injEq]at h
    subst h
    rcases List.mem_cons.1 hp with rfl|hp
    ·exact zgh e1
    ·exact zeb e2 p hp
   ·cases h
  ·cases h
theorem zeK {t:TypeId} {i:TypeInfo} {z:Value} (hi:P.info? t=some i) (hz:i.zero=some z) (w:World):(Instr.alloc t true (.tuple #[])).run P w=.ok (.pointer (some ⟨w.heap.size,0,none⟩)) (w.alloc (.cells z.cells t)):=by
 simp[Instr.alloc,zeroValue,typeInfo,hi,hz,newVar,newRow]
theorem St.new_ptr (hs:St inv w0 M n φ σ β a w) {d:Nat} (hd:d<n) {cs:List AV} {xs:Array Value} {ty:TypeId} (hcb:zab cs≤zas N φ σ) (hlen:cs.length=xs.size) (hrel:relCs (ctx inv M σ β w) cs xs.toList) :
  St inv w0 M n (za5 φ d (.ptr (zas N φ σ) cs.length 0)) (zaQ σ (zas N φ σ) (.cells cs true)) (upd β (zas N φ σ) w.heap.size) (a.put (some d) (.pointer (some ⟨w.heap.size,0,none⟩))) (w.alloc (.cells xs ty)) ∧
  Ext N (ctx inv M σ β w) (ctx inv M (zaQ σ (zas N φ σ) (.cells cs true)) (upd β (zas N φ σ) w.heap.size) (w.alloc (.cells xs ty))):=by
 obtain ⟨f1,f2,f3⟩:=zbe N φ σ
 have h:=hs.mem.fresh_put (l:=zas N φ σ) (cs:=cs) (xs:=xs) (ty:=ty) (w':=w.alloc (.cells xs ty)) f3 hcb rfl rfl rfl rfl (by omega) (by rw[hlen,←Array.length_toList,List.take_length];exact hrel)
 refine ⟨hs.put h.1 h.2.1 f2 hd ?_,h.2.1.mono f1⟩
 exact zdu h.2.2 rfl
theorem St.new_sm (hs:St inv w0 M n φ σ β a w) {d:Nat} (hd:d<n) {cs:List AV} {xs:Array Value} {ty:TypeId} {sz m cap:Nat} {w':World} (hheap:w'.heap=w.heap.push (.cells xs ty)) (hos:w'.os=w.os) (htape:w'.tape=w.tape) (hout:w'.output=w.output)
  (hcb:zab cs≤zas N φ σ) (hl:cs.length=m*sz) (hcap:m≤cap) (hsz:cap*sz≤xs.size) (hrel:relCs (ctx inv M σ β w) cs (xs.toList.take cs.length)) :
  St inv w0 M n (za5 φ d (.sm (zas N φ σ) (m*sz) 0 m sz)) (zaQ σ (zas N φ σ) (.cells cs true)) (upd β (zas N φ σ) w.heap.size) (a.put (some d) (.slice (some ⟨w.heap.size,0,none⟩) m cap)) w' ∧
  Ext N (ctx inv M σ β w) (ctx inv M (zaQ σ (zas N φ σ) (.cells cs true)) (upd β (zas N φ σ) w.heap.size) w'):=by
 obtain ⟨f1,f2,f3⟩:=zbe N φ σ
 have hle:m*sz≤cap*sz:=Nat.mul_le_mul_right _ hcap
 have h:=hs.mem.fresh_put (l:=zas N φ σ) (cs:=cs) (xs:=xs) (ty:=ty) (w':=w') f3 hcb hheap hos htape hout (by omega) hrel
 refine ⟨hs.put h.1 h.2.1 f2 hd ?_,h.2.1.mono f1⟩
 exact zfq h.2.2 (by simp[hl]) (by simp) hcap rfl (by simpa using hsz)
theorem St.new_map (hs:St inv w0 M n φ σ β a w) {d:Nat} (hd:d<n) :
  St inv w0 M n (za5 φ d (.mp (zas N φ σ))) (zaQ σ (zas N φ σ) (.imap [])) (upd β (zas N φ σ) w.heap.size) (a.put (some d) (.map (some w.heap.size))) (w.alloc (.map #[] 0)) ∧
  Ext N (ctx inv M σ β w) (ctx inv M (zaQ σ (zas N φ σ) (.imap [])) (upd β (zas N φ σ) w.heap.size) (w.alloc (.map #[] 0))):=by
 obtain ⟨f1,f2,f3⟩:=zbe N φ σ
 have h:=hs.mem.put_imap (l:=zas N φ σ) (b':=w.heap.size) (kvs:=[]) (es:=#[]) (clk:=0) (w':=w.alloc (.map #[] 0)) (N:=zas N φ σ) (hs.mem.below.alloc hs.mem.below.size _) (by simp)
  (fun b hb _=>Below.heap_alloc _ _ _ hb) (heap_alloc_new w _) hs.mem.below.size (fun l' o' _ e hr=>by have:=(hs.mem.own l' o' e hr).2;omega) (.inl (Nat.le_refl _)) (fun _=>f3) f3 (fun _=>Nat.le_refl _) rfl
 refine ⟨hs.put h.1 h.2.1 f2 hd ?_,h.2.1.mono f1⟩
 simp only[rel]
 refine ⟨rfl,fun p' hp' _=>?_⟩
 have:p'=⟨w.heap.size,0,0,true⟩:=by have:=(show zah _ _ _ _=some p' from hp').symm.trans h.2.2;simpa using this
 subst this
 rfl
theorem zkD (b v:Int):∀ (l:List MapEntry) (kvs:List (Int×Int)) (i:Nat),l.map (fun e=>(e.key,e.val))=kvs.map (fun p=>(Value.int .i64 p.1,Value.int .i64 p.2)) →
  (zhM l b i=none∧zks kvs b v=kvs++[(b,v)])∨∃ j x e,zhM l b i=some (i+j,x)∧l[j]?=some e∧e.key=.int .i64 b ∧
   (l.modify j fun e=>{ e with key:=.int .i64 b,val:=.int .i64 v }).map (fun e=>(e.key,e.val))=(zks kvs b v).map (fun p=>(Value.int .i64 p.1,Value.int .i64 p.2))
 |[],kvs,i,h=>by
  cases kvs with
  |nil=>exact .inl ⟨rfl,rfl⟩
  |cons p kvs=>simp at h
 |e::l,kvs,i,h=>by
  cases kvs with
  |nil=>simp at h
  |cons p kvs =>
   simp only[List.map_cons,List.cons.injEq,Prod.mk.injEq]at h
   simp only[zhM,zks,h.1.1,keyI]
   by_cases hb:p.1=b
   ·rw[if_pos (by rw[hb]),if_pos hb.symm]
    refine .inr ⟨0,e.val,e,rfl,rfl,by rw[h.1.1,hb], ?_⟩
    simp[h.2,hb]
   ·rw[if_neg (by simpa using hb),if_neg (fun e=>hb e.symm)]
    rcases zkD b v l kvs (i+1) h.2 with ⟨h1,h2⟩|⟨j,x,e',h1,h2,h3,h4⟩
    ·exact .inl ⟨h1,by rw[h2];rfl⟩
    ·refine .inr ⟨j+1,x,e',by rw[h1];congr 2;omega,h2,h3, ?_⟩
     simp only[List.modify_succ_cons,List.map_cons,h.1.1,h.1.2,h4]
theorem zf4 {c:Ctx} {zs:List AV} {z:Array Value} (hz:relCs c zs z.toList):∀ (m:Nat),relCs c (List.replicate m zs).flatten (List.replicate m z.toList).flatten
 |0=>by simpa using za9
 |m+1=>by simp only[List.replicate_succ,List.flatten_cons];exact zaT hz (zf4 hz m)
theorem zbo {α:Type} (l:List α):∀ (m:Nat),(List.replicate m l).flatten.length=m*l.length
 |0=>by simp
 |m+1=>by simp only[List.replicate_succ,List.flatten_cons,List.length_append,zbo l m,Nat.add_mul];omega
theorem zd1 {zs:List AV} {N:Nat} (h:zab zs≤N) (m:Nat):zab (List.replicate m zs).flatten≤N:=by
 refine zc1 fun x hx=>?_
 obtain ⟨l,hl,hx⟩:=List.mem_flatten.1 hx
 rw[List.eq_of_mem_replicate hl]at hx
 exact zcz h x hx
theorem zcF (z:Array Value) (m:Nat):(madeCells z (m*z.size)).toList=(List.replicate m z.toList).flatten:=by
 induction m with
 |zero=>simp[madeCells]
 |succ m ih =>
  have h1:(madeCells z ((m+1)*z.size)).toList=(madeCells z (m*z.size)).toList++z.toList:=by
   unfold madeCells
   simp only[Array.toList_map,Array.toList_range]
   rw[Nat.add_mul,Nat.one_mul,List.range_add,List.map_append,List.map_map]
   congr 1
   apply List.ext_getElem?
   intro j
   by_cases hj:j<z.size
   ·simp[hj,Nat.mul_comm m z.size,Nat.mod_eq_of_lt hj]
   ·simp[hj]
  rw[h1,ih,List.replicate_succ',List.flatten_append]
  simp
theorem zic (z:Array Value) (m c:Nat) (h:m≤c):((madeCells z (c*z.size)).toList.take (m*z.size))=(List.replicate m z.toList).flatten:=by
 rw[zcF]
 have:List.replicate c z.toList=List.replicate m z.toList++List.replicate (c-m) z.toList:=by rw[List.replicate_append_replicate];congr 1;omega
 rw[this,List.flatten_append,List.take_left' (by rw[zbo];simp)]
theorem zhA:∀ (xs cs:List AV) (off:Nat),off+xs.length≤cs.length→ovl cs off xs=cs.take off++xs++cs.drop (off+xs.length)
 |[],cs,off,_=>by simp[ovl]
 |x::xs,cs,off,h=>by
  simp only[List.length_cons]at h
  rw[ovl,zhA xs _ _ (by simp;omega)]
  rw[List.take_set,List.drop_set,if_pos (by omega)]
  have h1:(cs.take (off+1)).set off x=cs.take off++[x]:=by
   rw[List.take_succ_eq_append_getElem (by omega),List.set_append_right _ _ (by simp;omega)]
   simp[Nat.min_eq_left (show off≤cs.length by omega)]
  rw[h1]
  simp[Nat.add_assoc,Nat.add_comm 1]
end
end Go.Eng
namespace Go.Eng
open Go.RowKit
section
variable {P:Program} {inv:Nat→Option Nat} {w0:World} {M:Nat→Prop} {n N:Nat} {φ:AF} {σ:AS} {β:Nat→Nat} {a:Act} {w:World}
theorem zll (w:World) (g:Nat) (cs:Array Value):(w.setRow g cs).os=w.os∧(w.setRow g cs).tape=w.tape∧(w.setRow g cs).output=w.output∧(w.setRow g cs).heap.size=w.heap.size:=⟨rfl,rfl,rfl,by simp[World.setRow]⟩
theorem Mem.write {l:Nat} {cs cs':List AV} {xs xs':Array Value} {ty:TypeId} {N2:Nat} (h:Mem inv w0 M σ β w) (hg:zax σ l=some (.cells cs true)) (hxs:w.heap[β l]?=some (.cells xs ty (0,0))) (hN:zaR σ≤N2) (hcb:zab cs'≤N2)
  (hlen':cs'.length≤xs'.size) (hsize:xs'.size=xs.size) (hgrow:cs.length≤cs'.length) (hrel:relCs (ctx inv M σ β w) cs' (xs'.toList.take cs'.length)) :
  Mem inv w0 M (zaQ σ l (.cells cs' true)) β (w.setRow (β l) xs')∧Ext N2 (ctx inv M σ β w) (ctx inv M (zaQ σ l (.cells cs' true)) β (w.setRow (β l) xs')) ∧
   zah β (w.setRow (β l) xs') (zaQ σ l (.cells cs' true)) l=some ⟨β l,cs'.length,xs.size,true⟩:=by
 have hu:upd β l (β l)=β:=by funext k;unfold upd;split<;>simp_all
 have hown:=h.own l _ hg rfl
 obtain ⟨s1,s2,s3,s4⟩:=zll w (β l) xs'
 have hbel:Below w0.heap.size w0 (w.setRow (β l) xs'):=h.below.trans ⟨s1,s2,s3,by omega,fun b hb=>setRow_other w (β l) b xs' (by omega)⟩
 have hnew:=setRow_heap w (β l) xs xs' ty (0,0) hxs
 have hp:zah β w σ l=some ⟨β l,cs.length,xs.size,true⟩:=by unfold zah;rw[hg];simp[zaG,hxs]
 have:=Mem.put (l:=l) (b':=β l) (N:=N2) h hbel (by omega) (fun b hb hne=>setRow_other w (β l) b xs' hne) hnew hlen' hown.1
  (fun l' o' hne e hr he=>hne (h.inj l' l o' _ e hg hr rfl he)) (.inr ⟨_,hg,rfl,rfl⟩) (fun l' o' e _=>Nat.le_trans (zap σ l' o' e).2 hN) hcb
  (fun _ p' hp'=>⟨_,hp,by simp at hp';subst hp';exact hgrow,fun e=>by simp at hp';subst hp';simp at e;simp[e,hsize]⟩) hrel
 rw[hu]at this
 refine ⟨this.1,this.2, ?_⟩
 unfold zah
 rw[zaf,if_pos rfl]
 simp[zaG,hnew,hsize]
theorem zmy {α:Type} (l us:List α) (off m:Nat) (h1:off+us.length≤m) (h2:m≤l.length) :
  (l.take off++us++l.drop (off+us.length)).take m=(l.take m).take off++us++(l.take m).drop (off+us.length):=by
 rw[List.append_assoc,List.append_assoc,List.take_append,List.take_append,List.length_take,List.take_take,Nat.min_eq_left (show off≤l.length by omega),List.take_take,Nat.min_eq_left (show off≤m by omega),Nat.min_eq_right (show off≤m by omega),
  List.take_of_length_le (show us.length≤m-off by omega),List.drop_take]
 congr 3
 omega
theorem zlf (hs:St inv w0 M n φ σ β a w) {t:TypeId} {k:Nat} (ht:siz P t=some k) {l ver off:Nat} {x:AV} {u v:Value} (hu:rel (ctx inv M σ β w) (.ptr l ver off) u) (hv:rel (ctx inv M σ β w) x v) (hxb:x.bound≤zaC φ)
  {cs:List AV} {r:Bool} (hg:zax σ l=some (.cells cs r)) (hver:cs.length=ver) (h1:x.sound=true) (h2:x.cells.length=k) (h3:0<k) (h4:off+k≤ver) :
  ∃ w',(Instr.storeAt t u v).run P w=.ok () w'∧St inv w0 M n φ (zaQ σ l (.cells (ovl cs off x.cells) r)) β a w'∧Ext N (ctx inv M σ β w) (ctx inv M (zaQ σ l (.cells (ovl cs off x.cells) r)) β w'):=by
 have hr:r=true:=by
  cases r with
  |true=>rfl
  |false=>have:=hs.mem.ghost l cs hg;subst this;simp at hver;omega
 subst hr
 have hlive:zbL σ l ver:=by unfold zbL;rw[hg];exact hver
 obtain ⟨p,hp,_,rfl⟩:=zc9 hlive hu
 obtain ⟨xs,ty,e1,e2,e3⟩:=hs.mem.cells l cs hg
 have hpb:p.block=β l:=by unfold zah at hp;rw[hg]at hp;cases hp;rfl
 rw[hpb]
 have hxc:=zhV h1 hv
 have hxl:=zav hxc
 have hsz:v.cells.size=k:=by rw[←Array.length_toList,←hxl];exact h2
 have hst:=run_storeCells_at P (β l) off ty v.cells.toList 0 xs w e1 (by simp[hsz];omega) (zdv hxc)
 simp only[Nat.add_zero,Array.length_toList,hsz]at hst
 obtain ⟨f1,f2,f3⟩:=zbe N φ σ
 have hl2:=zav e3
 have hcsl:cs.length≤xs.toList.length:=by simpa using e2
 have hw:=hs.mem.write (cs':=ovl cs off x.cells) (xs':=(xs.toList.take off++v.cells.toList++xs.toList.drop (off+k)).toArray) (N2:=zas N φ σ) hg e1 f3
  (zeB _ _ _ (Nat.le_trans (zap σ l _ hg).2 f3) (Nat.le_trans (ze4 x) (by omega)))
  (by rw[zbB];simp[hsz];omega) (by simp[hsz];omega) (by rw[zbB];exact Nat.le_refl _)
  (by
   rw[zbB,zhA _ _ _ (by omega)]
   have hk:v.cells.toList.length=k:=by simpa using hsz
   have:=zmy xs.toList v.cells.toList off cs.length (by omega) hcsl
   rw[hk]at this
   rw[this,←h2]
   exact zaT (zaT (zbT off e3) hxc) (zbU _ e3))
 refine ⟨_, ?_,hs.keep hw.1 hw.2.1 f2,hw.2.1.mono f1⟩
 simp[Instr.storeAt,Instr.sureAddr,storeVar,zcJ ht,hsz,hst]
theorem zgq {t u ty e d:TypeId} {i:TypeInfo} {z:Value} (w:World) (ht:P.underlying t=some (.slice e)) (hu:P.underlying u=some (.slice d)) (hi:P.info? e=some i) (hz:i.zero=some z)
  (base:Option Addr) (sLen sCap:Nat) (olds news:List Value) (A:Option Addr) (m c:Nat)
  (ho:(Builtin.firstCells i.size sLen (.slice base sLen sCap)).run P w.drew=.ok olds.toArray w.drew) (hn:(Builtin.firstCells i.size m (.slice A m c)).run P w.drew=.ok news.toArray w.drew)
  (hg:sCap<sLen+m) (h63:((sLen+m:Nat):Int)≤9223372036854775807) (hfit:Builtin.nextslicecap (sLen+m) sCap*i.bytes≤281474976710656) :
  (Builtin.append_ #[t,u] ty #[.slice base sLen sCap,.slice A m c]).run P w =
   .ok (.slice (some ⟨w.heap.size,0,none⟩) (sLen+m) (grownCap w (sLen+m) sCap e))
    (w.drew.alloc (.cells (olds.toArray++news.toArray++Builtin.zeroCells z.cells (grownCap w (sLen+m) sCap e-(sLen+m))) e)):=by
 have hn':¬(sLen+m≤sCap):=by omega
 have h63':¬(9223372036854775807<((sLen:Int)+(m:Int))):=by omega
 have h48':¬(281474976710656<Builtin.nextslicecap (sLen+m) sCap*i.bytes):=by omega
 simp[Builtin.append_,run_underlying ht,run_underlying hu,sizeOf,typeInfo,zeroValue,hi,hz,Builtin.lenOf,hn',h63',h48',Question.forced,ho,hn,newRow,grownCap]
 congr 2
 apply Array.ext'
 simp[List.append_assoc]
theorem zj7 {t u ty e d:TypeId} {i:TypeInfo} (w:World) (ht:P.underlying t=some (.slice e)) (hu:P.underlying u=some (.slice d)) (hi:P.info? e=some i)
  (g sLen sCap:Nat) (cur:Array Value) (te:TypeId) (hgr:w.heap[g]?=some (.cells cur te (0,0))) (A:Option Addr) (m c:Nat) (news:List Value)
  (hn:(Builtin.firstCells i.size m (.slice A m c)).run P w=.ok news.toArray w) (h1:∀ u∈news,u.oneCell'=true) (hroom:sLen+m≤sCap) (hfit:sLen*i.size+news.length≤cur.size) :
  (Builtin.append_ #[t,u] ty #[.slice (some ⟨g,0,none⟩) sLen sCap,.slice A m c]).run P w =
   .ok (.slice (some ⟨g,0,none⟩) (sLen+m) sCap) (w.setRow g (cur.toList.take (sLen*i.size)++news++cur.toList.drop (sLen*i.size+news.length)).toArray):=by
 have hst:=run_storeCells_at P g (sLen*i.size) te news 0 cur w hgr (by simpa using hfit) h1
 simp only[Nat.add_zero]at hst
 simp[Builtin.append_,run_underlying ht,run_underlying hu,sizeOf,typeInfo,hi,Builtin.lenOf,hroom,hn,Addr.add_lit,hst]
theorem zgp {t u ty e d:TypeId} {i:TypeInfo} (w:World) (ht:P.underlying t=some (.slice e)) (hu:P.underlying u=some (.slice d)) (hi:P.info? e=some i)
  (base:Option Addr) (sLen sCap:Nat) (hcap:sLen≤sCap) (A:Option Addr) (c:Nat) :
  (Builtin.append_ #[t,u] ty #[.slice base sLen sCap,.slice A 0 c]).run P w=.ok (.slice base sLen sCap) w:=by
 have hf:(Builtin.firstCells i.size 0 (.slice A 0 c)).run P w=.ok #[] w:=by
  cases A<;>simp[Builtin.firstCells,loadCells,loadCellsFrom]
 cases base<;>simp[Builtin.append_,run_underlying ht,run_underlying hu,sizeOf,typeInfo,hi,Builtin.lenOf,hcap,hf,storeCells]
end
end Go.Eng
namespace Go.Eng
open Go.RowKit
section
variable {P:Program} {inv:Nat→Option Nat} {w0:World} {M:Nat→Prop} {n N:Nat} {φ:AF} {σ:AS} {β:Nat→Nat} {a:Act} {w:World}
theorem zkQ {w w':World} (h:w'.heap=w.heap) (p:Addr):w'.cell? p=w.cell? p:=by simp[World.cell?,h]
theorem zob {N:Nat} {cs:List AV} (h:zab cs≤N) (off m:Nat):zab (seg cs off m)≤N :=
 zc1 fun x hx=>zcz h x (List.mem_of_mem_drop (List.mem_of_mem_take hx))
theorem zog {sz:Nat} {x:AV} {u:Value} {K:Nat→List AV→Prop} (hm:Mem inv w0 M σ β w) (hx:rel (ctx inv M σ β w) x u) (h:zk4 σ sz x K) :
  ∃ m new A c news,K m new∧u=.slice A m c∧relCs (ctx inv M σ β w) new news∧news.length=m*sz∧zab new≤zaR σ ∧
   ∀ w',w'.heap=w.heap→(Builtin.firstCells sz m (.slice A m c)).run P w'=.ok news.toArray w':=by
 unfold zk4 at h
 split at h
 ·simp only[rel]at hx
  obtain ⟨ad,rfl⟩:=hx
  refine ⟨0,[],ad,0,[],h,rfl,za9,by simp,by simp[zab],fun w' _=>?_⟩
  cases ad<;>simp[Builtin.firstCells,loadCells,loadCellsFrom]
 ·rename_i sz' es
  obtain ⟨rfl,h⟩:=h
  simp only[rel]at hx
  obtain ⟨ad,cap,rfl,hcap,hr⟩:=hx
  by_cases hne:es=[]
  ·subst hne
   refine ⟨_,_,ad,cap,[],h,rfl,by simpa using za9,by simp,by simp[zab],fun w' _=>?_⟩
   cases ad<;>simp[Builtin.firstCells,loadCells,loadCellsFrom]
  ·obtain ⟨a',rfl,_,_,hrows⟩:=hr hne
   obtain ⟨hl,hb,ys,hys,hc⟩:=zgs hrows
   have hyl:=zav hys
   refine ⟨_,_,_,cap,ys,h,rfl,zdw (S:=(ctx inv M σ β w).S) _ _ hb hys,by rw[←hyl,hl],by rw[za7 _ hb];omega,fun w' hw'=>?_⟩
   exact run_firstCells_some w' sz' es.length a' es.length cap ys (by rw[←hyl,hl]) fun j v hv=>by
    rw[zkQ hw'];have:=hc j v hv;simp only[Nat.zero_add]at this;exact this
 ·rename_i l ver off m sz'
  obtain ⟨rfl,h⟩:=h
  split at h
  ·rename_i cs r hg
   obtain ⟨hv,h⟩:=h
   have hlive:zbL σ l ver:=by unfold zbL;rw[hg];exact hv
   obtain ⟨p,ad,cap,hp,hpv,hb,rfl,hcap,hr⟩:=zcI hlive hx
   have hbd:=zob (zap σ l _ hg).2 off (m*sz')
   have hsegl:(seg cs off (m*sz')).length=m*sz':=by simp[seg];omega
   by_cases h0:m=0
   ·subst h0
    refine ⟨0,_,ad,cap,[],h,rfl,by simpa [seg] using za9,by simp,hbd,fun w' _=>?_⟩
    cases ad<;>simp[Builtin.firstCells,loadCells,loadCellsFrom]
   ·have hreal:r=true:=by
     cases r with
     |true=>rfl
     |false =>
      unfold zah at hp
      rw[hg]at hp
      cases hp
      simp at hr
      omega
    subst hreal
    have hpe:p=⟨β l,cs.length,zaG w (β l),true⟩:=by unfold zah at hp;rw[hg]at hp;cases hp;rfl
    subst hpe
    simp only[if_true]at hr
    obtain ⟨hr1,hr2⟩:=hr
    have had:ad=some ⟨β l,off,none⟩:=hr1.resolve_left (by omega)
    subst had
    obtain ⟨ys,hyl,hyr,hyc⟩:=hm.cell hg
    refine ⟨m,_,_,cap,(ys.drop off).take (m*sz'),h,rfl,zbT _ (zbU _ hyr),by simp[hyl];omega,hbd,fun w' hw'=>?_⟩
    exact run_firstCells_some w' sz' m _ m cap _ (by simp[hyl];omega) fun j v hv=>by
     rw[zkQ hw',zch]
     rw[List.getElem?_take]at hv
     split at hv
     ·rw[List.getElem?_drop]at hv;exact hyc _ _ hv
     ·cases hv
  ·exact h.elim
 ·exact h.elim
theorem Mem.ghost_put {l:Nat} (h:Mem inv w0 M σ β w) (hl:zaR σ≤l):Mem inv w0 M (zaQ σ l (.cells [] false)) β w∧Ext l (ctx inv M σ β w) (ctx inv M (zaQ σ l (.cells [] false)) β w)∧zah β w (zaQ σ l (.cells [] false)) l=some ⟨0,0,0,false⟩:=by
 have hno:∀ o,zax σ l≠some o:=fun o e=>by have:=(zap σ l o e).1;omega
 have hget:∀ k o,zax (zaQ σ l (.cells [] false)) k=some o→o.real=true→zax σ k=some o:=by
  intro k o e hr
  rw[zaf]at e
  split at e
  ·simp at e;subst e;cases hr
  ·exact e
 have hpl:∀ k,k≠l→zah β w (zaQ σ l (.cells [] false)) k=zah β w σ k:=by
  intro k hk
  unfold zah
  rw[zaf,if_neg hk]
 have hx:Ext l (ctx inv M σ β w) (ctx inv M (zaQ σ l (.cells [] false)) β w):=by
  refine ⟨⟨rfl,Nat.le_refl _,fun _ _ _=>rfl,fun b _ hA=>?_⟩,fun k hk p' hp'=>?_⟩
  ·rcases hA with hm|⟨k,o,e,hr,hb⟩
   ·exact .inl hm
   ·exact .inr ⟨k,o,hget k o e hr,hr,hb⟩
  ·exact ⟨p',(hpl k (by omega)).symm.trans hp',Nat.le_refl _,fun _=>rfl⟩
 refine ⟨⟨h.below,fun l1 l2 o1 o2 e1 e2 r1 r2=>h.inj l1 l2 o1 o2 (hget _ _ e1 r1) (hget _ _ e2 r2) r1 r2,fun l1 o1 e1 r1=>h.own l1 o1 (hget _ _ e1 r1) r1,fun l1 cs e1=>?_,fun l1 cs e1=>?_,fun l1 kvs e1=>h.maps l1 kvs (hget _ _ e1 rfl)⟩,hx, ?_⟩
 ·have e2:=hget _ _ e1 rfl
  obtain ⟨xs,ty,q1,q2,q3⟩:=h.cells l1 cs e2
  exact ⟨xs,ty,q1,q2,hx.relCs (zat _ (Nat.le_trans (zap σ l1 _ e2).2 hl)) q3⟩
 ·rw[zaf]at e1
  split at e1
  ·simp at e1;exact e1
  ·exact h.ghost l1 cs e1
 ·unfold zah
  rw[zaf,if_pos rfl]
  rfl
theorem Mem.alike {σ':AS} (h:Mem inv w0 M σ β w) (he:∀ l,zax σ' l=zax σ l) (N1:Nat):Mem inv w0 M σ' β w∧Ext N1 (ctx inv M σ β w) (ctx inv M σ' β w):=h.drop (fun l o e=>by rw[←he l];exact e) N1
theorem zqP {t u ty e d':TypeId} {i:TypeInfo} {z:Value} (hs:St inv w0 M n φ σ β a w) (ht:P.underlying t=some (.slice e)) (hu:P.underlying u=some (.slice d')) (hi:P.info? e=some i) (hz:i.zero=some z) (hzs:z.cells.size=i.size) (hpos:0<i.size) (hby:i.bytes≤32768)
  {d:Nat} (hd:d<n) {s x:AV} {vs vx:Value} (hs1:rel (ctx inv M σ β w) s vs) (hx1:rel (ctx inv M σ β w) x vx) {K:AF→AS→Prop}
  (hh:zk4 σ i.size x fun m new=>zk1 φ σ (zas N φ σ) d i.size s m new K) :
  ∃ v w' φ' σ' β',K φ' σ'∧(Builtin.append_ #[t,u] ty #[vs,vx]).run P w=.ok v w'∧St inv w0 M n φ' σ' β' (a.put (some d) v) w'∧Ext N (ctx inv M σ β w) (ctx inv M σ' β' w'):=by
 obtain ⟨m,new,A,c,news,h,rfl,hnr,hnl,hnb,hfc⟩:=zog (P:=P) hs.mem hx1 hh
 clear hh
 have hnewl:=zav hnr
 obtain ⟨f1,f2,f3⟩:=zbe N φ σ
 have hones:=zdv hnr
 unfold zk1 at h
 split at h
 ·-- nothing lies zc3
  rename_i sz0
  obtain ⟨hsize,h⟩:=h
  simp only[rel]at hs1
  obtain ⟨ad,rfl⟩:=hs1
  by_cases h0:m=0
  ·subst h0
   have hn0:new=[]:=List.eq_nil_of_length_eq_zero (by rw[hnewl,hnl];simp)
   subst hn0
   have hg:=hs.mem.ghost_put f3
   refine ⟨.slice ad 0 0,w,_,_,β,h,zgp w ht hu hi ad 0 0 (Nat.le_refl _) A c, ?_,hg.2.1.mono f1⟩
   simp only[Nat.lt_irrefl,decide_false]
   refine hs.put hg.1 hg.2.1 f2 hd ?_
   simp only[rel]
   refine ⟨rfl,fun p' hp'=>?_⟩
   have:p'=⟨0,0,0,false⟩:=by have:=(show zah β w _ _=some p' from hp').symm.trans hg.2.2;simpa using this
   subst this
   exact ⟨by simp,fun _=>⟨by simp,ad,0,rfl,Nat.le_refl _,by simp⟩⟩
  ·have hfo:(Builtin.firstCells i.size 0 (.slice ad 0 0)).run P w.drew=.ok #[] w.drew:=by cases ad<;>simp[Builtin.firstCells,loadCells,loadCellsFrom]
   have hrun:=zgq (P:=P) (ty:=ty) w ht hu hi hz ad 0 0 [] news A m c hfo (hfc w.drew rfl) (by omega) (by omega)
    (growslice_fits (by omega) (Nat.le_trans (Nat.mul_le_mul_left _ hby) (by omega)))
   simp only[Nat.zero_add]at hrun
   have hge:=grownCap_ge w m 0 e
   have hnew:=hs.new_sm (N:=N) (d:=d) hd (cs:=new) (m:=m) (sz:=i.size) (cap:=grownCap w m 0 e) (w':=w.drew.alloc (.cells ([].toArray++news.toArray++Builtin.zeroCells z.cells (grownCap w m 0 e-m)) e))
    rfl rfl rfl rfl (Nat.le_trans hnb f3) (by rw[hnewl,hnl]) hge
    (by simp[size_zeroCells,hzs,hnl];rw[←Nat.add_mul];exact Nat.mul_le_mul_right _ (by omega))
    (by simp[hnewl];exact hnr)
   rw[show decide (0<m)=true by simp;omega]at h
   exact ⟨_,_,_,_,_,h,hrun,hnew.1,hnew.2⟩
 ·-- a named row
  rename_i l ver off k sz'
  obtain ⟨e1,e2,hkv,hsize,h⟩:=h
  subst e1 e2
  split at h
  ·rename_i cs r hg
   obtain ⟨hv,h⟩:=h
   have hlive:zbL σ l ver:=by unfold zbL;rw[hg];exact hv
   obtain ⟨p,ad,cap,hp,hpv,hb,rfl,hcap,hr⟩:=zcI hlive hs1
   by_cases h0:m=0
   ·subst h0
    have hn0:new=[]:=List.eq_nil_of_length_eq_zero (by rw[hnewl,hnl];simp)
    subst hn0
    have hal:=hs.mem.alike (σ':=zaQ σ l (.cells (cs++[]) (r||decide (0<0)))) (fun l'=>by rw[zaf];split<;>simp_all) (zas N φ σ)
    refine ⟨.slice ad k cap,w,_,_,β,h,zgp w ht hu hi ad k cap hcap A c, ?_,hal.2.mono f1⟩
    refine hs.put hal.1 hal.2 f2 hd ?_
    have:rel (ctx inv M σ β w) (.sm l ((k+0)*i.size) 0 (k+0) i.size) (.slice ad k cap):=by rw[Nat.add_zero,hkv];exact hs1
    refine hal.2.rel ?_ this
    simp only[AV.under,Nat.blt_eq]
    have:=(zap σ l _ hg).1
    omega
   ·have hrb:(r||decide (0<m))=true:=by simp;omega
    rw[hrb]at h
    by_cases hroom:k+m≤cap
    ·-- zc3 is room
     have hreal:r=true:=by
      cases r with
      |true=>rfl
      |false=>unfold zah at hp;rw[hg]at hp;cases hp;simp at hr;omega
     subst hreal
     have hpe:p=⟨β l,cs.length,zaG w (β l),true⟩:=by unfold zah at hp;rw[hg]at hp;cases hp;rfl
     subst hpe
     simp only[if_true]at hr
     obtain ⟨hr1,hr2⟩:=hr
     have had:ad=some ⟨β l,0,none⟩:=hr1.resolve_left (by omega)
     subst had
     obtain ⟨xs,te,e1,e2,e3⟩:=hs.mem.cells l cs hg
     have hbs:zaG w (β l)=xs.size:=by simp[zaG,e1]
     rw[hbs]at hr2
     have hfit:k*i.size+news.length≤xs.size:=by rw[hnl,←Nat.add_mul];exact Nat.le_trans (Nat.mul_le_mul_right _ hroom) (by omega)
     have hrun:=zj7 (P:=P) (ty:=ty) w ht hu hi (β l) k cap xs te e1 A m c news (hfc w rfl) hones hroom hfit
     have hcl:cs.length=k*i.size:=by omega
     have hxl:cs.length≤xs.toList.length:=by simpa using e2
     have hw:=hs.mem.write (cs':=cs++new) (xs':=(xs.toList.take (k*i.size)++news++xs.toList.drop (k*i.size+news.length)).toArray) (N2:=zas N φ σ) hg e1 f3
      (zbZ (Nat.le_trans (zap σ l _ hg).2 f3) (Nat.le_trans hnb f3))
      (by simp[hnewl];omega) (by simp;omega) (by simp)
      (by
       have hlen:(xs.toList.take (k*i.size)++news).length=(cs++new).length:=by simp[hnewl];omega
       simp only
       rw[List.take_append_of_le_length (by rw[hlen];exact Nat.le_refl _),←hlen,List.take_length,←hcl]
       exact zaT e3 hnr)
     refine ⟨_,_,_,_,β,h,hrun,hs.put hw.1 hw.2.1 f2 hd ?_,hw.2.1.mono f1⟩
     have:=zfq (inv:=inv) (M:=M) (off:=0) (m:=k+m) (sz:=i.size) (cap:=cap) (ver:=(k+m)*i.size) hw.2.2 (by simp[hnewl,hnl,Nat.add_mul];omega) (by simp) hroom rfl (by simpa using hr2)
     exact this
    ·-- a new row
     have holds:∃ olds:List Value,olds.length=k*i.size∧relCs (ctx inv M σ β w) cs olds∧(Builtin.firstCells i.size k (.slice ad k cap)).run P w.drew=.ok olds.toArray w.drew:=by
      cases r with
      |false =>
       have hc0:=hs.mem.ghost l cs hg
       subst hc0
       have hk0:k=0:=by
        rcases Nat.eq_zero_or_pos k with e|e
        ·exact e
        ·have:0<k*i.size:=Nat.mul_pos e hpos
         simp at hv;omega
       subst hk0
       refine ⟨[],by simp,za9, ?_⟩
       cases ad<;>simp[Builtin.firstCells,loadCells,loadCellsFrom]
      |true =>
       have hpe:p=⟨β l,cs.length,zaG w (β l),true⟩:=by unfold zah at hp;rw[hg]at hp;cases hp;rfl
       subst hpe
       simp only[if_true]at hr
       obtain ⟨ys,hyl,hyr,hyc⟩:=hs.mem.cell hg
       refine ⟨ys,by omega,hyr, ?_⟩
       by_cases hk:k=0
       ·subst hk
        have:ys=[]:=List.eq_nil_of_length_eq_zero (by omega)
        subst this
        cases ad<;>simp[Builtin.firstCells,loadCells,loadCellsFrom]
       ·have had:ad=some ⟨β l,0,none⟩:=hr.1.resolve_left (by omega)
        subst had
        exact run_firstCells_some w.drew i.size k _ k cap ys (by omega) fun j v hv'=>by rw[zch];simpa using hyc j v hv'
     obtain ⟨olds,hol,hor,hof⟩:=holds
     have hrun:=zgq (P:=P) (ty:=ty) w ht hu hi hz ad k cap olds news A m c hof (hfc w.drew rfl) (by omega) (by omega)
      (growslice_fits (by omega) (Nat.le_trans (Nat.mul_le_mul_left _ hby) (by omega)))
     have hge:=grownCap_ge w (k+m) cap e
     have hcl:cs.length=k*i.size:=by omega
     generalize hblk:olds.toArray++news.toArray++Builtin.zeroCells z.cells (grownCap w (k+m) cap e-(k+m))=blk at hrun
     have hbl:blk.size=grownCap w (k+m) cap e*i.size:=by
      rw[←hblk]
      simp only[Array.size_append,List.size_toArray,size_zeroCells,hzs,hol,hnl,←Nat.add_mul]
      congr 1
      omega
     have hbt:blk.toList.take (cs++new).length=olds++news:=by
      rw[←hblk]
      have:(cs++new).length=(olds++news).length:=by simp[hnewl,hol];omega
      rw[this]
      simp only[Array.toList_append]
      rw[List.take_left']
      rfl
     have hheap:∀ b,b<w.heap.size→(w.drew.alloc (.cells blk e)).heap[b]?=w.heap[b]?:=fun b hb=>Below.heap_alloc w.drew _ b hb
     have hlen':(cs++new).length≤blk.size:=by
      rw[hbl]
      simp only[List.length_append,hnewl,hnl,hcl,←Nat.add_mul]
      exact Nat.mul_le_mul_right _ hge
     have hsizep:0<m*i.size:=Nat.mul_pos (by omega) hpos
     have hput:=Mem.put (l:=l) (b':=w.heap.size) (cs':=cs++new) (xs':=blk) (ty:=e) (N:=zas N φ σ) (w':=w.drew.alloc (.cells blk e)) hs.mem
      (hs.mem.below.trans ⟨rfl,rfl,rfl,by simp,fun b hb=>hheap b (Nat.lt_of_lt_of_le hb hs.mem.below.size)⟩) (by simp) (fun b hb _=>hheap b hb) (heap_alloc_new w.drew _) hlen' hs.mem.below.size
      (fun l' o' _ e' hr'=>Nat.ne_of_lt (hs.mem.own l' o' e' hr').2) (.inl (Nat.le_refl _)) (fun l' o' e' _=>Nat.le_trans (zap σ l' o' e').2 f3)
      (zbZ (Nat.le_trans (zap σ l _ hg).2 f3) (Nat.le_trans hnb f3))
      (fun _ p' hp'=>⟨p,hp,by simp at hp';subst hp';simp[hpv,hnewl,hnl];omega,fun ee=>by simp at hp';subst hp';simp[hpv,hnewl,hnl]at ee;omega⟩)
      (by rw[hbt];exact zaT hor hnr)
     have hpl:zah (upd β l w.heap.size) (w.drew.alloc (.cells blk e)) (zaQ σ l (.cells (cs++new) true)) l=some ⟨w.heap.size,(cs++new).length,blk.size,true⟩:=by
      unfold zah
      rw[zaf,if_pos rfl]
      have:(w.drew.alloc (.cells blk e)).heap[w.heap.size]?=some (.cells blk e (0,0)):=heap_alloc_new w.drew _
      simp only[zaZ,zaG,this]
     refine ⟨_,_,_,_,_,h,hrun,hs.put hput.1 hput.2 f2 hd ?_,hput.2.mono f1⟩
     exact zfq (inv:=inv) (M:=M) (off:=0) (m:=k+m) (sz:=i.size) (cap:=grownCap w (k+m) cap e) (ver:=(k+m)*i.size) hpl (by simp[hnewl,hnl,Nat.add_mul];omega) (by simp) hge rfl (by show 0+_≤blk.size;rw[hbl];omega)
  ·exact h.elim
 ·exact h.elim
theorem zqF (hs:St inv w0 M n φ σ β a w) {t e ty:TypeId} {i:TypeInfo} {zs:List (Nat×AV)} (ht:P.underlying t=some (.slice e)) (hz:zdm P e=some zs) (hi:P.info? e=some i) (hl:(zcE zs).length=i.size) (hpos:0<i.size)
  {x:AV} {K:AF→AS→Prop}
  (h:match x with
  |.s0 _=>K φ σ
  |.sm l ver off n sz'=>ob (sz'=i.size) <| ob (off+n*i.size≤ver) (match zax σ l with
   |some (.cells cs r)=>ob (cs.length=ver) (K φ (zaQ σ l (.cells (ovl cs off (List.replicate n (zcE zs)).flatten) r)))
   |_=>False)
  |_=>False) {v:Value} (hv:rel (ctx inv M σ β w) x v) :
  ∃ w' σ',(Builtin.clear_ #[t] ty #[v]).run P w=.ok (.tuple #[]) w'∧St inv w0 M n φ σ' β a w'∧Ext N (ctx inv M σ β w) (ctx inv M σ' β w')∧K φ σ':=by
 cases x with
 |s0 sz0 =>
  simp only[rel]at hv
  obtain ⟨ad,rfl⟩:=hv
  refine ⟨w,σ, ?_,hs,.refl _ _,h⟩
  cases ad<;>simp[Builtin.clear_,run_underlying ht]
 |sm l ver off m sz' =>
  obtain ⟨rfl,h2,h⟩:=h
  split at h
  ·rename_i cs r hg
   obtain ⟨hver,h⟩:=h
   have hlive:zbL σ l ver:=by unfold zbL;rw[hg];exact hver
   obtain ⟨p,ad,cap,hp,hpv,hb,rfl,hcap,hr⟩:=zcI hlive hv
   obtain ⟨f1,f2,f3⟩:=zbe N φ σ
   by_cases h0:m=0
   ·subst h0
    simp only[List.replicate_zero,List.flatten_nil]at h
    have ho:ovl cs off []=cs:=rfl
    rw[ho]at h
    have hal:=hs.mem.alike (σ':=zaQ σ l (.cells cs r)) (fun l'=>by rw[zaf];split<;>simp_all) (zas N φ σ)
    refine ⟨w,_, ?_,hs.keep hal.1 hal.2 f2,hal.2.mono f1,h⟩
    cases ad<;>simp[Builtin.clear_,run_underlying ht]
   ·have hreal:r=true:=by
     cases r with
     |true=>rfl
     |false=>unfold zah at hp;rw[hg]at hp;cases hp;simp at hr;omega
    subst hreal
    have hpe:p=⟨β l,cs.length,zaG w (β l),true⟩:=by unfold zah at hp;rw[hg]at hp;cases hp;rfl
    subst hpe
    simp only[if_true]at hr
    have had:ad=some ⟨β l,off,none⟩:=hr.1.resolve_left (by omega)
    subst had
    obtain ⟨xs,te,e1,e2,e3⟩:=hs.mem.cells l cs hg
    obtain ⟨i',zv,hi',hzv,hzr⟩:=zbQ (c:=ctx inv M σ β w) hz
    rw[hi]at hi'
    simp only[Option.some.injEq]at hi'
    subst hi'
    have hzl:=zav hzr
    have hzs:zv.cells.size=i.size:=by rw[←Array.length_toList,←hzl];exact hl
    have hz2:(Builtin.zeroCells zv.cells m).toList=(List.replicate m zv.cells.toList).flatten:=zcF zv.cells m
    have hrr:=zf4 hzr m
    have hnl:((List.replicate m zv.cells.toList).flatten).length=m*i.size:=by rw[zbo];simp[hzs]
    have hcl:(List.replicate m (zcE zs)).flatten.length=m*i.size:=by rw[zbo,hl]
    have hcsl:cs.length≤xs.toList.length:=by simpa using e2
    have hst:=run_storeCells_at P (β l) off te (List.replicate m zv.cells.toList).flatten 0 xs w e1 (by rw[hnl];omega) (zdv hrr)
    simp only[Nat.add_zero]at hst
    have hw:=hs.mem.write (cs':=ovl cs off (List.replicate m (zcE zs)).flatten) (xs':=(xs.toList.take off++(List.replicate m zv.cells.toList).flatten++xs.toList.drop (off+(List.replicate m zv.cells.toList).flatten.length)).toArray) (N2:=zas N φ σ) hg e1 f3
     (zeB _ _ _ (Nat.le_trans (zap σ l _ hg).2 f3) (zd1 (by rw[zbG hz];omega) m))
     (by rw[zbB];simp only[List.size_toArray,List.length_append,List.length_take,List.length_drop,hnl];omega) (by simp only[List.size_toArray,List.length_append,List.length_take,List.length_drop,hnl];simp;omega) (by rw[zbB];exact Nat.le_refl _)
     (by
      rw[zbB,zhA _ _ _ (by omega)]
      have:=zmy xs.toList (List.replicate m zv.cells.toList).flatten off cs.length (by omega) hcsl
      rw[this,hnl,hcl]
      exact zaT (zaT (zbT off e3) hrr) (zbU _ e3))
    refine ⟨_,_, ?_,hs.keep hw.1 hw.2.1 f2,hw.2.1.mono f1,h⟩
    obtain ⟨m',rfl⟩:∃ m',m=m'+1:=⟨m-1,by omega⟩
    simp[Builtin.clear_,run_underlying ht,zeroValue,typeInfo,hi,hzv,hz2,hst]
  ·exact h.elim
 |_=>exact h.elim
end
end Go.Eng
