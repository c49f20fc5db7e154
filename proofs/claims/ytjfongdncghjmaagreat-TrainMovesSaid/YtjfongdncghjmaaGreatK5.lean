/-
  A part of the engine that walks the functions' codes, and of the functions' contracts. Conditions: those that each theorem names.
-/
import Derived.Test.YtjfongdncghjmaaGreatK4
import Derived.Below
import Derived.Calls
import Derived.ChangeKeysEq
import Derived.DataReads
import Derived.Deep.LoopGhost
import Derived.Laws.AppendOwn
import Derived.Laws.Cells
import Derived.Laws.CopyRow
import Derived.Laws.Entries
import Derived.Laws.MakeOwn
import Derived.Laws.Rows
import Derived.Laws.StructEq
import Derived.Laws.Tables
import Derived.Lib.AppendZerosOnto
import Derived.MapKept
import Derived.Orders
import Derived.ProofKit
import Derived.ScopeJumps
import Derived.Tactics2
import Derived.WalkSpells
set_option linter.unusedSimpArgs false
set_option linter.unusedVariables false
set_option linter.unusedSectionVars false
namespace Go.Eng
open Go.RowKit
inductive Sh where
 |i (k:IntKind)
 |b
 |s (sz:Nat) (e:Sh)
 |st (fs:List Sh)
 |ar (n:Nat) (e:Sh)
 deriving Inhabited
inductive D where
 |n (n:Int)
 |t (t:Bool)
 |l (l:List D)
 deriving Inhabited
mutual
def Sh.size:Sh->Nat
 |.i _=>1|.b=>1|.s _ _=>1
 |.st fs=>zda fs
 |.ar n e=>n*e.size
def zda:List Sh->Nat
 |[]=>0
 |x::r=>x.size+zda r
end
mutual
def Sh.av:Sh->D->List AV
 |.i k,.n n=>[.i k n]
 |.b,.t t=>[.b t]
 |.s sz e,.l l=>[.sl sz (l.map (Sh.av e))]
 |.st fs,.l l=>zdt fs l
 |.ar _ e,.l l=>(l.map (Sh.av e)).flatten
 |_,_=>[]
def zdt:List Sh->List D->List AV
 |x::xs,d::ds=>Sh.av x d++zdt xs ds
 |_,_=>[]
end
mutual
def Sh.ok:Sh->D->Prop
 |.i k,.n n=>(Lit.int k n).wf=true
 |.b,.t _=>True
 |.s _ e,.l l=>l.length<=maxLen/\∀ d∈l,Sh.ok e d
 |.st fs,.l l=>zd9 fs l
 |.ar n e,.l l=>l.length=n/\∀ d∈l,Sh.ok e d
 |_,_=>False
def zd9:List Sh->List D->Prop
 |[],[]=>True
 |x::xs,d::ds=>Sh.ok x d/\zd9 xs ds
 |_,_=>False
end
section
variable (P:Program)
mutual
def zqe:Nat->TypeId->Option Sh
 |0,_=>none
 |n+1,t =>
  match P.underlying t with
  |some (.int k)=>some (.i k)
  |some .bool=>some .b
  |some (.slice e)=>match zqe n e with
   |some s=>if P.cellsOf e=s.size/\0<s.size then some (.s s.size s) else none
   |none=>none
  |some (.struct fs)=>match shFs n 0 fs.toList with
   |some l=>if P.cellsOf t=zda l then some (.st l) else none
   |none=>none
  |some (.array m e)=>match zqe n e with
   |some s=>if P.cellsOf e=s.size/\P.cellsOf t=m*s.size then some (.ar m s) else none
   |none=>none
  |_=>none
def shFs:Nat->Nat->List Field->Option (List Sh)
 |0,_,_=>none
 |_+1,_,[]=>some []
 |n+1,off,f::fs=>match zqe n f.type,shFs n (off+P.cellsOf f.type) fs with
  |some s,some l=>if f.offset=off/\P.cellsOf f.type=s.size then some (s::l) else none
  |_,_=>none
end
end
mutual
theorem zi0:∀ (S:Sh) (d:D),S.ok d->(S.av d).length=S.size
 |.i k,d,h=>by cases d<;>simp only[Sh.ok]at h<;>simp[Sh.av,Sh.size]
 |.b,d,h=>by cases d<;>simp only[Sh.ok]at h<;>simp[Sh.av,Sh.size]
 |.s sz e,d,h=>by cases d<;>simp only[Sh.ok]at h<;>simp[Sh.av,Sh.size]
 |.st fs,d,h=>by
  cases d<;>simp only[Sh.ok]at h
  rename_i l;simp only[Sh.av,Sh.size];exact zjN fs l h
 |.ar n e,d,h=>by
  cases d<;>simp only[Sh.ok]at h
  rename_i l;simp only[Sh.av,Sh.size];obtain ⟨h1,h2⟩:=h;subst h1
  induction l with
  |nil=>simp
  |cons x l ih =>
   simp only[List.map_cons,List.flatten_cons,List.length_append,List.length_cons];rw[zi0 e x (h2 x (by simp)),ih fun d hd=>h2 d (by simp[hd]),Nat.add_mul]
   omega
theorem zjN:∀ (fs:List Sh) (l:List D),zd9 fs l->(zdt fs l).length=zda fs
 |[],l,h=>by cases l<;>simp only[zd9]at h<;>simp[zdt,zda]
 |s::ss,l,h=>by
  cases l<;>simp only[zd9]at h
  simp only[zdt,zda,List.length_append];rw[zi0 s _ h.1,zjN ss _ h.2]
end
section
variable {H:Type} {enc:TypeId×Value->H} {P:Program} {w:World} {base:Nat} {spare:Nat->Bool} {held:Bool} {inv:Nat->Option Nat}
abbrev c0 (inv:Nat->Option Nat) (w:World):Ctx:=⟨inv,w,fun _=>False,fun _=>none⟩
theorem zm0 {α β:Type} {f:α->Option β}:∀ {l:List α} {r:List β},l.mapM f=some r->r.length=l.length/\∀ (i:Nat) (x:α),l[i]?=some x->∃ y,r[i]?=some y/\f x=some y
 |[],r,h=>by simp at h;subst h;exact ⟨rfl,by simp⟩
 |a::l,r,h=>by
  simp only[List.mapM_cons,Option.pure_def,Option.bind_eq_bind,Option.bind_eq_some_iff,Option.some.injEq]at h;obtain ⟨y,h1,ys,h2,rfl⟩:=h;obtain ⟨h3,h4⟩:=zm0 h2;refine ⟨by simp[h3],fun i x hx=>?_⟩
  cases i with
  |zero=>simp at hx;subst hx;exact ⟨y,by simp,h1⟩
  |succ i=>simpa using h4 i x (by simpa using hx)
theorem zsj:∀ (S:Sh) (d:D),zaf (S.av d)=true
 |S,d=>by
  have key:∀ (S:Sh),∀ d,zaf (S.av d)=true:=by
   intro S;refine Sh.rec (motive_1:=fun S=>∀ d,zaf (S.av d)=true) (motive_2:=fun fs=>∀ l,zaf (zdt fs l)=true) ?_ ?_ ?_ ?_ ?_ ?_ ?_ S
   ·intro k d;cases d<;>simp[Sh.av,zaf,AV.bare]
   ·intro d;cases d<;>simp[Sh.av,zaf,AV.bare]
   ·intro sz e ih d;cases d<;>simp[Sh.av,zaf,AV.bare]
   ·intro fs ih d;cases d<;>simp[Sh.av,zaf];exact ih _
   ·intro n e ih d
    cases d<;>simp[Sh.av,zaf]
    rename_i l
    induction l with
    |nil=>simp[zaf]
    |cons x l ihl=>simp only[List.map_cons,List.flatten_cons,zdE,ih x,ihl,Bool.and_self]
   ·intro l;cases l<;>simp[zdt,zaf]
   ·intro s ss ih ihl l
    cases l<;>simp[zdt,zaf]
    rw[zdE,ih,ihl];rfl
  exact key S d
theorem zqq {a:Addr} {sz len:Nat} {S:Sh} (hf:∀ i,i<len->∃ cs d,w.cells? base (a.add (i*sz)) sz=some cs/\S.ok d/\relCs (c0 inv w) (S.av d) cs) (hsz:S.size=sz) :
  ∃ ds:List D,ds.length=len/\(∀ d∈ds,S.ok d)/\∀ k,zaS (c0 inv w) sz (a.add (k*sz)) 0 ((ds.drop k).map S.av):=by
 have h1:∃ ds:List D,ds.length=len/\∀ i,i<len->∃ cs d,ds[i]?=some d/\w.cells? base (a.add (i*sz)) sz=some cs/\S.ok d/\relCs (c0 inv w) (S.av d) cs:=by
  induction len with
  |zero=>exact ⟨[],rfl,fun i hi=>absurd hi (Nat.not_lt_zero i)⟩
  |succ n ih =>
   obtain ⟨ds,hl,hd⟩:=ih fun i hi=>hf i (by omega)
   obtain ⟨cs,d,k1,k2,k3⟩:=hf n (by omega)
   refine ⟨ds++[d],by simp[hl],fun i hi=>?_⟩
   by_cases hin:i<n
   ·obtain ⟨cs',d',q0,q⟩:=hd i hin
    exact ⟨cs',d',by rw[List.getElem?_append_left (by omega)];exact q0,q⟩
   ·have:i=n:=by omega
    subst this;exact ⟨cs,d,by rw[List.getElem?_append_right (by omega)];simp[hl],k1,k2,k3⟩
 obtain ⟨ds,hl,hd⟩:=h1;refine ⟨ds,hl,fun d hm=>?_,fun k=>?_⟩
 ·obtain ⟨i,hi,e⟩:=List.mem_iff_getElem.1 hm
  obtain ⟨cs,d',q0,_,q2,_⟩:=hd i (by omega)
  rw[List.getElem?_eq_getElem hi,e]at q0;simp only[Option.some.injEq]at q0;subst q0;exact q2
 ·have key:∀ (m k:Nat),ds.length-k=m->zaS (c0 inv w) sz a (k*sz) ((ds.drop k).map S.av):=by
   intro m
   induction m with
   |zero =>
    intro k hk;rw[List.drop_eq_nil_of_le (by omega)]
    simp[zaS]
   |succ m ih =>
    intro k hk;have hlt:k<ds.length:=by omega
    obtain ⟨cs,d',q0,q1,q2,q3⟩:=hd k (by omega)
    rw[List.drop_eq_getElem_cons hlt];rw[List.getElem?_eq_getElem hlt]at q0;simp only[Option.some.injEq]at q0;simp only[List.map_cons,zaS];rw[q0];have hlen:=zi0 S d' q2;obtain ⟨c1,c2,c3⟩:=World.cells?_some q1;refine ⟨hlen.trans hsz, ?_, ?_⟩
    ·refine zgd (zsj S d') (zdY (S:=fun _=>none) _ _ (zsj S d') q3) fun j u hu=>?_
     have hj:j<cs.length:=(List.getElem?_eq_some_iff.1 hu).1;have:=c3 j (by omega)
     rw[zi6]at this;exact this.trans hu
    ·rw[show k*sz+sz=(k+1)*sz by rw[Nat.add_mul];omega]
     exact ih (k+1) (by omega)
  have:=key _ k rfl;have h0:=zei (c:=c0 inv w) (sz:=sz) (ad:=a) (k:=0) (k*sz) (es:=(ds.drop k).map S.av) (by simpa using this)
  exact h0
theorem zju {c:Ctx} {S:Sh}:∀ {ds:List D} {css:List (List Value)},ds.length=css.length->(∀ (i:Nat) d cs,ds[i]?=some d->css[i]?=some cs->relCs c (S.av d) cs)->relCs c (ds.map S.av).flatten css.flatten
 |[],[],_,_=>zbs
 |[],_::_,h,_=>by simp at h
 |_::_,[],h,_=>by simp at h
 |d::ds,cs::css,h,hr=>by
  simp only[List.map_cons,List.flatten_cons];exact za6 (hr 0 d cs rfl rfl) (zju (by simpa using h) fun i d' cs' h1 h2=>hr (i+1) d' cs' h1 h2)
theorem chop {α:Type} (sz:Nat):∀ (n:Nat) (l:List α),l.length=n*sz->((List.range n).map fun i=>(l.drop (i*sz)).take sz).flatten=l
 |0,l,h=>by simp at h;simp[h]
 |n+1,l,h=>by
  have ih:=chop sz n (l.drop sz) (by rw[List.length_drop,h,Nat.add_mul];omega)
  rw[List.range_succ_eq_map,List.map_cons,List.flatten_cons,List.map_map];have e:((List.range n).map ((fun i=>(l.drop (i*sz)).take sz)∘Nat.succ)).flatten=l.drop sz:=by
   rw[<-ih]
   congr 1
   refine List.map_congr_left fun i _=>?_
   simp only[Function.comp,List.drop_drop];rw[show sz+i*sz=i.succ*sz by rw[Nat.succ_mul];omega]
  rw[e];simp
theorem zo9:∀ (n:Nat),(∀ (t:TypeId) (S:Sh),zqe P n t=some S->∀ (fuel:Nat) (cs:List Value) (x:DataW H×List MemPlace),DataW.trod enc P w base spare held fuel t cs=some x ->
  ∃ d,S.ok d/\relCs (c0 inv w) (S.av d) cs) /\
  (∀ (off:Nat) (fs:List Field) (l:List Sh),shFs P n off fs=some l->∀ (fuel:Nat) (cs:List Value) (xs:List (DataW H×List MemPlace)),cs.length=off+zda l ->
   (fs.mapM fun f=>DataW.trod enc P w base spare held fuel f.type ((cs.drop f.offset).take (P.cellsOf f.type)))=some xs->∃ ds,zd9 l ds/\relCs (c0 inv w) (zdt l ds) (cs.drop off)):=by
 intro n
 induction n with
 |zero=>exact ⟨fun t S hS=>by simp[zqe]at hS,fun off fs l h=>by simp[shFs]at h⟩
 |succ n ih =>
 refine ⟨fun t S hS fuel cs x hx=>?_,fun off fs l hl fuel cs xs hlen hx=>?_⟩
 ·cases fuel with
  |zero=>simp[DataW.trod]at hx
  |succ fuel =>
  unfold zqe at hS;unfold DataW.trod at hx;split at hS
  ·rename_i k e
   simp only[Option.some.injEq]at hS;subst hS;rw[e]at hx;rcases cs with _|⟨v,_|⟨v',r⟩⟩
   ·simp at hx
   ·cases v<;>simp at hx
    rename_i k' q;obtain ⟨⟨rfl,hw⟩,_⟩:=hx;exact ⟨.n q,hw,zcQ rfl (by simp only[rel]) zbs⟩
   ·simp at hx
  ·rename_i e
   simp only[Option.some.injEq]at hS;subst hS;rw[e]at hx;rcases cs with _|⟨v,_|⟨v',r⟩⟩
   ·simp at hx
   ·cases v<;>simp at hx
    rename_i q;exact ⟨.t q,trivial,zcQ rfl (by simp only[rel]) zbs⟩
   ·simp at hx
  ·rename_i e0 e
   rw[e]at hx;split at hS
   ·rename_i s hs
    split at hS
    ·rename_i hc
     obtain ⟨hc1,hc2⟩:=hc;simp only[Option.some.injEq]at hS;subst hS;rcases cs with _|⟨v,_|⟨v',r⟩⟩
     ·simp at hx
     ·cases v<;>simp at hx
      rename_i ad len cap;cases ad with
      |none =>
       cases len<;>cases cap<;>simp at hx
       exact ⟨.l [],⟨by simp[maxLen],by simp⟩,zcQ rfl (by simp only[rel];exact ⟨none,0,rfl,Nat.le_refl _,fun h=>absurd rfl h⟩) zbs⟩
      |some a =>
       simp at hx;obtain ⟨⟨b1,b2,b3⟩,hx⟩:=hx;obtain ⟨el,q1,_⟩:=Option.bind_eq_some_iff.1 hx;obtain ⟨h3,h4⟩:=zm0 q1;have hrows:∀ i,i<len->∃ cs d,w.cells? base (a.add (i*s.size)) s.size=some cs/\s.ok d/\relCs (c0 inv w) (s.av d) cs:=by
        intro i hi;obtain ⟨y,_,hy⟩:=h4 i i (by simp[hi])
        rw[hc1]at hy;obtain ⟨cs,k1,k2⟩:=Option.bind_eq_some_iff.1 hy;obtain ⟨d,k3,k4⟩:=ih.1 e0 s hs fuel cs y k2;exact ⟨cs,d,k1,k3,k4⟩
       obtain ⟨ds,r1,r2,r3⟩:=zqq hrows rfl;refine ⟨.l ds,⟨by omega,r2⟩,zcQ rfl ?_ zbs⟩
       simp only[rel];refine ⟨some a,cap,by simp[r1],by simp[r1];omega,fun hne=>⟨a,rfl,fun h=>h, ?_,by have:=r3 0;simp only[Nat.zero_mul,List.drop_zero]at this;rwa [show a.add 0=a by simp[Addr.add]]at this⟩⟩
       have hpos:0<len:=by
        rcases Nat.eq_zero_or_pos len with h0|h0
        ·exact absurd (by simp[List.eq_nil_of_length_eq_zero (r1.trans h0)]) hne
        ·exact h0
       obtain ⟨cs,d,k1,_⟩:=hrows 0 hpos;have:=World.cells?_block k1 hc2
       simpa [zeW] using this
     ·simp at hx
    ·cases hS
   ·cases hS
  ·rename_i fs e
   rw[e]at hx;split at hS
   ·rename_i l hl
    split at hS
    ·rename_i hc
     simp only[Option.some.injEq]at hS;subst hS;simp only at hx;split at hx
     ·rename_i hlen
      obtain ⟨xs,hxs,_⟩:=Option.map_eq_some_iff.1 hx;obtain ⟨ds,k1,k2⟩:=ih.2 0 fs.toList l hl fuel cs xs (by rw[hlen,hc];omega) hxs
      exact ⟨.l ds,k1,by simp only[Sh.av];simpa using k2⟩
     ·cases hx
    ·cases hS
   ·cases hS
  ·rename_i m e0 e
   rw[e]at hx;split at hS
   ·rename_i s hs
    split at hS
    ·rename_i hc
     obtain ⟨hc1,hc2⟩:=hc;simp only[Option.some.injEq]at hS;subst hS;simp only at hx;split at hx
     ·rename_i hlen
      obtain ⟨xs,hxs,_⟩:=Option.map_eq_some_iff.1 hx;obtain ⟨h3,h4⟩:=zm0 hxs;have hel:∀ i,i<m->∃ d,s.ok d/\relCs (c0 inv w) (s.av d) ((cs.drop (i*s.size)).take s.size):=by
       intro i hi;obtain ⟨y,_,hy⟩:=h4 i i (by simp[hi])
       rw[hc1]at hy;exact ih.1 e0 s hs fuel _ y hy
      have hds:∃ ds:List D,ds.length=m/\∀ i,i<m->∃ d,ds[i]?=some d/\s.ok d/\relCs (c0 inv w) (s.av d) ((cs.drop (i*s.size)).take s.size):=by
       clear hc2 hx hxs h3 h4 hlen hc1 e
       induction m with
       |zero=>exact ⟨[],rfl,fun i hi=>absurd hi (Nat.not_lt_zero i)⟩
       |succ n ihm =>
        obtain ⟨ds,hl,hd⟩:=ihm fun i hi=>hel i (by omega)
        obtain ⟨d,k2,k3⟩:=hel n (by omega)
        refine ⟨ds++[d],by simp[hl],fun i hi=>?_⟩
        by_cases hin:i<n
        ·obtain ⟨d',q0,q⟩:=hd i hin
         exact ⟨d',by rw[List.getElem?_append_left (by omega)];exact q0,q⟩
        ·have:i=n:=by omega
         subst this;exact ⟨d,by rw[List.getElem?_append_right (by omega)];simp[hl],k2,k3⟩
      obtain ⟨ds,r1,r2⟩:=hds;refine ⟨.l ds,⟨r1,fun d hm=>?_⟩, ?_⟩
      ·obtain ⟨i,hi,e⟩:=List.mem_iff_getElem.1 hm
       obtain ⟨d',q0,q1,_⟩:=r2 i (by omega)
       rw[List.getElem?_eq_getElem hi,e]at q0;simp only[Option.some.injEq]at q0;subst q0;exact q1
      ·have hf:=zju (c:=c0 inv w) (S:=s) (ds:=ds) (css:=(List.range m).map fun i=>(cs.drop (i*s.size)).take s.size) (by simp[r1]) fun i d cs' h1 h2=>by
        have hi:i<m:=by have:=(List.getElem?_eq_some_iff.1 h1).1;omega
        obtain ⟨d',q0,_,q2⟩:=r2 i hi;rw[h1]at q0;simp only[Option.some.injEq]at q0;subst q0;simp[hi]at h2;subst h2;exact q2
       rw[chop s.size m cs (by rw[hlen,hc2])]at hf
       exact hf
     ·cases hx
    ·cases hS
   ·cases hS
  ·cases hS
 ·cases fs with
  |nil =>
   simp only[shFs,Option.some.injEq]at hl;subst hl;exact ⟨[],trivial,by rw[List.drop_eq_nil_of_le (by simp[zda]at hlen;omega)];exact zbs⟩
  |cons f fs =>
   simp only[shFs]at hl;split at hl
   ·rename_i s l' hs hl'
    split at hl
    ·rename_i hc
     obtain ⟨hc1,hc2⟩:=hc;simp only[Option.some.injEq]at hl;subst hl;simp only[List.mapM_cons,Option.pure_def,Option.bind_eq_bind,Option.bind_eq_some_iff,Option.some.injEq]at hx;obtain ⟨y,h1,ys,h2,_⟩:=hx;simp only[zda]at hlen;obtain ⟨d,k1,k2⟩:=ih.1 f.type s hs fuel _ y h1;obtain ⟨ds,k3,k4⟩:=ih.2 (off+P.cellsOf f.type) fs l' hl' fuel cs ys (by rw[hc2];omega) h2
     refine ⟨d::ds,⟨k1,k3⟩, ?_⟩;have:=za6 k2 k4;simp only[zdt];rw[hc1,<-List.drop_drop,List.take_append_drop]at this;exact this
    ·cases hl
   ·cases hl
end
open Go.RowKit Go.ChangeShapes Go.WideShapes
def Sh.arg:Sh->D->AV
 |.i k,.n n=>.i k n
 |.b,.t t=>.b t
 |.s sz e,.l l=>.sl sz (l.map (Sh.av e))
 |.st fs,.l l=>.agg (zdt fs l)
 |.ar _ e,.l l=>.agg (l.map (Sh.av e)).flatten
 |_,_=>.top
def znu:List Sh->List D->List AV
 |x::xs,d::ds=>Sh.arg x d::znu xs ds
 |_,_=>[]
section
variable {H:Type} {enc:TypeId×Value->H} {P:Program} {w W W':World} {inv:Nat->Option Nat}
theorem zgT {c:Ctx} {x:AV} {y:Value} (h:relCs c [x] [y]):rel c x y:=by
 simp only[relCs]at h;obtain ⟨u,us,e,_,h,e'⟩:=h;simp only[List.cons.injEq]at e;rw[e.1];exact h
theorem open_arg {n:Nat} {t:TypeId} {S:Sh} (hS:zqe P n t=some S) {r:Reach} {b0 base:Nat} {sp:Nat->Bool} {held:Bool} {v:Value} {d:DataW H} {ps:List MemPlace} (hval:Value.okWide P w r b0 t v) (hd:DataW.Trod enc P w base sp held t v d ps) :
  ∃ d',S.ok d'/\rel (c0 inv w) (S.arg d') v:=by
 obtain ⟨fuel,hf⟩:=hd;obtain ⟨d',h1,h2⟩:=(zo9 (inv:=inv) n).1 t S hS fuel _ _ hf;refine ⟨d',h1, ?_⟩;cases n with
 |zero=>simp[zqe]at hS
 |succ n =>
 unfold zqe at hS;split at hS
 ·rename_i k e
  simp only[Option.some.injEq]at hS;subst hS;obtain ⟨q,rfl⟩:=okWide_int e hval;cases d'<;>simp only[Sh.ok]at h1
  exact zgT h2
 ·rename_i e
  simp only[Option.some.injEq]at hS;subst hS;obtain ⟨q,rfl⟩:=okWide_bool e hval;cases d'<;>simp only[Sh.ok]at h1
  exact zgT h2
 ·rename_i e0 e
  split at hS
  ·split at hS
   ·simp only[Option.some.injEq]at hS
    subst hS;obtain ⟨a,len,cap,rfl⟩:=okWide_slice e hval;cases d'<;>simp only[Sh.ok]at h1
    exact zgT h2
   ·cases hS
  ·cases hS
 ·rename_i fs e
  split at hS
  ·split at hS
   ·simp only[Option.some.injEq]at hS
    subst hS;obtain ⟨cs,rfl,_⟩:=okWide_struct e hval;cases d'<;>simp only[Sh.ok]at h1
    simp only[Sh.arg,rel];exact ⟨cs,rfl,h2⟩
   ·cases hS
  ·cases hS
 ·rename_i m e0 e
  split at hS
  ·split at hS
   ·simp only[Option.some.injEq]at hS
    subst hS;have hv:=hval;unfold Value.okWide at hv;rw[e]at hv;obtain ⟨cs,rfl,_⟩:=hv;cases d'<;>simp only[Sh.ok]at h1
    simp only[Sh.arg,rel];exact ⟨cs,rfl,h2⟩
   ·cases hS
  ·cases hS
 ·cases hS
theorem zlC {n:Nat} {r:Reach} {b0 base:Nat} {sp:Nat->Bool} {held:Bool}:∀ {ts:List TypeId} {Ss:List Sh} {vs:List Value} {ds:List (DataW H)} {ps:List MemPlace},ts.map (zqe P n)=Ss.map some ->
  (∀ (j:Nat) t v,ts[j]?=some t->vs[j]?=some v->Value.okWide P w r b0 t v)->DataW.TrodAll enc P w base sp held ts vs ds ps->∃ ds',zd9 Ss ds'/\zcp (c0 inv w) (znu Ss ds') vs/\ds.length=Ss.length
 |[],[],vs,ds,ps,_,_,h=>by
  cases vs<;>cases ds<;>simp only[DataW.TrodAll]at h
  exact ⟨[],trivial,znX,rfl⟩
 |t::ts,S::Ss,vs,ds,ps,hS,hval,h=>by
  cases vs with
  |nil=>simp only[DataW.TrodAll]at h
  |cons v vs =>
  cases ds with
  |nil=>simp only[DataW.TrodAll]at h
  |cons d ds =>
  simp only[DataW.TrodAll]at h;obtain ⟨p,q,h1,h2,_⟩:=h;simp only[List.map_cons,List.cons.injEq]at hS;obtain ⟨d',k1,k2⟩:=open_arg (inv:=inv) hS.1 (hval 0 t v rfl rfl) h1;obtain ⟨ds',k3,k4,k5⟩:=zlC hS.2 (fun j t v h1 h2=>hval (j+1) t v h1 h2) h2
  exact ⟨d'::ds',⟨k1,k3⟩,zge k2 k4,by simp[k5]⟩
 |[],_::_,_,_,_,h,_,_=>by simp at h
 |_::_,[],_,_,_,h,_,_=>by simp at h
theorem zjR (hl:laidOutB P=true) (hb:Below W.heap.size W W'):∀ {ts:List TypeId} {vs:List Value} {ds:List (DataW H)} {ps:List MemPlace},(∀ t∈ts,P.readableRec t=true/\t<P.types.size) ->
  DataW.TrodAll enc P W 0 (fun _=>true) true ts vs ds ps->(∀ x∈ps,x.block<W.heap.size)->DataW.TrodAll enc P W' 0 (fun b=>decide (b<W.heap.size)) true ts vs ds ps
 |[],vs,ds,ps,_,h,_=>by cases vs<;>cases ds<;>simp only[DataW.TrodAll]at h |-;exact h
 |t::ts,vs,ds,ps,ht,h,hlt=>by
  cases vs with
  |nil=>simp only[DataW.TrodAll]at h
  |cons v vs =>
  cases ds with
  |nil=>simp only[DataW.TrodAll]at h
  |cons d ds =>
  simp only[DataW.TrodAll]at h |-
  obtain ⟨p,q,h1,h2,rfl⟩:=h;exact ⟨p,q,Below.trod hl (ht t (by simp)).1 (ht t (by simp)).2 h1 hb (fun x hx=>hlt x (by simp[hx])),zjR hl hb (fun t h=>ht t (by simp[h])) h2 (fun x hx=>hlt x (by simp[hx])),rfl⟩
theorem law_of_pc {fn:Func} {s:ChangeSpec} {apart zaw:Bool} {g j n:Nat} {tb:TypeId} {Ss:List Sh} (hg:inv g=some j) (hl:laidOutB P=true) (hts:fn.params.toList.map (zqe P n)=Ss.map some)
  (hread:fn.params.toList.all (fun t=>P.readableRec t&&decide (t<P.types.size))=true) (hres:fn.resultTypes=#[tb]) (hb:P.underlying tb=some .bool) (hvars:s.vars=[])
  (hs:∀ l:List (DataW H),l.length=Ss.length->s.fn H l={ results:=[.lit (.bool true)],args:=l })
  (pc:∀ ds,zd9 Ss ds->PC P inv j (znu Ss ds) (fun r=>r=.b true)) :
  ∀ (W:World) (base:Nat) (args:Array Value) (ds gs:List (DataW H)) (before:List MemPlace),
   (∀ (j:Nat) t v,fn.params[j]?=some t->args[j]?=some v->Value.okWide P W .any base t v)->DataW.Whole enc P fn.params.toList s.vars apart W args.toList ds gs before ->
   Calls P g args W fun e W'=>∃ v,e=.returned v/\s.post enc P fn apart zaw false false W args v W':=by
 intro W base args ds gs before hval hW;have hW':=hW;obtain ⟨p,q,hA,hV,rfl,hfz,hnd⟩:=hW;rw[hvars]at hV;obtain ⟨rfl,rfl⟩:=trodVars_none hV;obtain ⟨ds',k1,k2,k3⟩:=zlC (inv:=inv) hts (fun j t v h1 h2=>hval j t v (by simpa using h1) (by simpa using h2)) hA
 refine (pc ds' k1 g hg (fun _=>False) W args (fun _ h=>h.elim) k2).mono ?_
 rintro e W' ⟨v,r,rfl,rfl,hbel,_,hrel⟩;simp only[rel]at hrel;subst hrel;have hfn:=hs (ds++[]) (by simpa using k3)
 refine ⟨_,rfl,ds,[],p++[],[],p,[],hW', ?_, ?_, ?_,hbel.frame _,fun h=>by cases h⟩
 ·rw[hfn,hres]
  exact trodAll_mk1 (shut_bool hb true)
 ·rw[hfn]
  have:=zjR hl hbel (fun t ht=>by
   have:=List.all_eq_true.1 hread t ht;simp only[Bool.and_eq_true,decide_eq_true_eq]at this;exact this) hA (fun x hx=>hW'.lt x (by simp[hx]))
  simpa using this
 ·rw[hfn,hvars]
  simp[DataW.TrodVars]
end
def qt (a:Nat):Opd:=.t a
def qm (d a:Nat):List GOp:=[(none,.set d (.mov (.t a)))]
def ql (d a:Nat):List GOp:=[(none,.set d (.load none (.t a)))]
def qf (d a o:Nat):List GOp:=[(none,.set d (.fadr (.t a) o))]
def qi (d x i z:Nat):List GOp:=[(none,.set d (.iadr (.t x) (.t i) z none))]
def qb (d:Nat) (o:BinOp) (x y:Nat):List GOp:=[(none,.set d (.bin o .num (.t x) (.t y)))]
def qc (d:Nat) (o:BinOp) (x:Nat) (c:Int):List GOp:=[(none,.set d (.bin o .num (.t x) (.c (.i .i64 c))))]
def qp (d a b:Nat) (t:Bool):List GOp:=[(none,.set d (.pick (.t a) (.t b) (.c (.b t))))]
def qv (d a b:Nat) (t:Bool):List GOp:=[(none,.set d (.pick (.t a) (.c (.b t)) (.t b)))]
def qk (d:Nat) (v:AV):List GOp:=[(none,.set d (.mov (.c v)))]
def qL (d n a:Nat):List GOp:=[(none,.set d (.load (some n) (.t a)))]
def qz (d a:Nat):List GOp:=[(none,.set d (.len (.t a)))]
def qx (d a i:Nat):List GOp:=[(none,.set d (.ext (.t a) i))]
def qy (d a:Nat):List GOp:=[(none,.set d (.nilck (.t a)))]
def qn (d a:Nat):List GOp:=[(none,.set d (.not (.t a)))]
def qs (n a x:Nat):List GOp:=[(none,.store n (.t a) (.t x))]
def qo (d n a:Nat):List GOp:=[(none,.box d n (.t a))]
def qg (d j:Nat) (l:List Nat):List GOp:=[(none,.call (some d) j (l.map Opd.t))]
def qw (d:Nat) (z:List (Nat×AV)):List GOp:=[(none,.alloc d z)]
def qK (d:Nat) (c:Int):List GOp:=[(none,.set d (.mov (.c (.i .i64 c))))]
def qu (d:Nat) (e:AVal):List GOp:=[(none,.set d e)]
def qN (o:AOp):List GOp:=[(none,o)]
def qe (d a o:Nat):List GOp:=[(none,.set d (.fadr (.t a) o)),(none,.set (d+1) (.load none (.t d)))]
def qh (d a:Nat) (o:BinOp) (c:Int):List GOp:=[(none,.set d (.mov (.t a))),(none,.set (d+1) (.bin o .num (.t d) (.c (.i .i64 c))))]
def qj (d a:Nat):List GOp:=[(none,.set d (.mov (.t a))),(none,.set (d+1) (.bin .add .num (.t d) (.c (.i .i64 1)))),(none,.set a (.mov (.t (d+1))))]
def qT (s:Nat) (l:List (List GOp)):List GOp:=l.flatten.map fun x=>(some (s,true),x.2)
def qF (s:Nat) (l:List (List GOp)):List GOp:=l.flatten.map fun x=>(some (s,false),x.2)
def qI:Nat×AV:=(1,.i .i64 0)
def qU (n:Nat):Nat×AV:=(1,.s0 n)
def qR (l:List (List GOp)) (x:ACode):ACode:=.seq (.reg l.flatten) x
def qD (n:Nat) (l:List (List GOp)) (x:ACode):ACode:=.seq (.regd n l.flatten) x
def qW (a n:Nat) (x:ACode):ACode:=.seq (.cond (.t a) .skip (.exit n)) x
def qH (a:Nat) (u v:ACode):ACode:=.cond (.t a) u v
def qC (l:List (List GOp)) (a:Nat) (u x:ACode):ACode:=.seq (.seq (.reg l.flatten) (.cond (.t a) u .skip)) x
def qX (l:List (List GOp)):ACode:=.reg l.flatten
def qY (n:Nat) (l:List (List GOp)):ACode:=.regd n l.flatten
def cd8:AFn:=⟨19,[.tmp 2],qR [qo 1 3 0,qk 2 (.b false)] (qR [qe 3 1 0,qz 5 4,qc 6 .gtr 5 200,qm 7 6,qF 7 [qe 8 1 1,qz 10 9,qc 11 .gtr 10 200],qv 12 7 11 true,qm 13 12,qF 13 [qe 14 1 2,qz 16 15,qc 17 .gtr 16 200],qv 18 13 17 true,qm 2 18] .ret)⟩
def cd15:AFn:=⟨10,[.cell 2 (some 3)],qR [qo 1 3 0,qw 2 [qI,qI,qU 2]] (qR [qk 3 (.s0 2)] (qR [qm 4 3,qe 5 1 2,qN (.app 7 (qt 4) (qt 6) 2),qf 8 1 2,qs 1 8 7] (qR [qL 9 3 1,qs 3 2 9] .ret)))⟩
def cd16:AFn:=⟨41,[.tmp 6,.tmp 7],qR [qo 3 3 0,qK 6 0,qK 7 0] (qC [qL 8 3 3,qg 9 41 [8],qn 10 9] 10 (qR [qK 6 0,qK 7 8] .ret) (qC [qh 11 1 .lss 0,qm 13 12,qF 13 [qh 14 1 .gtr 2],qv 16 13 15 true,qm 17 16,qF 17 [qh 18 2 .lss 0],qv 20 17 19 true,qm 21 20,qF 21 [qh 22 2 .gtr 2],qv 24 21 23 true,qm 25 24,qF 25 [qL 26 3 3,qg 27 42 [26],qm 28 1,qu 29 (.idx (qt 27) (qt 28) 3 3 true),qm 30 2,qu 31 (.idx (qt 29) (qt 30) 3 1 false),qc 32 .eql 31 0],qv 33 25 32 true] 33 (qR [qK 6 0,qK 7 2] .ret) (qR [qL 34 3 3,qg 35 42 [34],qm 36 1,qu 37 (.idx (qt 35) (qt 36) 3 3 true),qm 38 2,qu 39 (.idx (qt 37) (qt 38) 3 1 false),qc 40 .rem 39 3,qm 6 40,qK 7 0] .ret)))⟩
def cd18:AFn:=⟨49,[.tmp 6,.tmp 7],qR [qo 3 3 0,qK 6 0,qK 7 0] (.seq (.block 0 (qR [qL 10 3 3,qg 11 41 [10],qn 12 11,qm 9 12] (qH 9 (qR [qK 6 0,qK 7 8] .ret) (qR [qh 14 1 .lss 0,qm 16 15,qF 16 [qh 17 1 .gtr 2],qv 19 16 18 true,qm 20 19,qF 20 [qh 21 2 .lss 0],qv 23 20 22 true,qm 24 23,qF 24 [qh 25 2 .gtr 2],qv 27 24 26 true,qm 13 27] (qH 13 (qR [qK 6 0,qK 7 2] .ret) .skip))))) (qC [qe 28 3 1,qc 30 .eql 29 0,qm 31 30,qT 31 [qh 32 2 .eql 0],qp 34 31 33 false] 34 (qX [qK 2 3]) (qR [qL 35 3 3,qg 36 42 [35],qm 37 1,qu 38 (.idx (qt 36) (qt 37) 3 3 true),qw 8 [(3,.i .i64 0)],qs 3 8 38] (qR [qu 39 (.slca (qt 8) none none none 3 1),qm 40 2,qg 41 45 [39,40],qm 6 41] (qC [qh 42 2 .eql 0,qm 44 43,qF 44 [qh 45 6 .lss 0],qv 47 44 46 true] 47 (qR [qK 6 0,qK 7 2] .ret) (qR [qm 48 6,qm 6 48,qK 7 0] .ret))))))⟩
def cd19:AFn:=⟨28,[.tmp 6,.tmp 7],qR [qo 3 3 0,qK 6 0,qK 7 0] (qC [qL 9 3 3,qg 10 43 [9],qn 11 10] 11 (qR [qK 6 0,qK 7 8] .ret) (qC [qh 12 2 .lss 0] 13 (qR [qK 6 0,qK 7 2] .ret) (.seq (qR [qK 8 0] (.block 0 (.loop (.seq (qR [qm 14 8,qe 15 3 2,qz 17 16,qb 18 .lss 14 17] (qH 18 .skip (.exit 0))) (.seq (.block 1 (qR [qL 21 3 3,qm 22 1,qm 23 8,qg 24 44 [21,22,23],qm 25 2,qb 26 .eql 24 25] (qH 26 (qR [qm 27 8,qm 6 27,qK 7 0] .ret) .skip))) (qX [qj 19 8])))))) (qR [qK 6 0,qK 7 2] .ret))))⟩
def cd21:AFn:=⟨24,[.tmp 2],qR [qk 2 (.b false)] (.seq (qR [qK 3 0] (.block 0 (.loop (.seq (qR [qm 4 3,qm 5 0,qz 6 5,qb 7 .lss 4 6,qm 8 7,qT 8 [qh 9 3 .lss 40],qp 11 8 10 false] (qH 11 .skip (.exit 0))) (.seq (.block 1 (qR [qm 14 0,qm 15 3,qi 16 14 15 3,qe 17 16 2,qz 19 18,qc 20 .gtr 19 20] (qH 20 (qR [qk 2 (.b true)] .ret) .skip))) (qX [qj 12 3])))))) (qR [qm 21 0,qz 22 21,qc 23 .gtr 22 40,qm 2 23] .ret))⟩
def cd22:AFn:=⟨34,[.cell 4 (some 3),.tmp 5],qR [qw 4 [qI,qI,qU 2],qK 5 0] (.seq (qR [qm 10 0,qg 11 26 [10],qm 6 11] (qR [qh 12 6 .neq 0] (qH 13 (qR [qu 14 (.build [qI,qI,qU 2] []),qm 15 6,qs 3 4 14,qm 5 15] .ret) .skip))) (qR [qm 17 0,qm 18 1,qg 19 46 [17,18],qm 16 19,qx 20 16 0,qx 21 16 1,qm 7 20,qm 8 21] (qC [qm 22 8,qn 23 22] 23 (qR [qu 24 (.build [qI,qI,qU 2] []),qs 3 4 24,qK 5 6] .ret) (qR [qm 25 0,qm 26 7,qi 27 25 26 3,qL 28 3 27,qw 9 [qI,qI,qU 2],qs 3 9 28] (qR [qe 29 9 2,qg 31 47 [30],qf 32 9 2,qs 1 32 31] (qR [qL 33 3 9,qs 3 4 33,qK 5 0] .ret))))))⟩
def cd23:AFn:=⟨22,[.cell 4 (some 3),.tmp 5],qR [qw 4 [qI,qI,qU 2],qK 5 0] (qC [qm 7 0,qg 8 48 [7],qn 9 8] 9 (qR [qu 10 (.build [qI,qI,qU 2] []),qs 3 4 10,qK 5 8] .ret) (qR [qm 11 0,qm 12 1,qg 13 49 [11,12],qm 6 13] (qC [qh 14 6 .lss 0] 15 (qR [qu 16 (.build [qI,qI,qU 2] []),qs 3 4 16,qK 5 6] .ret) (qR [qm 17 0,qm 18 6,qi 19 17 18 3,qL 20 3 19,qg 21 15 [20],qs 3 4 21,qK 5 0] .ret))))⟩
def cd24:AFn:=⟨37,[.cell 6 (some 2),.tmp 7],qR [qw 6 [qI,qI],qK 7 0] (qR [qm 11 0,qm 12 1,qg 13 22 [11,12],qm 10 13,qx 14 10 0,qx 15 10 1,qw 8 [qI,qI,qU 2],qs 3 8 14,qm 9 15] (.seq (.block 0 (qR [qh 17 9 .neq 0,qm 16 18] (qH 16 (qR [qu 19 (.build [qI,qI] []),qm 20 9,qs 2 6 19,qm 7 20] .ret) (qR [qh 22 2 .lss 0,qm 24 23,qF 24 [qm 25 2,qe 26 8 2,qz 28 27,qb 29 .geq 25 28],qv 30 24 29 true,qm 21 30] (qH 21 (qR [qu 31 (.build [qI,qI] []),qs 2 6 31,qK 7 2] .ret) .skip))))) (qR [qe 32 8 2,qm 34 2,qi 35 33 34 2,qL 36 2 35,qs 2 6 36,qK 7 0] .ret)))⟩
def cd26:AFn:=⟨126,[.tmp 2],qR [qK 2 0] (qC [qm 13 0,qz 14 13,qc 15 .gtr 14 16] 15 (qR [qK 2 8] .ret) (qR [qw 3 [(100,.b false)]] (.seq (qR [qm 16 0,qz 17 16,qK 18 0] (.block 0 (.loop (qR [qb 19 .lss 18 17] (qW 19 0 (.seq (.block 1 (qR [qm 20 18,qi 21 16 18 3,qL 22 3 21,qw 5 [qI,qI,qU 2],qm 4 20,qs 3 5 22] (.seq (qD 0 [qe 23 5 0,qN (.calle (some 25) 50 [qt 24]),qn 26 25,qm 27 26,qF 27 [qL 28 3 5,qN (.calle (some 29) 41 [qt 28]),qn 30 29],qv 31 27 30 true,qm 32 31,qF 32 [qh 33 4 .gtr 0,qm 35 34],qT 35 [qm 36 0,qh 37 4 .sub 1,qi 39 36 38 3,qe 40 39 0,qe 42 5 0,qb 44 .geq 41 43],qF 32 [qp 45 35 44 false],qv 46 32 45 true,qm 47 46,qF 47 [qe 48 5 1,qu 50 (.iadr (qt 3) (qt 49) 1 (some 100)),ql 51 50],qv 52 47 51 true] (qH 52 (qR [qK 2 8] .ret) .skip)) (qX [qe 53 5 1,qe 55 5 1,qc 57 .gtr 56 0,qu 58 (.iadr (qt 3) (qt 54) 1 (some 100)),qs 1 58 57])))) (qX [qc 59 .add 18 1,qm 18 59]))))))) (.seq (qR [qm 60 0,qz 61 60,qK 62 0] (.block 2 (.loop (qR [qb 63 .lss 62 61] (qW 63 2 (.seq (.block 3 (qR [qi 64 60 62 3,qL 65 3 64,qw 7 [qI,qI,qU 2],qs 3 7 65] (qR [qe 66 7 2,qz 68 67,qK 69 0] (.block 4 (.loop (qR [qb 70 .lss 69 68] (qW 70 4 (.seq (.block 5 (qR [qm 71 69,qi 72 67 69 2,qL 73 2 72,qw 9 [qI,qI],qm 8 71,qs 2 9 73] (qC [qL 74 2 9,qu 75 (.build [qI,qI] []),qu 76 (.bin .eql (.flat [true,true]) (qt 74) (qt 75))] 76 (.exit 5) (qR [qe 77 7 0,qm 79 8,qu 80 (.build [qI,qI] [(0,(1,qt 78)),(1,(1,qt 79))]),qw 10 [qI,qI],qs 2 10 80] (qR [qm 82 0,qe 83 9 0,qg 85 46 [82,84],qm 81 85,qx 86 81 0,qx 87 81 1,qm 11 86,qm 12 87] (qD 0 [qm 88 12,qn 89 88,qm 90 89,qF 90 [qL 91 2 9,qL 92 2 10,qu 93 (.bin .eql (.flat [true,true]) (qt 91) (qt 92))],qv 94 90 93 true,qm 95 94,qF 95 [qe 96 9 1,qc 98 .lss 97 0],qv 99 95 98 true,qm 100 99,qF 100 [qe 101 9 1,qm 103 0,qm 104 11,qi 105 103 104 3,qe 106 105 2,qz 108 107,qb 109 .geq 102 108],qv 110 100 109 true,qm 111 110,qF 111 [qm 112 0,qm 113 11,qi 114 112 113 3,qe 115 114 2,qe 117 9 1,qi 119 116 118 2,qL 120 2 119,qL 121 2 10,qu 122 (.bin .neq (.flat [true,true]) (qt 120) (qt 121))],qv 123 111 122 true] (qH 123 (qR [qK 2 8] .ret) .skip))))))) (qX [qc 124 .add 69 1,qm 69 124]))))))))) (qX [qc 125 .add 62 1,qm 62 125]))))))) (qR [qK 2 0] .ret)))))⟩
def cd27:AFn:=⟨6,[.tmp 2],qR [qK 2 0] (qC [qm 3 0,qg 4 48 [3],qn 5 4] 5 (qR [qK 2 8] .ret) (qR [qK 2 0] .ret))⟩
def cd41:AFn:=⟨23,[.tmp 2],qR [qo 1 3 0,qk 2 (.b false)] (qR [qe 3 1 1,qc 5 .eql 4 0,qm 6 5,qT 6 [qe 7 1 2,qz 9 8,qc 10 .eql 9 2],qp 11 6 10 false,qm 12 11,qF 12 [qe 13 1 1,qg 15 50 [14],qm 16 15],qT 16 [qe 17 1 2,qz 19 18,qc 20 .eql 19 3],qF 12 [qp 21 16 20 false],qv 22 12 21 true,qm 2 22] .ret)⟩
def cd42:AFn:=⟨13,[.cell 2 (some 9)],qR [qo 1 3 0,qw 2 [(3,.i .i64 0),(3,.i .i64 0),(3,.i .i64 0)]] (qC [qe 3 1 1,qc 5 .eql 4 0] 5 (qR [qu 6 (.build [(3,.i .i64 0)] [(0,(1,.c (.i .i64 0))),(1,(1,.c (.i .i64 3)))]),qu 7 (.build [(3,.i .i64 0)] [(0,(1,.c (.i .i64 3)))]),qu 8 (.build [(3,.i .i64 0),(3,.i .i64 0),(3,.i .i64 0)] [(0,(3,qt 6)),(3,(3,qt 7))]),qs 9 2 8] .ret) (qR [qu 9 (.build [(3,.i .i64 0)] [(0,(1,.c (.i .i64 0))),(1,(1,.c (.i .i64 1))),(2,(1,.c (.i .i64 2)))]),qu 10 (.build [(3,.i .i64 0)] [(0,(1,.c (.i .i64 1)))]),qu 11 (.build [(3,.i .i64 0)] [(0,(1,.c (.i .i64 2)))]),qu 12 (.build [(3,.i .i64 0),(3,.i .i64 0),(3,.i .i64 0)] [(0,(3,qt 9)),(3,(3,qt 10)),(6,(3,qt 11))]),qs 9 2 12] .ret))⟩
def cd43:AFn:=⟨24,[.tmp 2],qR [qo 1 3 0,qk 2 (.b false)] (qC [qe 3 1 1,qc 5 .eql 4 0] 5 (qR [qe 6 1 2,qz 8 7,qc 9 .eql 8 2,qm 2 9] .ret) (qR [qe 10 1 1,qc 12 .geq 11 1,qm 13 12,qT 13 [qe 14 1 1,qc 16 .leq 15 99],qp 17 13 16 false,qm 18 17,qT 18 [qe 19 1 2,qz 21 20,qc 22 .eql 21 3],qp 23 18 22 false,qm 2 23] .ret))⟩
def cd44:AFn:=⟨46,[.tmp 6],qR [qo 3 3 0,qK 6 0] (qC [qe 7 3 1,qc 9 .eql 8 0] 9 (qC [qh 10 1 .eql 0,qm 12 11,qT 12 [qh 13 2 .eql 1],qp 15 12 14 false,qm 16 15,qF 16 [qh 17 1 .eql 1,qm 19 18],qT 19 [qh 20 2 .eql 0],qF 16 [qp 22 19 21 false],qv 23 16 22 true] 23 (qR [qK 6 0] .ret) (qR [qk 6 (.i .i64 (-1))] .ret)) (qC [qh 24 1 .eql 0,qm 26 25,qT 26 [qh 27 2 .eql 1,qm 29 28],qF 29 [qh 30 2 .eql 2],qT 26 [qv 32 29 31 true],qp 33 26 32 false] 33 (qR [qm 34 2,qm 6 34] .ret) (qC [qh 35 2 .eql 0,qm 37 36,qT 37 [qh 38 1 .eql 1,qm 40 39],qF 40 [qh 41 1 .eql 2],qT 37 [qv 43 40 42 true],qp 44 37 43 false] 44 (qR [qm 45 1,qm 6 45] .ret) (qR [qk 6 (.i .i64 (-1))] .ret))))⟩
def cd45:AFn:=⟨19,[.tmp 4],qR [qK 4 0] (.seq (qR [qm 6 0,qz 7 6,qK 8 0] (.block 0 (.loop (qR [qb 9 .lss 8 7] (qW 9 0 (.seq (.block 1 (qR [qm 10 8,qm 5 10] (qR [qm 11 1,qm 12 0,qm 13 5,qi 14 12 13 1,ql 15 14,qb 16 .eql 11 15] (qH 16 (qR [qm 17 5,qm 4 17] .ret) .skip)))) (qX [qc 18 .add 8 1,qm 8 18]))))))) (qR [qk 4 (.i .i64 (-1))] .ret))⟩
def cd46:AFn:=⟨11,[.tmp 4,.tmp 5],qR [qK 4 0,qk 5 (.b false)] (qR [qm 6 0,qm 7 1,qN (.call (some 8) 51 [qt 6,qt 7,.c (.fn 52 [])]),qx 9 8 0,qx 10 8 1,qm 4 9,qm 5 10] .ret)⟩
def cd47:AFn:=⟨8,[.tmp 2],qR [qk 2 (.s0 2)] (qC [qm 3 0,qN (.isnil 4 false (qt 3))] 4 (qR [qk 2 (.s0 2)] .ret) (qR [qN (.mks0 5 2),qm 6 0,qN (.app 7 (qt 5) (qt 6) 2),qm 2 7] .ret))⟩
def cd48:AFn:=⟨86,[.tmp 2],qR [qk 2 (.b false)] (qC [qm 8 0,qz 9 8,qc 10 .gtr 9 16] 10 (qR [qk 2 (.b false)] .ret) (.seq (qR [qK 3 0] (.block 0 (.loop (.seq (qR [qm 11 3,qm 12 0,qz 13 12,qb 14 .lss 11 13] (qH 14 .skip (.exit 0))) (.seq (.block 1 (qR [qm 17 0,qm 18 3,qi 19 17 18 3,qL 20 3 19,qw 4 [qI,qI,qU 2],qs 3 4 20] (qC [qe 21 4 0,qc 23 .lss 22 1,qm 24 23,qF 24 [qe 25 4 0,qc 27 .gtr 26 99],qv 28 24 27 true,qm 29 28,qF 29 [qL 30 3 4,qg 31 43 [30],qn 32 31],qv 33 29 32 true] 33 (qR [qk 2 (.b false)] .ret) (qR [qK 5 0] (.block 2 (.loop (.seq (qR [qm 34 5,qm 35 3,qb 36 .lss 34 35] (qH 36 .skip (.exit 2))) (.seq (.block 3 (qD 0 [qm 39 0,qm 40 5,qi 41 39 40 3,qe 42 41 0,qe 44 4 0,qb 46 .geq 43 45,qm 47 46,qF 47 [qe 48 4 1,qc 50 .neq 49 0,qm 51 50],qT 51 [qm 52 0,qm 53 5,qi 54 52 53 3,qe 55 54 1,qe 57 4 1,qb 59 .eql 56 58],qF 47 [qp 60 51 59 false],qv 61 47 60 true] (qH 61 (qR [qk 2 (.b false)] .ret) .skip))) (qX [qj 37 5]))))))))) (qX [qj 15 3])))))) (.seq (qR [qK 6 0] (.block 4 (.loop (.seq (qR [qm 62 6,qm 63 0,qz 64 63,qb 65 .lss 62 64] (qH 65 .skip (.exit 4))) (.seq (.block 5 (qR [qK 7 0] (.block 6 (.loop (.seq (qR [qm 68 7,qm 69 0,qm 70 6,qi 71 69 70 3,qe 72 71 2,qz 74 73,qb 75 .lss 68 74] (qH 75 .skip (.exit 6))) (.seq (.block 7 (qR [qm 78 0,qm 79 0,qm 80 6,qi 81 79 80 3,qL 82 3 81,qm 83 7,qg 84 54 [78,82,83],qn 85 84] (qH 85 (qR [qk 2 (.b false)] .ret) .skip))) (qX [qj 76 7]))))))) (qX [qj 66 6])))))) (qR [qk 2 (.b true)] .ret))))⟩
def cd49:AFn:=⟨20,[.tmp 4],qR [qK 4 0] (.seq (qR [qK 5 0] (.block 0 (.loop (.seq (qR [qm 6 5,qm 7 0,qz 8 7,qb 9 .lss 6 8] (qH 9 .skip (.exit 0))) (.seq (.block 1 (qR [qm 12 0,qm 13 5,qi 14 12 13 3,qe 15 14 0,qm 17 1,qb 18 .eql 16 17] (qH 18 (qR [qm 19 5,qm 4 19] .ret) .skip))) (qX [qj 10 5])))))) (qR [qk 4 (.i .i64 (-1))] .ret))⟩
def cd50:AFn:=⟨9,[.tmp 2],qR [qk 2 (.b false)] (qR [qh 3 0 .geq 1,qm 5 4,qT 5 [qh 6 0 .leq 99],qp 8 5 7 false,qm 2 8] .ret)⟩
def cd51:AFn:=⟨49,[.tmp 6,.tmp 7],qR [qK 6 0,qk 7 (.b false)] (qR [qm 12 0,qz 13 12,qm 8 13] (qR [qm 14 8,qK 9 0,qm 10 14] (.seq (.block 0 (.loop (.seq (qR [qm 15 9,qm 16 10,qb 17 .lss 15 16] (qH 17 .skip (.exit 0))) (.block 1 (qR [qm 18 9,qm 19 10,qb 20 .add 18 19,qu 21 (.conv .u64 (qt 20)),qu 22 (.bin .shr .num (qt 21) (.c (.i .u64 1))),qu 23 (.conv .i64 (qt 22)),qm 11 23] (qR [qm 24 2,qm 25 0,qm 26 11,qi 27 25 26 3,qL 28 3 27,qm 29 1,qN (.calv (some 30) (qt 24) [qt 28,qt 29]),qc 31 .lss 30 0] (qH 31 (qX [qh 32 11 .add 1,qm 9 33]) (qX [qm 34 11,qm 10 34])))))))) (qR [qm 35 9,qm 36 9,qm 37 8,qb 38 .lss 36 37,qm 39 38,qT 39 [qm 40 2,qm 41 0,qm 42 9,qi 43 41 42 3,qL 44 3 43,qm 45 1,qN (.calv (some 46) (qt 40) [qt 44,qt 45]),qc 47 .eql 46 0],qp 48 39 47 false,qm 6 35,qm 7 48] .ret))))⟩
def cd52:AFn:=⟨9,[.tmp 4],qR [qo 2 3 0,qK 4 0] (qR [qe 5 2 0,qm 7 1,qg 8 53 [6,7],qm 4 8] .ret)⟩
def cd53:AFn:=⟨20,[.tmp 4],qR [qK 4 0] (qR [qm 7 0,qg 8 55 [7],qm 5 8] (qR [qm 9 1,qg 10 55 [9],qm 6 10] (qC [qm 11 5] 11 (qC [qm 12 6] 12 (qR [qK 4 0] .ret) (qR [qk 4 (.i .i64 (-1))] .ret)) (qC [qm 13 6] 13 (qR [qK 4 1] .ret) (qC [qm 14 0,qm 15 1,qb 16 .lss 14 15] 16 (qR [qk 4 (.i .i64 (-1))] .ret) (qC [qm 17 0,qm 18 1,qb 19 .gtr 17 18] 19 (qR [qK 4 1] .ret) (qR [qK 4 0] .ret)))))))⟩
def cd54:AFn:=⟨78,[.tmp 6],qR [qo 4 3 1,qk 6 (.b false)] (qR [qe 10 4 2,qm 12 2,qi 13 11 12 2,qL 14 2 13,qw 7 [qI,qI],qs 2 7 14] (qC [qe 15 7 0,qc 17 .eql 16 0,qm 18 17,qT 18 [qe 19 7 1,qc 21 .eql 20 0],qp 22 18 21 false] 22 (qR [qk 6 (.b true)] .ret) (qR [qm 23 0,qe 24 7 0,qg 26 49 [23,25],qm 8 26] (.seq (qD 0 [qh 27 8 .lss 0,qm 29 28,qF 29 [qe 30 7 1,qc 32 .lss 31 0],qv 33 29 32 true,qm 34 33,qF 34 [qe 35 7 1,qm 37 0,qm 38 8,qi 39 37 38 3,qe 40 39 2,qz 42 41,qb 43 .geq 36 42],qv 44 34 43 true,qm 45 44,qF 45 [qe 46 7 0,qe 48 4 0,qb 50 .eql 47 49,qm 51 50],qT 51 [qe 52 7 1,qm 54 2,qb 55 .eql 53 54],qF 45 [qp 56 51 55 false],qv 57 45 56 true] (qH 57 (qR [qk 6 (.b false)] .ret) .skip)) (qD 0 [qm 58 0,qm 59 8,qi 60 58 59 3,qe 61 60 2,qe 63 7 1,qi 65 62 64 2,qL 66 2 65,qw 9 [qI,qI],qs 2 9 66] (qR [qe 67 9 0,qe 69 4 0,qb 71 .eql 68 70,qm 72 71,qT 72 [qe 73 9 1,qm 75 2,qb 76 .eql 74 75],qp 77 72 76 false,qm 6 77] .ret))))))⟩
def cd55:AFn:=⟨6,[.tmp 2],qR [qk 2 (.b false)] (qR [qm 3 0,qm 4 0,qb 5 .neq 3 4,qm 2 5] .ret)⟩
def cd67:AFn:=⟨28,[.tmp 6,.tmp 7],qR [qo 3 6 0,qo 4 3 1,qo 5 1 2,qK 6 0,qK 7 0] (qR [qL 11 6 3,qL 12 3 4,qg 13 79 [11,12],qm 10 13,qx 14 10 0,qx 15 10 1,qw 8 [(100,.i .i64 0),(100,.i .i64 0),qU 4],qs 201 8 14,qm 9 15] (qC [qh 16 9 .neq 0] 17 (qR [qm 18 9,qK 6 0,qm 7 18] .ret) (qC [qe 19 3 2,qu 21 (.mkfn 81 [qt 5]),qg 22 80 [20,21],qn 23 22] 23 (qR [qK 6 0,qK 7 6] .ret) (qR [ql 24 5,qf 25 8 0,qu 26 (.iadr (qt 25) (qt 24) 1 (some 100)),ql 27 26,qm 6 27,qK 7 0] .ret))))⟩
def cd69:AFn:=⟨14,[.tmp 4],qR [qo 2 6 0,qo 3 3 1,qK 4 0] (qR [qL 8 6 2,qL 9 3 3,qg 10 79 [8,9],qm 7 10,qx 11 7 0,qx 12 7 1,qw 5 [(100,.i .i64 0),(100,.i .i64 0),qU 4],qs 201 5 11,qm 6 12] (qR [qm 13 6,qm 4 13] .ret))⟩
def cd70:AFn:=⟨42,[.tmp 2],qR [qo 1 6 0,qK 2 0] (qR [qL 9 6 1,qg 10 82 [9],qm 8 10,qx 11 8 0,qx 12 8 1,qx 13 8 2,qm 3 11,qm 4 12,qm 5 13] (qC [qh 14 5 .neq 0] 15 (qR [qK 2 100] .ret) (.seq (qR [qe 16 1 5,qz 18 17,qK 19 0] (.block 0 (.loop (qR [qb 20 .lss 19 18] (qW 20 0 (.seq (.block 1 (qR [qm 21 19,qi 22 17 19 7,qL 23 7 22,qw 7 [qI,qI,qI,qU 1,qU 1,qU 2,qI],qm 6 21,qs 7 7 23] (qD 0 [qm 24 3,qm 25 6,qi 26 24 25 4,qe 27 26 2,qN (.calle (some 29) 83 [qt 28]),qn 30 29,qm 31 30,qF 31 [qL 32 6 1,qL 33 7 7,qm 34 4,qm 35 6,qi 36 34 35 1,ql 37 36,qN (.calle (some 38) 84 [qt 32,qt 33,qt 37]),qn 39 38],qv 40 31 39 true] (qH 40 (qR [qK 2 100] .ret) .skip)))) (qX [qc 41 .add 19 1,qm 19 41]))))))) (qR [qK 2 0] .ret))))⟩
def cd76:AFn:=⟨29,[.cell 4 (some 4),.tmp 5],qR [qo 2 6 0,qw 4 [qU 1,qU 1,qU 3,qI],qK 5 0] (qR [qL 11 6 2,qm 12 1,qg 13 89 [11,12],qm 10 13,qx 14 10 0,qx 15 10 1,qw 6 [qI,qI,qI,qU 1,qU 1,qU 2,qI],qs 7 6 14,qm 7 15] (qC [qh 16 7 .neq 0] 17 (qR [qu 18 (.build [qU 1,qU 1,qU 3,qI] []),qm 19 7,qs 4 4 18,qm 5 19] .ret) (qR [qL 21 6 2,qL 22 7 6,qg 23 90 [21,22],qm 20 23,qx 24 20 0,qx 25 20 1,qx 26 20 2,qw 8 [qU 1,qU 1,qU 3,qI],qs 4 8 24,qm 9 25,qm 7 26] (qR [qL 27 4 8,qm 28 7,qs 4 4 27,qm 5 28] .ret))))⟩
def cd79:AFn:=⟨25,[.cell 4 (some 201),.tmp 5],qR [qo 2 6 0,qo 3 3 1,qw 4 [(100,.i .i64 0),(100,.i .i64 0),qU 4],qK 5 0] (.seq (qR [qL 9 6 2,qg 10 70 [9],qm 6 10] (qR [qh 11 6 .neq 0] (qH 12 (qR [qu 13 (.build [(100,.i .i64 0),(100,.i .i64 0),qU 4] []),qm 14 6,qs 201 4 13,qm 5 14] .ret) .skip))) (qR [qL 16 6 2,qL 17 3 3,qg 18 93 [16,17],qm 15 18,qx 19 15 0,qx 20 15 1,qw 7 [(100,.i .i64 0),(100,.i .i64 0),qU 4],qs 201 7 19,qm 8 20] (qC [qm 21 8,qn 22 21] 22 (qR [qu 23 (.build [(100,.i .i64 0),(100,.i .i64 0),qU 4] []),qs 201 4 23,qK 5 8] .ret) (qR [qL 24 201 7,qs 201 4 24,qK 5 0] .ret))))⟩
def cd80:AFn:=⟨9,[.tmp 4],qR [qk 4 (.b false)] (qR [qm 5 0,qm 6 1,qg 7 94 [5,6],qc 8 .geq 7 0,qm 4 8] .ret)⟩
def cd81:AFn:=⟨8,[.tmp 3],qR [qo 2 3 0,qk 3 (.b false)] (qR [qe 4 2 0,ql 6 1,qb 7 .eql 5 6,qm 3 7] .ret)⟩
def cd82:AFn:=⟨40,[.tmp 2,.tmp 3,.tmp 4],qR [qo 1 6 0,qk 2 (.s0 4),qk 3 (.s0 1),qK 4 0] (.seq (qR [qL 10 6 1,qg 11 95 [10],qm 4 11] (qR [qh 12 4 .neq 0] (qH 13 .ret .skip))) (.seq (qR [qe 14 1 5,qz 16 15,qK 17 0] (.block 0 (.loop (qR [qb 18 .lss 17 16] (qW 18 0 (.seq (.block 1 (qR [qi 19 15 17 7,qL 20 7 19,qw 6 [qI,qI,qI,qU 1,qU 1,qU 2,qI],qs 7 6 20] (qR [qL 22 6 1,qL 23 7 6,qg 24 90 [22,23],qm 21 24,qx 25 21 0,qx 26 21 1,qx 27 21 2,qw 7 [qU 1,qU 1,qU 3,qI],qs 4 7 25,qm 8 26,qm 9 27] (qC [qh 28 9 .neq 0] 29 (qR [qm 30 9,qk 2 (.s0 4),qk 3 (.s0 1),qm 4 30] .ret) (qX [qm 31 2,qL 32 4 7,qN (.mksl 33 4 1 [qU 1,qU 1,qU 3,qI] [(0,(4,qt 32))]),qN (.app 34 (qt 31) (qt 33) 4),qm 35 3,qm 36 8,qN (.mksl 37 1 1 [qU 2] [(0,(1,qt 36))]),qN (.app 38 (qt 35) (qt 37) 1),qm 2 34,qm 3 38]))))) (qX [qc 39 .add 17 1,qm 17 39]))))))) .ret))⟩
def cd83:AFn:=⟨20,[.tmp 2],qR [qk 2 (.b false)] (qR [qw 3 [(100,.b false)]] (.seq (qR [qm 6 0,qz 7 6,qK 8 0] (.block 0 (.loop (qR [qb 9 .lss 8 7] (qW 9 0 (.seq (.block 1 (qR [qi 10 6 8 3,qL 11 3 10,qw 5 [qI,qI,qI],qs 3 5 11] (qC [qe 12 5 0,qu 14 (.iadr (qt 3) (qt 13) 1 (some 100)),ql 15 14] 15 (qR [qk 2 (.b false)] .ret) (qX [qe 16 5 0,qu 18 (.iadr (qt 3) (qt 17) 1 (some 100)),qN (.store 1 (qt 18) (.c (.b true)))])))) (qX [qc 19 .add 8 1,qm 8 19]))))))) (qR [qk 2 (.b true)] .ret)))⟩
def cd84:AFn:=⟨58,[.tmp 6],qR [qo 3 6 0,qo 4 7 1,qk 6 (.b false)] (.seq (qR [qm 11 2,qe 12 4 3,qz 14 13,qu 15 (.slc (qt 11) none (some (qt 14)) none 2),qz 16 15,qK 17 0] (.block 0 (.loop (qR [qb 18 .lss 17 16] (qW 18 0 (.seq (.block 1 (qR [qm 19 17,qi 20 15 17 2,qL 21 2 20,qw 8 [qI,qI],qm 7 19,qs 2 8 21] (qR [qe 22 3 4,qz 24 23,qK 25 0] (.block 2 (.loop (qR [qb 26 .lss 25 24] (qW 26 2 (.seq (.block 3 (qR [qi 27 23 25 3,qL 28 3 27,qw 10 [qI,qI,qI],qs 3 10 28] (qR [qe 29 10 1,qe 31 8 0,qb 33 .eql 30 32,qm 34 33,qT 34 [qe 35 10 2,qe 37 8 1,qb 39 .eql 36 38],qp 40 34 39 false,qm 41 40,qT 41 [qm 42 7,qe 43 4 3,qz 45 44,qc 46 .sub 45 1,qb 47 .lss 42 46,qm 48 47],qF 48 [qe 49 10 0,qe 51 4 2,qb 53 .neq 50 52],qT 41 [qv 54 48 53 true],qp 55 41 54 false] (qH 55 (qR [qk 6 (.b false)] .ret) .skip)))) (qX [qc 56 .add 25 1,qm 25 56]))))))))) (qX [qc 57 .add 17 1,qm 17 57]))))))) (qR [qk 6 (.b true)] .ret))⟩
def cd89:AFn:=⟨19,[.cell 4 (some 7),.tmp 5],qR [qo 2 6 0,qw 4 [qI,qI,qI,qU 1,qU 1,qU 2,qI],qK 5 0] (qR [qL 9 6 2,qe 10 2 5,qm 12 1,qg 13 98 [9,11,12],qm 8 13,qx 14 8 0,qx 15 8 1,qw 6 [qI,qI,qI,qU 1,qU 1,qU 2,qI],qs 7 6 14,qm 7 15] (qR [qL 16 7 6,qg 17 99 [16],qm 18 7,qs 7 4 17,qm 5 18] .ret))⟩
def cd90:AFn:=⟨143,[.cell 4 (some 4),.tmp 5,.tmp 6],qR [qo 2 6 0,qo 3 7 1,qw 4 [qU 1,qU 1,qU 3,qI],qk 5 (.s0 2),qK 6 0] (qD 2 [qL 17 6 2,qe 18 3 1,qN (.callp 20 100 [qt 17,qt 19]),qL 21 6 2,qe 22 3 2,qN (.callp 24 100 [qt 21,qt 23]),qN (.gal 7 2 [qI,qI,qI]),qN (.gal 8 1 [qI,qI,qI]),qs 3 7 20,qs 3 8 24] (qR [qL 25 6 2,qu 26 (.build [qI,qI,qU 3,qU 2,qU 3,qU 7,qI,qI,qU 3,qU 2,(1,.b false)] [(0,(6,qt 25))]),qo 27 11 26,qm 9 27] (.seq (qR [qe 28 2 2,qz 30 29,qK 31 0] (.block 0 (.loop (qR [qb 32 .lss 31 30] (qW 32 0 (.seq (.block 1 (qR [qi 33 29 31 3,qL 34 3 33,qw 11 [qI,qI,qU 2],qs 3 11 34] (qR [qe 35 11 0,qe 37 7 1,qb 39 .eql 36 38] (qH 39 (qX [qm 40 9,qe 41 11 2,qe 43 7 2,qi 45 42 44 2,qL 46 2 45,qy 47 40,qf 48 47 6,qs 2 48 46]) .skip)))) (qX [qc 49 .add 31 1,qm 31 49]))))))) (qR [qe 50 3 3,qe 52 3 4,qN (.mksl 54 1 2 [qU 1] [(0,(1,qt 51)),(1,(1,qt 53))]),qg 55 101 [54],qw 12 [qU 1],qs 1 12 55] (.seq (qR [ql 56 12,qz 57 56,qK 58 0] (.block 2 (.loop (qR [qb 59 .lss 58 57] (qW 59 2 (.seq (.block 3 (qR [qm 60 58,qi 61 56 58 1,ql 62 61,qw 13 [qI],qw 14 [qI],qs 1 13 60,qs 1 14 62] (.block 4 (qR [ql 69 13,qe 70 3 3,qz 72 71,qc 73 .sub 72 1,qb 74 .eql 69 73,qm 75 74,qT 75 [qe 76 3 2,qc 78 .eql 77 0],qp 79 75 78 false,qm 68 79] (qH 68 (qX [qm 80 9,ql 81 14,ql 82 13,qN (.call (some 83) 102 [qt 80,qt 81,qt 82,.c (.fn 103 [])])]) (qR [ql 85 13,qe 86 3 3,qz 88 87,qc 89 .sub 88 1,qb 90 .eql 85 89,qm 84 90] (qH 84 (qX [qm 91 9,ql 92 14,ql 93 13,qu 94 (.mkfn 104 [qt 14,qt 8]),qg 95 102 [91,92,93,94]]) (qR [ql 97 13,ql 98 12,qz 99 98,qc 100 .sub 99 1,qb 101 .eql 97 100,qm 96 101] (qH 96 (qX [qm 102 9,ql 103 14,ql 104 13,qg 105 105 [102,103,104]]) (qX [qm 63 9,ql 64 14,ql 65 13,qu 66 (.mkfn 106 [qt 12,qt 13]),qg 67 102 [63,64,65,66]])))))))))) (qX [qc 106 .add 58 1,qm 58 106]))))))) (qC [qm 107 9,qy 108 107,qe 109 108 10] 110 (qR [qu 111 (.build [qU 1,qU 1,qU 3,qI] []),qs 4 4 111,qk 5 (.s0 2),qK 6 90] .ret) (.seq (qR [qe 112 3 5,qz 114 113,qK 115 0] (.block 5 (.loop (qR [qb 116 .lss 115 114] (qW 116 5 (.seq (.block 6 (qR [qi 117 113 115 2,qL 118 2 117,qw 16 [qI,qI],qs 2 16 118] (qX [qm 119 9,qe 120 16 0,qe 122 16 1,qN (.call (some 124) 107 [qt 119,qt 121,qt 123,.c (.i .i64 (-1))])]))) (qX [qc 125 .add 115 1,qm 115 125]))))))) (qD 0 [qe 126 3 3,qe 129 3 4,qm 132 9,qy 133 132,qe 134 133 8,qe 136 7 1,qm 139 9,qy 140 139,qe 141 140 9,qg 128 108 [127],qg 131 108 [130],qu 138 (.build [qU 1,qU 1,qU 3,qI] [(0,(1,qt 128)),(1,(1,qt 131)),(2,(1,qt 135)),(3,(1,qt 137))]),qN (.storeA 4 (qt 4) (qt 138) [qt 141]),qm 5 142,qK 6 0] .ret))))))))⟩
def cd91:AFn:=⟨9,[.tmp 4],qR [qk 4 (.b false)] (qR [qm 5 0,qm 6 1,qg 7 109 [5,6],qc 8 .geq 7 0,qm 4 8] .ret)⟩
def cd93:AFn:=⟨84,[.cell 4 (some 201),.cell 5 none],qR [qo 2 6 0,qo 3 3 1,qw 4 [(100,.i .i64 0),(100,.i .i64 0),qU 4],qw 5 [(1,.b false)]] (qR [qw 6 [(1,.v .nilFunc)],qN (.store 1 (qt 6) (.c (.fn 110 [])))] (qC [qe 12 3 0,qe 14 2 2,qN (.call (some 16) 111 [qt 13,qt 15,.c (.fn 112 [])]),qn 17 16,qm 18 17,qF 18 [qe 19 3 1,qe 21 2 3,qu 23 (.mkfn 114 [qt 6]),qg 24 113 [20,22,23],qn 25 24],qv 26 18 25 true,qm 27 26,qF 27 [qe 28 3 2,qe 30 2 5,qN (.call (some 32) 115 [qt 29,qt 31,.c (.fn 116 [])]),qn 33 32],qv 34 27 33 true] 34 (qR [qL 35 201 4,qs 201 4 35,qN (.store 1 (qt 5) (.c (.b false)))] .ret) (qR [qL 37 6 2,qg 38 82 [37],qm 36 38,qx 39 36 0,qx 40 36 1,qx 41 36 2,qf 42 4 200,qs 1 42 39] (qR [qN (.mkmap 43),qw 7 [(1,.v (.map none))],qs 1 7 43] (.seq (qR [qe 44 3 1,qz 46 45,qK 47 0] (.block 0 (.loop (qR [qb 48 .lss 47 46] (qW 48 0 (.seq (.block 1 (qR [qi 49 45 47 3,qL 50 3 49,qw 9 [qI,qI,qI],qs 3 9 50] (qX [ql 51 7,qe 52 9 0,qe 54 9 2,qN (.mapset (qt 51) (qt 53) (qt 55))]))) (qX [qc 56 .add 47 1,qm 47 56]))))))) (qR [qN (.store 1 (qt 5) (.c (.b true)))] (.seq (qR [qe 57 3 2,qz 59 58,qK 60 0] (.block 2 (.loop (qR [qb 61 .lss 60 59] (qW 61 2 (.seq (.block 3 (qR [qm 62 60,qi 63 58 60 4,qL 64 4 63,qw 11 [qI,(1,.i .u8 0),qI,qI],qm 10 62,qs 4 11 64] (qD 0 [qe 65 4 200,qm 67 10,qi 68 66 67 4,qL 69 4 68,qL 70 4 11,qu 71 (.mkfn 119 [qt 5,qt 4,qt 11]),qN (.calle (some 72) 118 [qt 69,qt 70,qt 71])] (qY 0 [qe 73 4 200,qm 75 10,qi 76 74 75 4,qL 77 4 76,qL 78 4 11,qu 79 (.mkfn 121 [qt 5,qt 7,qt 4]),qN (.calle (some 80) 120 [qt 77,qt 78,qt 79])])))) (qX [qc 81 .add 60 1,qm 60 81]))))))) (qD 0 [qL 82 201 4,ql 83 5,qN (.storeA 201 (qt 4) (qt 82) [qt 5]),qN (.storeA 1 (qt 5) (qt 83) [])] .ret))))))))⟩
def cd94:AFn:=⟨19,[.tmp 4],qR [qK 4 0] (.seq (qR [qm 6 0,qz 7 6,qK 8 0] (.block 0 (.loop (qR [qb 9 .lss 8 7] (qW 9 0 (.seq (.block 1 (qR [qm 10 8,qm 5 10] (qR [qm 11 1,qm 12 0,qm 13 5,qi 14 12 13 3,qL 15 3 14,qN (.calv (some 16) (qt 11) [qt 15])] (qH 16 (qR [qm 17 5,qm 4 17] .ret) .skip)))) (qX [qc 18 .add 8 1,qm 8 18]))))))) (qR [qk 4 (.i .i64 (-1))] .ret))⟩
def cd95:AFn:=⟨63,[.tmp 2],qR [qo 1 6 0,qK 2 0] (qC [qe 6 1 0,qc 8 .lss 7 1,qm 9 8,qF 9 [qe 10 1 0,qc 12 .gtr 11 2147483647],qv 13 9 12 true,qm 14 13,qF 14 [qe 15 1 1,qc 17 .lss 16 0],qv 18 14 17 true,qm 19 18,qF 19 [qe 20 1 1,qe 22 1 0,qb 24 .geq 21 23],qv 25 19 24 true,qm 26 25,qF 26 [qe 27 1 2,qg 29 26 [28],qc 30 .neq 29 0],qv 31 26 30 true] 31 (qR [qK 2 8] .ret) (qR [qe 32 1 2,qg 34 122 [33],qw 3 [(100,.i .i64 0)],qs 100 3 34] (qC [qL 35 6 1,qg 36 123 [35],qn 37 36,qm 38 37,qF 38 [qL 39 6 1,qL 40 100 3,qg 41 124 [39,40],qn 42 41],qv 43 38 42 true,qm 44 43,qF 44 [qe 45 1 5,qN (.call (some 47) 125 [qt 46,.c (.i .i64 16)]),qn 48 47],qv 49 44 48 true] 49 (qR [qK 2 8] .ret) (.seq (qR [qe 50 1 5,qz 52 51,qK 53 0] (.block 0 (.loop (qR [qb 54 .lss 53 52] (qW 54 0 (.seq (.block 1 (qR [qi 55 51 53 7,qL 56 7 55,qw 5 [qI,qI,qI,qU 1,qU 1,qU 2,qI],qs 7 5 56] (qR [qL 57 6 1,qL 58 7 5,qL 59 100 3,qg 60 126 [57,58,59],qn 61 60] (qH 61 (qR [qK 2 8] .ret) .skip)))) (qX [qc 62 .add 53 1,qm 53 62]))))))) (qR [qK 2 0] .ret)))))⟩
def cd96:AFn:=⟨19,[.tmp 4],qR [qK 4 0] (.seq (qR [qm 6 0,qz 7 6,qK 8 0] (.block 0 (.loop (qR [qb 9 .lss 8 7] (qW 9 0 (.seq (.block 1 (qR [qm 10 8,qm 5 10] (qR [qm 11 1,qm 12 0,qm 13 5,qi 14 12 13 2,qL 15 2 14,qN (.calv (some 16) (qt 11) [qt 15])] (qH 16 (qR [qm 17 5,qm 4 17] .ret) .skip)))) (qX [qc 18 .add 8 1,qm 8 18]))))))) (qR [qk 4 (.i .i64 (-1))] .ret))⟩
def cd97:AFn:=⟨19,[.tmp 4],qR [qK 4 0] (.seq (qR [qm 6 0,qz 7 6,qK 8 0] (.block 0 (.loop (qR [qb 9 .lss 8 7] (qW 9 0 (.seq (.block 1 (qR [qm 10 8,qm 5 10] (qR [qm 11 1,qm 12 0,qm 13 5,qi 14 12 13 3,qL 15 3 14,qN (.calv (some 16) (qt 11) [qt 15])] (qH 16 (qR [qm 17 5,qm 4 17] .ret) .skip)))) (qX [qc 18 .add 8 1,qm 8 18]))))))) (qR [qk 4 (.i .i64 (-1))] .ret))⟩
def cd98:AFn:=⟨28,[.cell 6 (some 7),.tmp 7],qR [qo 3 6 0,qw 6 [qI,qI,qI,qU 1,qU 1,qU 2,qI],qK 7 0] (qR [qw 8 [qI,qI,qI,qU 1,qU 1,qU 2,qI]] (.seq (qR [qL 12 6 3,qg 13 95 [12],qm 9 13] (qR [qh 14 9 .neq 0] (qH 15 (qR [qL 16 7 8,qm 17 9,qs 7 6 16,qm 7 17] .ret) .skip))) (qR [qm 19 1,qm 20 2,qg 21 127 [19,20],qm 18 21,qx 22 18 0,qx 23 18 1,qw 10 [qI,qI,qI,qU 1,qU 1,qU 2,qI],qs 7 10 22,qm 11 23] (qC [qm 24 11,qn 25 24] 25 (qR [qL 26 7 8,qs 7 6 26,qK 7 6] .ret) (qR [qL 27 7 10,qs 7 6 27,qK 7 0] .ret)))))⟩
def cd99:AFn:=⟨16,[.cell 2 (some 7)],qR [qo 1 7 0,qw 2 [qI,qI,qI,qU 1,qU 1,qU 2,qI]] (qD 0 [qe 3 1 3,qe 6 1 4,qe 9 1 5,qg 5 108 [4],qf 12 1 3,qg 8 108 [7],qg 11 128 [10],qs 1 12 5,qf 13 1 4,qs 1 13 8,qf 14 1 5,qs 1 14 11] (qR [qL 15 7 1,qs 7 2 15] .ret))⟩
def cd100:AFn:=⟨20,[.cell 4 (some 3)],qR [qo 2 6 0,qw 4 [qI,qI,qI]] (.seq (qR [qe 7 2 4,qz 9 8,qK 10 0] (.block 0 (.loop (qR [qb 11 .lss 10 9] (qW 11 0 (.seq (.block 1 (qR [qi 12 8 10 3,qL 13 3 12,qw 6 [qI,qI,qI],qs 3 6 13] (qR [qe 14 6 0,qm 16 1,qb 17 .eql 15 16] (qH 17 (qX [qL 18 3 6,qs 3 4 18]) .skip)))) (qX [qc 19 .add 10 1,qm 10 19]))))))) .ret)⟩
def cd101:AFn:=⟨36,[.tmp 2],qR [qk 2 (.s0 1)] (qR [qK 3 0] (.seq (qR [qm 9 0,qz 10 9,qK 11 0] (.block 0 (.loop (qR [qb 12 .lss 11 10] (qW 12 0 (.seq (.block 1 (qR [qi 13 9 11 1,ql 14 13,qm 5 14] (qR [qm 15 3,qm 16 5,qz 17 16,qb 18 .add 15 17,qm 3 18] (qR [qh 19 3 .lss 0] (qH 20 (qX [qN (.bad (some 21)),qN (.bad none)]) .skip))))) (qX [qc 22 .add 11 1,qm 11 22]))))))) (qR [qm 23 3,qN (.call (some 24) 129 [.c (.s0 1),qt 23]),qm 6 24] (.seq (qR [qm 25 0,qz 26 25,qK 27 0] (.block 2 (.loop (qR [qb 28 .lss 27 26] (qW 28 2 (.seq (.block 3 (qR [qi 29 25 27 1,ql 30 29,qm 8 30] (qX [qm 31 6,qm 32 8,qN (.app 33 (qt 31) (qt 32) 1),qm 6 33]))) (qX [qc 34 .add 27 1,qm 27 34]))))))) (qR [qm 35 6,qm 2 35] .ret)))))⟩
def cd102:AFn:=⟨76,[],qR [qm 13 0,qm 14 1,qg 15 130 [13,14],qw 8 [qI,qI,qU 2],qs 3 8 15] (.seq (qR [qe 16 8 2,qz 18 17,qK 19 0] (.block 0 (.loop (qR [qb 20 .lss 19 18] (qW 20 0 (.seq (.block 1 (qR [qm 21 19,qi 22 17 19 2,qL 23 2 22,qw 10 [qI,qI],qm 9 21,qs 2 10 23] (qD 0 [qL 25 3 8,qm 26 0,qy 27 26,qf 28 27 6,qe 29 28 1,qm 31 9,qN (.calle (some 32) 16 [qt 25,qt 30,qt 31]),qm 24 32,qx 33 24 0,qx 34 24 1,qm 11 33,qm 12 34] (qC [qm 35 0,qy 36 35,qe 37 36 10,qm 39 38,qF 39 [qh 40 12 .neq 0],qv 42 39 41 true,qm 43 42,qF 43 [qm 44 3,qm 45 9,qL 46 2 10,qN (.calv (some 47) (qt 44) [qt 45,qt 46]),qn 48 47],qv 49 43 48 true] 49 (.exit 1) (qR [qm 50 0,qe 51 8 1,qm 53 11,qm 54 2,qg 55 107 [50,52,53,54]] (qR [qm 56 0,qm 57 0,qy 58 57,qe 59 58 9,qm 61 1,qm 62 9,qu 63 (.build [qI,qI] [(0,(1,qt 61)),(1,(1,qt 62))]),qN (.mksl 64 2 1 [qI,qI] [(0,(2,qt 63))]),qN (.app 65 (qt 60) (qt 64) 2),qy 66 56,qf 67 66 9,qs 1 67 65] (qR [qm 68 0,qL 69 2 10,qy 70 68,qf 71 70 6,qs 2 71 69] .ret))))))) (qX [qc 72 .add 19 1,qm 19 72]))))))) (qX [qm 73 0,qy 74 73,qf 75 74 10,qN (.store 1 (qt 75) (.c (.b true)))]))⟩
def cd103:AFn:=⟨8,[.tmp 4],qR [qo 3 2 1,qk 4 (.b false)] (qR [qL 5 2 3,qu 6 (.build [qI,qI] []),qu 7 (.bin .eql (.flat [true,true]) (qt 5) (qt 6)),qm 4 7] .ret)⟩
def cd104:AFn:=⟨17,[.tmp 6],qR [qo 5 2 1,qk 6 (.b false)] (qR [ql 7 2,qe 8 3 1,qb 10 .eql 7 9,qm 11 10,qT 11 [qm 12 0,qe 13 3 2,qb 15 .eql 12 14],qp 16 11 15 false,qm 6 16] .ret)⟩
def cd105:AFn:=⟨33,[],qR [qm 7 0,qm 8 1,qg 9 130 [7,8],qw 6 [qI,qI,qU 2],qs 3 6 9] (qR [qm 10 0,qy 11 10,qe 12 11 10,qn 14 13,qm 15 14,qT 15 [qm 16 0,qy 17 16,qf 18 17 6,qe 19 18 1,qc 21 .gtr 20 0],qp 22 15 21 false] (qH 22 (qY 0 [qm 23 0,qe 24 6 1,qm 26 0,qy 27 26,qf 28 27 6,qe 29 28 1,qm 31 2,qN (.calle (some 32) 107 [qt 23,qt 25,qt 30,qt 31])]) .skip))⟩
def cd106:AFn:=⟨15,[.tmp 6],qR [qo 5 2 1,qk 6 (.b false)] (qD 0 [qe 7 5 0,ql 9 2,ql 10 3,qc 11 .add 10 1,qi 12 9 11 1,ql 13 12,qb 14 .eql 8 13,qm 6 14] .ret)⟩
def cd107:AFn:=⟨27,[],qR [qh 8 1 .gtr 0,qm 10 9,qT 10 [qh 11 2 .gtr 0],qp 13 10 12 false] (qH 13 (qX [qm 14 0,qm 15 0,qy 16 15,qe 17 16 8,qm 19 1,qm 20 2,qm 21 3,qu 22 (.build [qI,qI,qI] [(0,(1,qt 19)),(1,(1,qt 20)),(2,(1,qt 21))]),qN (.mksl 23 3 1 [qI,qI,qI] [(0,(3,qt 22))]),qN (.app 24 (qt 18) (qt 23) 3),qy 25 14,qf 26 25 8,qs 1 26 24]) .skip)⟩
def cd108:AFn:=⟨8,[.tmp 2],qR [qk 2 (.s0 1)] (qC [qm 3 0,qN (.isnil 4 false (qt 3))] 4 (qR [qk 2 (.s0 1)] .ret) (qR [qN (.mks0 5 1),qm 6 0,qN (.app 7 (qt 5) (qt 6) 1),qm 2 7] .ret))⟩
def cd109:AFn:=⟨19,[.tmp 4],qR [qK 4 0] (.seq (qR [qm 6 0,qz 7 6,qK 8 0] (.block 0 (.loop (qR [qb 9 .lss 8 7] (qW 9 0 (.seq (.block 1 (qR [qm 10 8,qm 5 10] (qR [qm 11 1,qm 12 0,qm 13 5,qi 14 12 13 2,qL 15 2 14,qN (.calv (some 16) (qt 11) [qt 15])] (qH 16 (qR [qm 17 5,qm 4 17] .ret) .skip)))) (qX [qc 18 .add 8 1,qm 8 18]))))))) (qR [qk 4 (.i .i64 (-1))] .ret))⟩
def cd110:AFn:=⟨9,[.tmp 2],qR [qk 2 (.b false)] (qR [qh 3 0 .geq 0,qm 5 4,qT 5 [qh 6 0 .leq 2],qp 8 5 7 false,qm 2 8] .ret)⟩
def cd111:AFn:=⟨32,[.tmp 6],qR [qk 6 (.b false)] (qC [qm 10 0,qz 11 10,qm 12 1,qz 13 12,qb 14 .neq 11 13] 14 (qR [qk 6 (.b false)] .ret) (.seq (qR [qm 15 0,qz 16 15,qK 17 0] (.block 0 (.loop (qR [qb 18 .lss 17 16] (qW 18 0 (.seq (.block 1 (qR [qm 19 17,qi 20 15 17 2,qL 21 2 20,qw 8 [qI,(1,.i .u8 0)],qm 7 19,qs 2 8 21] (qR [qm 22 1,qm 23 7,qi 24 22 23 3,qL 25 3 24,qw 9 [qI,qI,qU 2],qs 3 9 25] (qR [qm 26 2,qL 27 2 8,qL 28 3 9,qN (.calv (some 29) (qt 26) [qt 27,qt 28]),qn 30 29] (qH 30 (qR [qk 6 (.b false)] .ret) .skip))))) (qX [qc 31 .add 17 1,qm 17 31]))))))) (qR [qk 6 (.b true)] .ret)))⟩
def cd112:AFn:=⟨15,[.tmp 4],qR [qo 2 2 0,qo 3 3 1,qk 4 (.b false)] (qR [qe 5 2 0,qe 7 3 0,qb 9 .eql 6 8,qm 10 9,qT 10 [qe 11 2 1,qu 13 (.bin .leq .num (qt 12) (.c (.i .u8 2)))],qp 14 10 13 false,qm 4 14] .ret)⟩
def cd113:AFn:=⟨32,[.tmp 6],qR [qk 6 (.b false)] (qC [qm 10 0,qz 11 10,qm 12 1,qz 13 12,qb 14 .neq 11 13] 14 (qR [qk 6 (.b false)] .ret) (.seq (qR [qm 15 0,qz 16 15,qK 17 0] (.block 0 (.loop (qR [qb 18 .lss 17 16] (qW 18 0 (.seq (.block 1 (qR [qm 19 17,qi 20 15 17 3,qL 21 3 20,qw 8 [qI,qI,qI],qm 7 19,qs 3 8 21] (qR [qm 22 1,qm 23 7,qi 24 22 23 2,qL 25 2 24,qw 9 [qI,qI],qs 2 9 25] (qR [qm 26 2,qL 27 3 8,qL 28 2 9,qN (.calv (some 29) (qt 26) [qt 27,qt 28]),qn 30 29] (qH 30 (qR [qk 6 (.b false)] .ret) .skip))))) (qX [qc 31 .add 17 1,qm 17 31]))))))) (qR [qk 6 (.b true)] .ret)))⟩
def cd114:AFn:=⟨23,[.tmp 5],qR [qo 3 3 0,qo 4 2 1,qk 5 (.b false)] (qR [qe 6 3 0,qe 8 4 0,qb 10 .eql 7 9,qm 11 10,qT 11 [ql 12 2,qe 13 3 1,qN (.calv (some 15) (qt 12) [qt 14])],qp 16 11 15 false,qm 17 16,qT 17 [ql 18 2,qe 19 3 2,qN (.calv (some 21) (qt 18) [qt 20])],qp 22 17 21 false,qm 5 22] .ret)⟩
def cd115:AFn:=⟨32,[.tmp 6],qR [qk 6 (.b false)] (qC [qm 10 0,qz 11 10,qm 12 1,qz 13 12,qb 14 .neq 11 13] 14 (qR [qk 6 (.b false)] .ret) (.seq (qR [qm 15 0,qz 16 15,qK 17 0] (.block 0 (.loop (qR [qb 18 .lss 17 16] (qW 18 0 (.seq (.block 1 (qR [qm 19 17,qi 20 15 17 4,qL 21 4 20,qw 8 [qI,(1,.i .u8 0),qI,qI],qm 7 19,qs 4 8 21] (qR [qm 22 1,qm 23 7,qi 24 22 23 7,qL 25 7 24,qw 9 [qI,qI,qI,qU 1,qU 1,qU 2,qI],qs 7 9 25] (qR [qm 26 2,qL 27 4 8,qL 28 7 9,qN (.calv (some 29) (qt 26) [qt 27,qt 28]),qn 30 29] (qH 30 (qR [qk 6 (.b false)] .ret) .skip))))) (qX [qc 31 .add 17 1,qm 17 31]))))))) (qR [qk 6 (.b true)] .ret)))⟩
def cd116:AFn:=⟨15,[.tmp 4],qR [qo 2 4 0,qo 3 7 1,qk 4 (.b false)] (qR [qe 5 2 0,qe 7 3 0,qb 9 .eql 6 8,qm 10 9,qT 10 [qL 11 4 2,qL 12 7 3,qg 13 117 [11,12]],qp 14 10 13 false,qm 4 14] .ret)⟩
def cd117:AFn:=⟨74,[.tmp 4],qR [qo 2 4 0,qo 3 7 1,qk 4 (.b false)] (qR [qe 7 3 3,qz 9 8,qc 10 .sub 9 1,qm 5 10] (qR [qe 11 2 3,qc 13 .eql 12 0,qm 6 13] (.seq (qR [qe 14 2 1] (.block 0 (.seq (qR [qu 17 (.bin .eql .num (qt 15) (.c (.i .u8 0))),qm 16 17] (qH 16 .skip (qX [qu 18 (.bin .eql .num (qt 15) (.c (.i .u8 1))),qm 16 18]))) (qH 16 (qR [qe 19 2 2,qc 21 .eql 20 0,qm 22 21,qT 22 [qm 23 6],qp 24 22 23 false,qm 4 24] .ret) (qR [qu 26 (.bin .eql .num (qt 15) (.c (.i .u8 2))),qm 25 26] (qH 25 (qR [qe 27 2 2,qc 29 .geq 28 0,qm 30 29,qT 30 [qe 31 2 2,qm 33 5,qb 34 .leq 32 33],qp 35 30 34 false,qm 36 35,qT 36 [qm 37 6],qp 38 36 37 false,qm 4 38] .ret) (qR [qu 40 (.bin .eql .num (qt 15) (.c (.i .u8 3))),qm 39 40] (qH 39 (qR [qe 41 2 2,qm 43 5,qb 44 .eql 42 43,qm 45 44,qT 45 [qe 46 2 3,qc 48 .geq 47 1],qp 49 45 48 false,qm 50 49,qT 50 [qe 51 2 3,qe 53 3 6,qb 55 .leq 52 54],qp 56 50 55 false,qm 4 56] .ret) (qR [qu 58 (.bin .eql .num (qt 15) (.c (.i .u8 4))),qm 57 58] (qH 57 (qR [qe 59 2 2,qc 61 .eql 60 0,qm 62 61,qT 62 [qe 63 2 3,qc 65 .geq 64 1],qp 66 62 65 false,qm 67 66,qT 67 [qe 68 2 3,qe 70 3 6,qb 72 .leq 69 71],qp 73 67 72 false,qm 4 73] .ret) .skip)))))))))) (qR [qk 4 (.b false)] .ret))))⟩
def cd118:AFn:=⟨35,[],qR [qo 3 4 0,qo 4 4 1] (qC [qe 8 4 1,qu 10 (.bin .eql .num (qt 9) (.c (.i .u8 0)))] 10 .ret (qD 0 [qe 11 3 0,qe 13 4 2,qu 15 (.mnx false (qt 14) (.c (.i .i64 0))),qe 16 3 0,qz 18 17,qu 19 (.mnx true (qt 15) (qt 18)),qu 20 (.slc (qt 12) (some (qt 19)) none none 1),qe 21 3 1,qK 26 0,qN (.mksl 23 1 2 [qU 1] [(0,(1,qt 20)),(1,(1,qt 22))]),qg 24 101 [23],qz 25 24] (.block 0 (.loop (qR [qb 27 .lss 26 25] (qW 27 0 (.seq (.block 1 (qR [qi 28 24 26 1,ql 29 28,qm 7 29] (qR [qm 30 2,qm 31 7,qN (.calv (some 32) (qt 30) [qt 31]),qn 33 32] (qH 33 .ret .skip)))) (qX [qc 34 .add 26 1,qm 26 34]))))))))⟩
def cd119:AFn:=⟨20,[.tmp 5],qR [qk 5 (.b false)] (qR [ql 6 1,qm 7 6,qT 7 [qm 8 0,qf 9 2 0,qu 10 (.iadr (qt 9) (qt 8) 1 (some 100)),ql 11 10,qc 12 .eql 11 0],qp 13 7 12 false,qs 1 1 13] (qR [qm 14 0,qe 15 3 0,qf 17 2 0,qu 18 (.iadr (qt 17) (qt 14) 1 (some 100)),qs 1 18 16] (qR [ql 19 1,qm 5 19] .ret)))⟩
def cd120:AFn:=⟨35,[],qR [qo 3 4 0,qo 4 4 1] (qC [qe 8 4 1,qu 10 (.bin .eql .num (qt 9) (.c (.i .u8 0)))] 10 .ret (qR [qe 11 3 2,qz 13 12,qK 14 0] (.block 0 (.loop (qR [qb 15 .lss 14 13] (qW 15 0 (.seq (.block 1 (qR [qi 16 12 14 3,qL 17 3 16,qw 7 [qI,qI,qI],qs 3 7 17] (qR [qe 18 7 2,qc 20 .lss 19 0,qm 21 20,qF 21 [qe 22 7 2,qe 24 4 2,qb 26 .geq 23 25],qv 27 21 26 true,qm 28 27,qT 28 [qm 29 2,qL 30 3 7,qN (.calv (some 31) (qt 29) [qt 30]),qn 32 31],qp 33 28 32 false] (qH 33 .ret .skip)))) (qX [qc 34 .add 14 1,qm 14 34]))))))))⟩
def cd121:AFn:=⟨23,[.tmp 5],qR [qo 4 3 0,qk 5 (.b false)] (qR [ql 6 1,qm 7 6,qT 7 [ql 8 2,qe 9 4 0,qu 11 (.look (qt 8) (qt 10)),qe 12 4 1,qb 14 .eql 11 13],qp 15 7 14 false,qs 1 1 15] (qR [qe 16 4 0,qe 18 4 1,qf 20 3 100,qu 21 (.iadr (qt 20) (qt 17) 1 (some 100)),qs 1 21 19] (qR [ql 22 1,qm 5 22] .ret)))⟩
def cd122:AFn:=⟨18,[.cell 2 (some 100)],qR [qw 2 [(100,.i .i64 0)]] (.seq (qR [qm 5 0,qz 6 5,qK 7 0] (.block 0 (.loop (qR [qb 8 .lss 7 6] (qW 8 0 (.seq (.block 1 (qR [qi 9 5 7 3,qL 10 3 9,qw 4 [qI,qI,qU 2],qs 3 4 10] (qX [qe 11 4 0,qe 13 4 2,qz 15 14,qu 16 (.iadr (qt 2) (qt 12) 1 (some 100)),qs 1 16 15]))) (qX [qc 17 .add 7 1,qm 7 17]))))))) .ret)⟩
def cd123:AFn:=⟨41,[.tmp 2],qR [qo 1 6 0,qk 2 (.b false)] (qC [qe 7 1 3,qN (.call (some 9) 131 [qt 8,.c (.i .i64 6)]),qn 10 9] 10 (qR [qk 2 (.b false)] .ret) (qR [qw 3 [(100,.i .i64 0)]] (qR [qK 4 0] (.seq (qR [qe 11 1 2,qz 13 12,qK 14 0] (.block 0 (.loop (qR [qb 15 .lss 14 13] (qW 15 0 (.seq (.block 1 (qR [qi 16 12 14 3,qL 17 3 16,qw 6 [qI,qI,qU 2],qs 3 6 17] (qR [qe 18 6 1,qc 20 .gtr 19 0] (qH 20 (qR [qe 21 6 1,qe 23 6 0,qu 25 (.iadr (qt 3) (qt 22) 1 (some 100)),qs 1 25 24] (qX [qj 26 4])) .skip)))) (qX [qc 28 .add 14 1,qm 14 28]))))))) (qR [qm 29 4,qe 30 1 3,qz 32 31,qb 33 .eql 29 32,qm 34 33,qT 34 [qe 35 1 3,qu 37 (.mkfn 132 [qt 3]),qg 38 91 [36,37],qn 39 38],qp 40 34 39 false,qm 2 40] .ret)))))⟩
def cd124:AFn:=⟨54,[.tmp 4],qR [qo 2 6 0,qo 3 100 1,qk 4 (.b false)] (qC [qe 8 2 4,qN (.call (some 10) 133 [qt 9,.c (.i .i64 10)]),qn 11 10] 11 (qR [qk 4 (.b false)] .ret) (qR [qw 5 [(3,.b false),(3,.b false),(3,.b false),(3,.b false),(3,.b false),(3,.b false),(3,.b false),(3,.b false),(3,.b false),(3,.b false),(3,.b false),(3,.b false),(3,.b false),(3,.b false),(3,.b false),(3,.b false),(3,.b false),(3,.b false),(3,.b false),(3,.b false),(3,.b false),(3,.b false),(3,.b false),(3,.b false),(3,.b false),(3,.b false),(3,.b false),(3,.b false),(3,.b false),(3,.b false),(3,.b false),(3,.b false),(3,.b false),(3,.b false),(3,.b false),(3,.b false),(3,.b false),(3,.b false),(3,.b false),(3,.b false),(3,.b false),(3,.b false),(3,.b false),(3,.b false),(3,.b false),(3,.b false),(3,.b false),(3,.b false),(3,.b false),(3,.b false),(3,.b false),(3,.b false),(3,.b false),(3,.b false),(3,.b false),(3,.b false),(3,.b false),(3,.b false),(3,.b false),(3,.b false),(3,.b false),(3,.b false),(3,.b false),(3,.b false),(3,.b false),(3,.b false),(3,.b false),(3,.b false),(3,.b false),(3,.b false),(3,.b false),(3,.b false),(3,.b false),(3,.b false),(3,.b false),(3,.b false),(3,.b false),(3,.b false),(3,.b false),(3,.b false),(3,.b false),(3,.b false),(3,.b false),(3,.b false),(3,.b false),(3,.b false),(3,.b false),(3,.b false),(3,.b false),(3,.b false),(3,.b false),(3,.b false),(3,.b false),(3,.b false),(3,.b false),(3,.b false),(3,.b false),(3,.b false),(3,.b false),(3,.b false)]] (.seq (qR [qe 12 2 4,qz 14 13,qK 15 0] (.block 0 (.loop (qR [qb 16 .lss 15 14] (qW 16 0 (.seq (.block 1 (qR [qi 17 13 15 3,qL 18 3 17,qw 7 [qI,qI,qI],qs 3 7 18] (.seq (qD 0 [qL 19 100 3,qe 20 7 1,qN (.calle (some 22) 134 [qt 19,qt 21]),qn 23 22,qm 24 23,qF 24 [qe 25 7 2,qc 27 .lss 26 0],qv 28 24 27 true,qm 29 28,qF 29 [qe 30 7 2,qe 32 7 1,qu 34 (.iadr (qt 3) (qt 33) 1 (some 100)),ql 35 34,qb 36 .geq 31 35],qv 37 29 36 true,qm 38 37,qF 38 [qe 39 7 1,qe 41 7 2,qu 43 (.iadr (qt 5) (qt 40) 3 (some 100)),qu 44 (.iadr (qt 43) (qt 42) 1 (some 3)),ql 45 44],qv 46 38 45 true] (qH 46 (qR [qk 4 (.b false)] .ret) .skip)) (qY 0 [qe 47 7 1,qe 49 7 2,qu 51 (.iadr (qt 5) (qt 48) 3 (some 100)),qu 52 (.iadr (qt 51) (qt 50) 1 (some 3)),qN (.store 1 (qt 52) (.c (.b true)))])))) (qX [qc 53 .add 15 1,qm 15 53]))))))) (qR [qk 4 (.b true)] .ret))))⟩
def cd125:AFn:=⟨42,[.tmp 4],qR [qk 4 (.b false)] (.seq (qR [qm 8 0,qz 9 8,qK 10 0] (.block 0 (.loop (qR [qb 11 .lss 10 9] (qW 11 0 (.seq (.block 1 (qR [qm 12 10,qi 13 8 10 7,qL 14 7 13,qw 6 [qI,qI,qI,qU 1,qU 1,qU 2,qI],qm 5 12,qs 7 6 14] (qR [qL 15 7 6,qg 16 135 [15],qm 7 16] (qR [qh 17 7 .lss 1,qm 19 18,qF 19 [qh 20 7 .gtr 99],qv 22 19 21 true,qm 23 22,qF 23 [qh 24 5 .gtr 0,qm 26 25],qT 26 [qm 27 0,qh 28 5 .sub 1,qi 30 27 29 7,qL 31 7 30,qg 32 135 [31],qm 33 7,qb 34 .geq 32 33],qF 23 [qp 35 26 34 false],qv 36 23 35 true] (qH 36 (qR [qk 4 (.b false)] .ret) .skip))))) (qX [qc 37 .add 10 1,qm 10 37]))))))) (qR [qm 38 0,qz 39 38,qm 40 1,qb 41 .leq 39 40,qm 4 41] .ret))⟩
def cd126:AFn:=⟨163,[.tmp 6],qR [qo 3 6 0,qo 4 7 1,qo 5 100 2,qk 6 (.b false)] (qR [qe 21 3 4,qe 23 4 1,qg 25 136 [22,24],qm 20 25,qx 26 20 0,qx 27 20 1,qw 7 [qI,qI,qI],qs 3 7 26,qm 8 27] (qR [qe 29 3 4,qe 31 4 2,qg 33 136 [30,32],qm 28 33,qx 34 28 0,qx 35 28 1,qw 9 [qI,qI,qI],qs 3 9 34,qm 10 35] (.seq (.block 0 (.seq (qR [qm 37 8,qn 38 37,qm 36 38] (qH 36 .skip (qR [qe 39 4 2,qc 41 .neq 40 0,qm 42 41,qT 42 [qm 43 10,qn 44 43,qm 45 44],qF 45 [qe 46 4 2,qe 48 4 1,qb 50 .eql 47 49],qT 42 [qv 51 45 50 true],qp 52 42 51 false,qm 36 52] (qH 36 .skip (qX [qe 53 4 2,qc 55 .eql 54 0,qm 56 55,qT 56 [qe 57 4 4,qz 59 58,qc 60 .gtr 59 0],qp 61 56 60 false,qm 36 61]))))) (qH 36 (qR [qk 6 (.b false)] .ret) (.seq (qR [qe 63 4 3,qz 65 64,qc 66 .lss 65 1,qm 62 66] (qH 62 .skip (qR [qe 67 4 3,qz 69 68,qc 70 .gtr 69 6,qm 62 70] (qH 62 .skip (qR [qe 71 4 4,qz 73 72,qc 74 .gtr 73 2,qm 62 74] (qH 62 .skip (qX [qe 75 4 5,qz 77 76,qc 78 .gtr 77 3,qm 62 78]))))))) (qH 62 (qR [qk 6 (.b false)] .ret) (.seq (qR [qe 80 4 6,qc 82 .lss 81 1,qm 79 82] (qH 79 .skip (qX [qe 83 4 6,qc 85 .gtr 84 9,qm 79 85]))) (qH 79 (qR [qk 6 (.b false)] .ret) .skip))))))) (qR [qw 11 [(100,.b false)]] (qR [qe 86 7 1,qu 88 (.iadr (qt 11) (qt 87) 1 (some 100)),qN (.store 1 (qt 88) (.c (.b true)))] (.seq (qR [qe 89 4 3,qe 91 4 4,qN (.mksl 93 1 2 [qU 1] [(0,(1,qt 90)),(1,(1,qt 92))]),qz 94 93,qK 95 0] (.block 1 (.loop (qR [qb 96 .lss 95 94] (qW 96 1 (.seq (.block 2 (qR [qi 97 93 95 1,ql 98 97,qm 13 98] (qR [qm 99 13,qz 100 99,qK 101 0] (.block 3 (.loop (qR [qb 102 .lss 101 100] (qW 102 3 (.seq (.block 4 (qR [qi 103 99 101 1,ql 104 103,qm 15 104] (qC [qL 105 100 5,qm 106 15,qg 107 134 [105,106],qn 108 107,qm 109 108,qF 109 [qm 110 15,qu 111 (.iadr (qt 11) (qt 110) 1 (some 100)),ql 112 111],qv 113 109 112 true] 113 (qR [qk 6 (.b false)] .ret) (qX [qm 114 15,qu 115 (.iadr (qt 11) (qt 114) 1 (some 100)),qN (.store 1 (qt 115) (.c (.b true)))])))) (qX [qc 116 .add 101 1,qm 101 116]))))))))) (qX [qc 117 .add 95 1,qm 95 117]))))))) (.seq (qR [qe 118 4 5,qz 120 119,qK 121 0] (.block 5 (.loop (qR [qb 122 .lss 121 120] (qW 122 5 (.seq (.block 6 (qR [qm 123 121,qi 124 119 121 2,qL 125 2 124,qw 17 [qI,qI],qm 16 123,qs 2 17 125] (qR [qe 127 3 3,qe 129 17 0,qg 131 137 [128,130],qm 126 131,qx 132 126 0,qx 133 126 1,qw 18 [qI,qI],qs 2 18 132,qm 19 133] (qD 0 [qm 134 19,qn 135 134,qm 136 135,qF 136 [qh 137 16 .gtr 0,qm 139 138],qT 139 [qe 140 4 5,qh 142 16 .sub 1,qi 144 141 143 2,qe 145 144 0,qe 147 17 0,qb 149 .geq 146 148],qF 136 [qp 150 139 149 false],qv 151 136 150 true,qm 152 151,qF 152 [qe 153 17 1,qc 155 .neq 154 1,qm 156 155],qT 156 [qe 157 17 1,qc 159 .neq 158 2],qF 152 [qp 160 156 159 false],qv 161 152 160 true] (qH 161 (qR [qk 6 (.b false)] .ret) .skip))))) (qX [qc 162 .add 121 1,qm 121 162]))))))) (qR [qk 6 (.b true)] .ret))))))))⟩
def cd127:AFn:=⟨18,[.cell 4 (some 7),.tmp 5],qR [qo 3 1 1,qw 4 [qI,qI,qI,qU 1,qU 1,qU 2,qI],qk 5 (.b false)] (qR [qm 8 0,qu 9 (.mkfn 139 [qt 3]),qg 10 138 [8,9],qm 6 10] (qC [qh 11 6 .lss 0] 12 (qR [qw 7 [qI,qI,qI,qU 1,qU 1,qU 2,qI]] (qR [qL 13 7 7,qs 7 4 13,qk 5 (.b false)] .ret)) (qR [qm 14 0,qm 15 6,qi 16 14 15 7,qL 17 7 16,qs 7 4 17,qk 5 (.b true)] .ret)))⟩
def cd128:AFn:=⟨8,[.tmp 2],qR [qk 2 (.s0 2)] (qC [qm 3 0,qN (.isnil 4 false (qt 3))] 4 (qR [qk 2 (.s0 2)] .ret) (qR [qN (.mks0 5 2),qm 6 0,qN (.app 7 (qt 5) (qt 6) 2),qm 2 7] .ret))⟩
def cd129:AFn:=⟨27,[.tmp 4],qR [qk 4 (.s0 1)] (qC [qh 5 1 .lss 0] 6 (qX [qN (.bad (some 7)),qN (.bad none)]) (.seq (qR [qm 8 1,qm 9 0,qu 10 (.cap (qt 9)),qm 11 0,qz 12 11,qb 13 .sub 10 12,qb 14 .sub 8 13,qm 1 14] (qR [qh 15 1 .gtr 0] (qH 16 (qX [qm 17 0,qm 18 0,qu 19 (.cap (qt 18)),qu 20 (.slc (qt 17) none (some (qt 19)) none 1),qm 21 1,qN (.appz 22 (qt 20) (qt 21) [qI] 1),qm 23 0,qz 24 23,qu 25 (.slc (qt 22) none (some (qt 24)) none 1),qm 0 25]) .skip))) (qR [qm 26 0,qm 4 26] .ret)))⟩
def cd130:AFn:=⟨36,[.cell 4 (some 3)],qR [qo 3 1 1,qw 4 [qI,qI,qU 2]] (qR [qm 6 0,qy 7 6,qf 8 7 0,qe 9 8 2,qu 11 (.mkfn 140 [qt 3]),qg 12 94 [10,11],qm 5 12] (.seq (qD 0 [qh 13 5 .lss 0,qm 15 14,qF 15 [qm 16 0,qy 17 16,qf 18 17 6,qe 19 18 0,ql 21 3,qb 22 .neq 20 21],qv 23 15 22 true] (qH 23 (qR [qm 24 0,qy 25 24,qf 26 25 10,qN (.store 1 (qt 26) (.c (.b true)))] (qR [qu 27 (.build [qI,qI,qU 2] []),qs 3 4 27] .ret)) .skip)) (qR [qm 28 0,qy 29 28,qf 30 29 0,qe 31 30 2,qm 33 5,qi 34 32 33 3,qL 35 3 34,qs 3 4 35] .ret)))⟩
def cd131:AFn:=⟨42,[.tmp 4],qR [qk 4 (.b false)] (.seq (qR [qm 8 0,qz 9 8,qK 10 0] (.block 0 (.loop (qR [qb 11 .lss 10 9] (qW 11 0 (.seq (.block 1 (qR [qm 12 10,qi 13 8 10 2,qL 14 2 13,qw 6 [qI,qI],qm 5 12,qs 2 6 14] (qR [qL 15 2 6,qg 16 141 [15],qm 7 16] (qR [qh 17 7 .lss 1,qm 19 18,qF 19 [qh 20 7 .gtr 99],qv 22 19 21 true,qm 23 22,qF 23 [qh 24 5 .gtr 0,qm 26 25],qT 26 [qm 27 0,qh 28 5 .sub 1,qi 30 27 29 2,qL 31 2 30,qg 32 141 [31],qm 33 7,qb 34 .geq 32 33],qF 23 [qp 35 26 34 false],qv 36 23 35 true] (qH 36 (qR [qk 4 (.b false)] .ret) .skip))))) (qX [qc 37 .add 10 1,qm 10 37]))))))) (qR [qm 38 0,qz 39 38,qm 40 1,qb 41 .leq 39 40,qm 4 41] .ret))⟩
def cd132:AFn:=⟨16,[.tmp 3],qR [qo 2 2 0,qk 3 (.b false)] (qD 0 [qe 4 2 1,qc 6 .eql 5 0,qm 7 6,qF 7 [qe 8 2 0,qu 10 (.iadr (qt 1) (qt 9) 1 (some 100)),ql 11 10,qe 12 2 1,qb 14 .neq 11 13],qv 15 7 14 true,qm 3 15] .ret)⟩
def cd133:AFn:=⟨42,[.tmp 4],qR [qk 4 (.b false)] (.seq (qR [qm 8 0,qz 9 8,qK 10 0] (.block 0 (.loop (qR [qb 11 .lss 10 9] (qW 11 0 (.seq (.block 1 (qR [qm 12 10,qi 13 8 10 3,qL 14 3 13,qw 6 [qI,qI,qI],qm 5 12,qs 3 6 14] (qR [qL 15 3 6,qg 16 142 [15],qm 7 16] (qR [qh 17 7 .lss 1,qm 19 18,qF 19 [qh 20 7 .gtr 99],qv 22 19 21 true,qm 23 22,qF 23 [qh 24 5 .gtr 0,qm 26 25],qT 26 [qm 27 0,qh 28 5 .sub 1,qi 30 27 29 3,qL 31 3 30,qg 32 142 [31],qm 33 7,qb 34 .geq 32 33],qF 23 [qp 35 26 34 false],qv 36 23 35 true] (qH 36 (qR [qk 4 (.b false)] .ret) .skip))))) (qX [qc 37 .add 10 1,qm 10 37]))))))) (qR [qm 38 0,qz 39 38,qm 40 1,qb 41 .leq 39 40,qm 4 41] .ret))⟩
def cd134:AFn:=⟨17,[.tmp 4],qR [qo 2 100 0,qk 4 (.b false)] (qR [qh 5 1 .geq 0,qm 7 6,qT 7 [qh 8 1 .leq 99],qp 10 7 9 false,qm 11 10,qT 11 [qm 12 1,qu 13 (.iadr (qt 2) (qt 12) 1 (some 100)),ql 14 13,qc 15 .gtr 14 0],qp 16 11 15 false,qm 4 16] .ret)⟩
def cd135:AFn:=⟨23,[.tmp 2],qR [qo 1 7 0,qK 2 0] (.seq (qR [qL 6 7 1,qN (.bad (some 7))] (.block 0 (qR [qN (.bad (some 8)),qx 9 8 1,qx 10 8 0] (qH 9 (qR [qw 3 [qI,qI],qs 2 3 10] (qR [qe 11 3 0,qm 2 12] .ret)) (qR [qN (.bad (some 13)),qx 14 13 1,qx 15 13 0] (qH 14 (qR [qw 4 [qI,qI,qI],qs 3 4 15] (qR [qe 16 4 0,qm 2 17] .ret)) (qR [qN (.bad (some 18)),qx 19 18 1,qx 20 18 0] (qH 19 (qR [qw 5 [qI,qI,qI,qU 1,qU 1,qU 2,qI],qs 7 5 20] (qR [qe 21 5 0,qm 2 22] .ret)) .skip)))))))) (qR [qK 2 0] .ret))⟩
def cd136:AFn:=⟨18,[.cell 4 (some 3),.tmp 5],qR [qo 3 1 1,qw 4 [qI,qI,qI],qk 5 (.b false)] (qR [qm 8 0,qu 9 (.mkfn 144 [qt 3]),qg 10 143 [8,9],qm 6 10] (qC [qh 11 6 .lss 0] 12 (qR [qw 7 [qI,qI,qI]] (qR [qL 13 3 7,qs 3 4 13,qk 5 (.b false)] .ret)) (qR [qm 14 0,qm 15 6,qi 16 14 15 3,qL 17 3 16,qs 3 4 17,qk 5 (.b true)] .ret)))⟩
def cd137:AFn:=⟨18,[.cell 4 (some 2),.tmp 5],qR [qo 3 1 1,qw 4 [qI,qI],qk 5 (.b false)] (qR [qm 8 0,qu 9 (.mkfn 145 [qt 3]),qg 10 109 [8,9],qm 6 10] (qC [qh 11 6 .lss 0] 12 (qR [qw 7 [qI,qI]] (qR [qL 13 2 7,qs 2 4 13,qk 5 (.b false)] .ret)) (qR [qm 14 0,qm 15 6,qi 16 14 15 2,qL 17 2 16,qs 2 4 17,qk 5 (.b true)] .ret)))⟩
def cd138:AFn:=⟨19,[.tmp 4],qR [qK 4 0] (.seq (qR [qm 6 0,qz 7 6,qK 8 0] (.block 0 (.loop (qR [qb 9 .lss 8 7] (qW 9 0 (.seq (.block 1 (qR [qm 10 8,qm 5 10] (qR [qm 11 1,qm 12 0,qm 13 5,qi 14 12 13 7,qL 15 7 14,qN (.calv (some 16) (qt 11) [qt 15])] (qH 16 (qR [qm 17 5,qm 4 17] .ret) .skip)))) (qX [qc 18 .add 8 1,qm 8 18]))))))) (qR [qk 4 (.i .i64 (-1))] .ret))⟩
def cd139:AFn:=⟨8,[.tmp 3],qR [qo 2 7 0,qk 3 (.b false)] (qD 0 [qL 4 7 2,ql 6 1,qg 5 135 [4],qb 7 .eql 5 6,qm 3 7] .ret)⟩
def cd140:AFn:=⟨8,[.tmp 3],qR [qo 2 3 0,qk 3 (.b false)] (qR [qe 4 2 0,ql 6 1,qb 7 .eql 5 6,qm 3 7] .ret)⟩
def cd141:AFn:=⟨23,[.tmp 2],qR [qo 1 2 0,qK 2 0] (.seq (qR [qL 6 2 1,qN (.bad (some 7))] (.block 0 (qR [qN (.bad (some 8)),qx 9 8 1,qx 10 8 0] (qH 9 (qR [qw 3 [qI,qI],qs 2 3 10] (qR [qe 11 3 0,qm 2 12] .ret)) (qR [qN (.bad (some 13)),qx 14 13 1,qx 15 13 0] (qH 14 (qR [qw 4 [qI,qI,qI],qs 3 4 15] (qR [qe 16 4 0,qm 2 17] .ret)) (qR [qN (.bad (some 18)),qx 19 18 1,qx 20 18 0] (qH 19 (qR [qw 5 [qI,qI,qI,qU 1,qU 1,qU 2,qI],qs 7 5 20] (qR [qe 21 5 0,qm 2 22] .ret)) .skip)))))))) (qR [qK 2 0] .ret))⟩
def cd142:AFn:=⟨23,[.tmp 2],qR [qo 1 3 0,qK 2 0] (.seq (qR [qL 6 3 1,qN (.bad (some 7))] (.block 0 (qR [qN (.bad (some 8)),qx 9 8 1,qx 10 8 0] (qH 9 (qR [qw 3 [qI,qI],qs 2 3 10] (qR [qe 11 3 0,qm 2 12] .ret)) (qR [qN (.bad (some 13)),qx 14 13 1,qx 15 13 0] (qH 14 (qR [qw 4 [qI,qI,qI],qs 3 4 15] (qR [qe 16 4 0,qm 2 17] .ret)) (qR [qN (.bad (some 18)),qx 19 18 1,qx 20 18 0] (qH 19 (qR [qw 5 [qI,qI,qI,qU 1,qU 1,qU 2,qI],qs 7 5 20] (qR [qe 21 5 0,qm 2 22] .ret)) .skip)))))))) (qR [qK 2 0] .ret))⟩
def cd143:AFn:=⟨19,[.tmp 4],qR [qK 4 0] (.seq (qR [qm 6 0,qz 7 6,qK 8 0] (.block 0 (.loop (qR [qb 9 .lss 8 7] (qW 9 0 (.seq (.block 1 (qR [qm 10 8,qm 5 10] (qR [qm 11 1,qm 12 0,qm 13 5,qi 14 12 13 3,qL 15 3 14,qN (.calv (some 16) (qt 11) [qt 15])] (qH 16 (qR [qm 17 5,qm 4 17] .ret) .skip)))) (qX [qc 18 .add 8 1,qm 8 18]))))))) (qR [qk 4 (.i .i64 (-1))] .ret))⟩
def cd144:AFn:=⟨8,[.tmp 3],qR [qo 2 3 0,qk 3 (.b false)] (qD 0 [qL 4 3 2,ql 6 1,qg 5 142 [4],qb 7 .eql 5 6,qm 3 7] .ret)⟩
def cd145:AFn:=⟨8,[.tmp 3],qR [qo 2 2 0,qk 3 (.b false)] (qD 0 [qL 4 2 2,ql 6 1,qg 5 141 [4],qb 7 .eql 5 6,qm 3 7] .ret)⟩
def cd176:AFn:=⟨9,[.tmp 4],qR [qo 3 2 1,qk 4 (.b false)] (qR [qm 5 0,qL 6 2 3,qg 7 184 [5,6],qc 8 .geq 7 0,qm 4 8] .ret)⟩
def cd177:AFn:=⟨9,[.tmp 4],qR [qk 4 (.b false)] (qR [qm 5 0,qm 6 1,qg 7 185 [5,6],qc 8 .geq 7 0,qm 4 8] .ret)⟩
def cd184:AFn:=⟨19,[.tmp 4],qR [qo 3 2 1,qK 4 0] (.seq (qR [qm 6 0,qz 7 6,qK 8 0] (.block 0 (.loop (qR [qb 9 .lss 8 7] (qW 9 0 (.seq (.block 1 (qR [qm 10 8,qm 5 10] (qD 0 [qL 11 2 3,qm 12 0,qm 13 5,qi 14 12 13 2,qL 15 2 14,qu 16 (.bin .eql (.flat [true,true]) (qt 11) (qt 15))] (qH 16 (qR [qm 17 5,qm 4 17] .ret) .skip)))) (qX [qc 18 .add 8 1,qm 8 18]))))))) (qR [qk 4 (.i .i64 (-1))] .ret))⟩
def cd185:AFn:=⟨19,[.tmp 4],qR [qK 4 0] (.seq (qR [qm 6 0,qz 7 6,qK 8 0] (.block 0 (.loop (qR [qb 9 .lss 8 7] (qW 9 0 (.seq (.block 1 (qR [qm 10 8,qm 5 10] (qR [qm 11 1,qm 12 0,qm 13 5,qi 14 12 13 1,ql 15 14,qN (.calv (some 16) (qt 11) [qt 15])] (qH 16 (qR [qm 17 5,qm 4 17] .ret) .skip)))) (qX [qc 18 .add 8 1,qm 8 18]))))))) (qR [qk 4 (.i .i64 (-1))] .ret))⟩
def cd198:AFn:=⟨30,[.tmp 6,.tmp 7],qR [qo 3 6 0,qo 4 3 1,qo 5 1 2,qk 6 (.b false),qK 7 0] (qR [qL 12 6 3,qL 13 3 4,qg 14 213 [12,13],qm 11 14,qx 15 11 0,qx 16 11 1,qm 8 15,qm 9 16] (qC [qh 17 9 .neq 0] 18 (qR [qm 19 9,qk 6 (.b false),qm 7 19] .ret) (qR [qe 20 3 5,qu 22 (.mkfn 214 [qt 5]),qg 23 138 [21,22],qm 10 23] (qC [qh 24 10 .lss 0] 25 (qR [qk 6 (.b false),qK 7 6] .ret) (qR [qm 26 8,qm 27 10,qi 28 26 27 1,ql 29 28,qm 6 29,qK 7 0] .ret)))))⟩
def cd210:AFn:=⟨56,[.cell 8 (some 1),.tmp 9,.tmp 10],qR [qo 4 6 0,qo 5 3 1,qo 6 1 2,qo 7 4 3,qw 8 [qU 8],qk 9 (.s0 4),qK 10 0] (.seq (qR [qL 13 6 4,qL 14 3 5,qL 15 1 6,qg 16 225 [13,14,15],qm 10 16] (qR [qh 17 10 .neq 0] (qH 18 .ret .skip))) (qR [qg 19 226 [],qw 11 [(6,.v .nilFunc)],qs 6 11 19] (qC [qe 20 7 0,qu 22 (.bin .lss .num (qt 21) (.c (.i .u8 1))),qm 23 22,qF 23 [qe 24 7 0,qu 26 (.conv .i64 (qt 25)),qc 27 .geq 26 6],qv 28 23 27 true] 28 (qR [qL 29 1 8,qs 1 8 29,qk 9 (.s0 4),qK 10 2] .ret) (qD 0 [qL 30 6 4,qL 31 3 5,qu 32 (.build [qI,qI,qU 3,qU 2,qU 3,qU 7,qU 2,qU 3,qU 4] [(0,(6,qt 30)),(6,(3,qt 31))]),qL 33 1 6,qg 34 227 [33],qu 35 (.build [qI,qI,qU 3,qU 2,qU 3,qU 7,qU 2,qU 3,qU 4,qU 8] [(0,(9,qt 32)),(9,(1,qt 34))]),qo 36 10 35,qm 12 36] (.seq (qD 0 [qe 38 7 0,qu 40 (.iadr (qt 11) (qt 39) 1 (some 6)),ql 41 40,qm 42 12,qL 43 4 7,qN (.calve (some 44) (qt 41) [qt 42,qt 43]),qm 37 44,qx 45 37 0,qx 46 37 1,qm 9 45,qm 10 46] (qR [qh 47 10 .neq 0] (qH 48 (qR [qu 49 (.build [qU 8] []),qm 50 10,qs 1 8 49,qk 9 (.s0 4),qm 10 50] .ret) .skip))) (qR [qm 51 12,qy 52 51,qf 53 52 9,qL 54 1 53,qm 55 9,qs 1 8 54,qm 9 55,qK 10 0] .ret))))))⟩
def cd213:AFn:=⟨40,[.tmp 4,.tmp 5],qR [qo 2 6 0,qo 3 3 1,qk 4 (.s0 1),qK 5 0] (qR [qL 10 6 2,qL 11 3 3,qg 12 79 [10,11],qm 9 12,qx 13 9 0,qx 14 9 1,qw 6 [(100,.i .i64 0),(100,.i .i64 0),qU 4],qs 201 6 13,qm 5 14] (qC [qh 15 5 .neq 0] 16 (qR [qm 17 5,qk 4 (.s0 1),qm 5 17] .ret) (.seq (qR [qe 18 2 5,qz 20 19,qK 21 0] (.block 0 (.loop (qR [qb 22 .lss 21 20] (qW 22 0 (.seq (.block 1 (qR [qm 23 21,qi 24 19 21 7,qL 25 7 24,qw 8 [qI,qI,qI,qU 1,qU 1,qU 2,qI],qm 7 23,qs 7 8 25] (qY 0 [qm 26 4,qL 27 3 3,qe 28 8 0,qe 30 6 200,qm 32 7,qi 33 31 32 4,qL 34 4 33,qg 35 228 [27,29,34],qN (.mksl 36 1 1 [(1,.b false)] [(0,(1,qt 35))]),qN (.appe 37 (qt 26) (qt 36) 1),qm 4 37]))) (qX [qc 38 .add 21 1,qm 21 38]))))))) (qR [qm 39 4,qm 4 39,qK 5 0] .ret))))⟩
def cd214:AFn:=⟨8,[.tmp 3],qR [qo 2 7 0,qk 3 (.b false)] (qR [qe 4 2 0,ql 6 1,qb 7 .eql 5 6,qm 3 7] .ret)⟩
def cd225:AFn:=⟨81,[.tmp 6],qR [qo 3 6 0,qo 4 3 1,qo 5 1 2,qK 6 0] (.seq (qR [qL 14 6 3,qL 15 3 4,qg 16 69 [14,15],qm 7 16] (qR [qh 17 7 .neq 0] (qH 18 (qR [qm 19 7,qm 6 19] .ret) .skip))) (qR [qN (.mkmap 20),qm 8 20] (qR [qL 21 6 3,qL 22 3 4,qu 23 (.build [qI,qI,qU 3,qU 2,qU 3,qU 7,qU 2,qU 3,qU 4] [(0,(6,qt 21)),(6,(3,qt 22))]),qw 9 [qI,qI,qU 3,qU 2,qU 3,qU 7,qU 2,qU 3,qU 4],qs 9 9 23] (.seq (qR [qe 24 5 0,qz 26 25,qK 27 0] (.block 0 (.loop (qR [qb 28 .lss 27 26] (qW 28 0 (.seq (.block 1 (qR [qm 29 27,qi 30 25 27 8,qL 31 8 30,qw 11 [qI,qU 1,qI,qI,qI,qI,qI,qI],qm 10 29,qs 8 11 31] (.seq (qD 0 [qe 32 11 0,qc 34 .lss 33 1,qm 35 34,qF 35 [qe 36 11 0,qc 38 .gtr 37 99],qv 39 35 38 true,qm 40 39,qF 40 [qh 41 10 .gtr 0,qm 43 42],qT 43 [qe 44 5 0,qh 46 10 .sub 1,qi 48 45 47 8,qe 49 48 0,qe 51 11 0,qb 53 .geq 50 52],qF 40 [qp 54 43 53 false],qv 55 40 54 true,qm 56 55,qF 56 [qL 57 9 9,qL 58 8 11,qN (.calle (some 59) 229 [qt 57,qt 58]),qn 60 59],qv 61 56 60 true] (qH 61 (qR [qK 6 8] .ret) .skip)) (qR [qe 62 11 1,qz 64 63,qK 65 0] (.block 2 (.loop (qR [qb 66 .lss 65 64] (qW 66 2 (.seq (.block 3 (qR [qi 67 63 65 1,ql 68 67,qm 13 68] (qC [qm 69 8,qm 70 13,qu 71 (.look (qt 69) (qt 70)),qc 72 .gtr 71 0] 72 (qR [qK 6 8] .ret) (qX [qm 73 8,qm 74 13,qN (.mapset (qt 73) (qt 74) (.c (.i .i64 1)))])))) (qX [qc 75 .add 65 1,qm 65 75])))))))))) (qX [qc 76 .add 27 1,qm 27 76]))))))) (qC [qe 77 5 0,qz 79 78,qc 80 .gtr 79 8] 80 (qR [qK 6 8] .ret) (qR [qK 6 0] .ret))))))⟩
def cd226:AFn:=⟨2,[.cell 0 (some 6)],qR [qw 0 [(6,.v .nilFunc)]] (qR [qu 1 (.build [(6,.v .nilFunc)] [(0,(1,.c (.v .nilFunc))),(1,(1,.c (.fn 230 []))),(2,(1,.c (.fn 231 []))),(3,(1,.c (.fn 232 []))),(4,(1,.c (.fn 233 []))),(5,(1,.c (.fn 234 [])))]),qs 6 0 1] .ret)⟩
def cd227:AFn:=⟨27,[.cell 2 (some 1)],qR [qo 1 1 0,qw 2 [qU 8]] (qR [qe 5 1 0,qg 7 235 [6],qf 8 1 0,qs 1 8 7] (.seq (qR [qe 9 1 0,qz 11 10,qK 12 0] (.block 0 (.loop (qR [qb 13 .lss 12 11] (qW 13 0 (.seq (.block 1 (qR [qm 14 12,qi 15 10 12 8,qL 16 8 15,qw 4 [qI,qU 1,qI,qI,qI,qI,qI,qI],qm 3 14,qs 8 4 16] (qY 0 [qe 17 1 0,qm 19 3,qe 20 4 1,qg 22 108 [21],qi 23 18 19 8,qf 24 23 1,qs 1 24 22]))) (qX [qc 25 .add 12 1,qm 12 25]))))))) (qR [qL 26 1 1,qs 1 2 26] .ret)))⟩
def cd228:AFn:=⟨27,[.tmp 6],qR [qo 3 3 0,qo 4 1 1,qo 5 4 2,qk 6 (.b false)] (qR [qu 11 (.mkfn 236 [qt 3]),qw 7 [(1,.v .nilFunc)],qs 1 7 11] (qR [qu 12 (.mkfn 237 [qt 3]),qw 8 [(1,.v .nilFunc)],qs 1 8 12] (.seq (qR [qu 13 (.mkfn 240 [qt 3,qt 4]),qu 14 (.mkfn 242 [qt 5,qt 7]),qu 15 (.mkfn 244 [qt 5,qt 7]),qu 16 (.mkfn 246 [qt 5,qt 8]),qN (.mksl 17 1 4 [(1,.v .nilFunc)] [(0,(1,qt 13)),(1,(1,qt 14)),(2,(1,qt 15)),(3,(1,qt 16))]),qz 18 17,qK 19 0] (.block 0 (.loop (qR [qb 20 .lss 19 18] (qW 20 0 (.seq (.block 1 (qR [qi 21 17 19 1,ql 22 21,qm 10 22] (qR [qm 23 10,qN (.calv (some 24) (qt 23) []),qn 25 24] (qH 25 (qR [qk 6 (.b false)] .ret) .skip)))) (qX [qc 26 .add 19 1,qm 19 26]))))))) (qR [qk 6 (.b true)] .ret))))⟩
def cd229:AFn:=⟨173,[.tmp 4],qR [qo 2 9 0,qo 3 8 1,qk 4 (.b false)] (qC [qe 18 3 1,qz 20 19,qc 21 .lss 20 1,qm 22 21,qF 22 [qe 23 3 1,qz 25 24,qc 26 .gtr 25 4],qv 27 22 26 true,qm 28 27,qF 28 [qe 29 3 6,qc 31 .lss 30 0],qv 32 28 31 true,qm 33 32,qF 33 [qe 34 3 6,qc 36 .gtr 35 9],qv 37 33 36 true] 37 (qR [qk 4 (.b false)] .ret) (.seq (qR [qe 38 3 1,qz 40 39,qK 41 0] (.block 0 (.loop (qR [qb 42 .lss 41 40] (qW 42 0 (.seq (.block 1 (qR [qm 43 41,qi 44 39 41 1,ql 45 44,qm 5 43,qm 6 45] (qR [qf 47 2 0,qe 48 47 2,qm 50 6,qg 51 22 [49,50],qm 46 51,qx 52 46 0,qx 53 46 1,qw 7 [qI,qI,qU 2],qs 3 7 52,qm 8 53] (qD 0 [qh 54 8 .neq 0,qm 56 55,qF 56 [qL 57 9 2,qm 58 6,qN (.calle (some 59) 249 [qt 57,qt 58]),qu 60 (.bin .eql .num (qt 59) (.c (.i .u8 0)))],qv 61 56 60 true,qm 62 61,qF 62 [qh 63 5 .gtr 0,qm 65 64],qT 65 [qL 66 9 2,qe 67 3 1,qh 69 5 .sub 1,qi 71 68 70 1,ql 72 71,qm 73 6,qN (.calle (some 74) 250 [qt 66,qt 72,qt 73]),qn 75 74],qF 62 [qp 76 65 75 false],qv 77 62 76 true] (qH 77 (qR [qk 4 (.b false)] .ret) .skip))))) (qX [qc 78 .add 41 1,qm 41 78]))))))) (qR [qe 79 3 1,qu 81 (.iadr (qt 80) (.c (.i .i64 0)) 1 none),ql 82 81,qm 9 82] (qR [qf 84 2 0,qe 85 84 2,qm 87 9,qg 88 22 [86,87],qm 83 88,qx 89 83 0,qx 90 83 1,qw 10 [qI,qI,qU 2],qs 3 10 89,qm 11 90] (.seq (qR [qL 92 3 10,qe 93 3 2,qe 95 3 3,qg 97 16 [92,94,96],qm 91 97,qx 98 91 0,qx 99 91 1,qm 12 98,qm 13 99] (qR [qh 100 13 .neq 0] (qH 101 (qR [qk 4 (.b false)] .ret) .skip))) (qR [qf 103 2 0,qL 104 6 103,qe 105 3 4,qg 107 76 [104,106],qm 102 107,qx 108 102 0,qx 109 102 1,qw 14 [qU 1,qU 1,qU 3,qI],qs 4 14 108,qm 15 109] (qR [qh 110 15 .eql 0,qm 112 111,qT 112 [qe 113 3 5,qc 115 .geq 114 0],qp 116 112 115 false,qm 117 116,qT 117 [qe 118 3 5,qe 120 14 0,qz 122 121,qb 123 .lss 119 122],qp 124 117 123 false,qm 125 124,qT 125 [qe 126 14 0,qe 128 3 5,qi 130 127 129 1,ql 131 130,qm 132 9,qb 133 .eql 131 132],qp 134 125 133 false,qm 16 134] (qC [qm 135 16,qn 136 135,qm 137 136,qT 137 [qe 138 3 4,qc 140 .neq 139 0,qm 141 140],qF 141 [qe 142 3 5,qc 144 .neq 143 0],qT 137 [qv 145 141 144 true],qp 146 137 145 false] 146 (qR [qk 4 (.b false)] .ret) (qR [qf 148 2 0,qL 149 6 148,qe 150 3 7,qg 152 89 [149,151],qm 147 152,qx 153 147 0,qx 154 147 1,qw 17 [qI,qI,qI,qU 1,qU 1,qU 2,qI],qs 7 17 153,qm 15 154] (qC [qe 155 3 6,qc 157 .eql 156 0] 157 (qR [qe 158 3 7,qc 160 .eql 159 0,qm 4 160] .ret) (qD 0 [qh 161 15 .eql 0,qm 163 162,qT 163 [qL 164 9 2,qm 165 9,qe 166 3 3,qe 169 17 1,qg 168 251 [164,165,167],qb 171 .eql 168 170],qp 172 163 171 false,qm 4 172] .ret)))))))))))⟩
def cd230:AFn:=⟨141,[.tmp 4,.tmp 5],qR [qo 3 4 1,qk 4 (.s0 4),qK 5 0] (qC [qm 12 0,qy 13 12,qf 14 13 9,qe 15 14 0,qz 17 16,qc 18 .geq 17 8] 18 (qR [qk 4 (.s0 4),qK 5 9] .ret) (qC [qe 19 3 1,qc 21 .lss 20 1,qm 22 21,qF 22 [qe 23 3 1,qc 25 .gtr 24 99],qv 26 22 25 true,qm 27 26,qF 27 [qm 28 0,qe 29 3 1,qg 31 252 [28,30],qu 32 (.bin .neq .ptr (qt 31) (.c (.v (.pointer none))))],qv 33 27 32 true] 33 (qR [qk 4 (.s0 4),qK 5 2] .ret) (qD 1 [qm 35 0,qy 36 35,qf 37 36 0,qf 38 37 0,qe 39 38 2,qe 41 3 2,qN (.callp 43 22 [qt 40,qt 42]),qm 34 43,qx 44 34 0,qx 45 34 1,qN (.gal 6 1 [qI,qI,qU 2]),qs 3 6 44,qm 7 45] (qC [qh 46 7 .neq 0] 47 (qR [qm 48 7,qk 4 (.s0 4),qm 5 48] .ret) (qC [qe 49 6 1,qc 51 .gtr 50 0,qm 52 51,qF 52 [qe 53 3 3,qc 55 .lss 54 0],qv 56 52 55 true,qm 57 56,qF 57 [qe 58 3 3,qc 60 .gtr 59 1],qv 61 57 60 true] 61 (qR [qk 4 (.s0 4),qK 5 2] .ret) (qD 0 [qm 63 0,qy 64 63,qf 65 64 0,qf 66 65 0,qL 67 6 66,qm 68 0,qy 69 68,qf 70 69 0,qf 71 70 6,qL 72 3 71,qe 73 6 0,qN (.calle (some 75) 67 [qt 67,qt 72,qt 74]),qm 62 75,qx 76 62 0,qx 77 62 1,qm 8 76,qm 7 77] (qR [qm 78 0,qy 79 78,qf 80 79 9,qe 81 80 0,qu 83 (.mkfn 254 [qt 6]),qg 84 253 [82,83],qm 9 84] (.seq (qD 0 [qh 85 7 .neq 0,qm 87 86,qF 87 [qh 88 8 .neq 0],qv 90 87 89 true,qm 91 90,qF 91 [qm 92 9],qv 93 91 92 true,qm 94 93,qF 94 [qm 95 0,qy 96 95,qf 97 96 0,qL 98 9 97,qe 99 6 0,qN (.calle (some 101) 249 [qt 98,qt 100]),qu 102 (.bin .neq .num (qt 101) (.c (.i .u8 0)))],qv 103 94 102 true] (qH 103 (qR [qk 4 (.s0 4),qK 5 182] .ret) .skip)) (qD 0 [qm 105 0,qy 106 105,qf 107 106 9,qe 108 107 0,qe 110 3 1,qN (.calle (some 112) 256 [qt 109,qt 111,.c (.fn 257 [])]),qm 104 112,qx 113 104 0,qx 114 104 1,qm 10 113,qm 11 114] (qD 0 [qm 115 0,qm 116 0,qy 117 116,qf 118 117 9,qe 119 118 0,qm 121 10,qe 122 3 1,qe 124 6 0,qe 127 3 3,qu 129 (.bin .sub .num (.c (.i .i64 1)) (qt 128)),qe 130 3 3,qN (.mksr 126 1 1 [qI] [(0,(1,qt 125))]),qu 132 (.build [qI,qU 1,qI,qI,qI,qI,qI,qI] [(0,(1,qt 123)),(1,(1,qt 126)),(2,(1,qt 129)),(3,(1,qt 131))]),qN (.mksr 133 8 1 [qI,qU 1,qI,qI,qI,qI,qI,qI] [(0,(8,qt 132))]),qN (.callA (some 134) 258 [qt 120,qt 121,qt 133] []),qy 135 115,qf 136 135 9,qf 137 136 0,qs 1 137 134] (qR [qe 138 6 0,qN (.call (some 140) 259 [qt 139,.c (.i .u8 1)]),qm 4 140,qK 5 0] .ret)))))))))))⟩
def cd231:AFn:=⟨120,[.tmp 4,.tmp 5],qR [qo 3 4 1,qk 4 (.s0 4),qK 5 0] (qR [qm 14 0,qe 15 3 1,qg 17 252 [14,16],qm 6 17] (.seq (.block 0 (qR [qm 19 6,qu 20 (.bin .eql .ptr (qt 19) (.c (.v (.pointer none)))),qm 18 20] (qH 18 (qR [qk 4 (.s0 4),qK 5 6] .ret) (qR [qm 22 6,qy 23 22,qe 24 23 1,qz 26 25,qc 27 .geq 26 4,qm 21 27] (qH 21 (qR [qk 4 (.s0 4),qK 5 9] .ret) .skip))))) (qR [qm 29 0,qm 30 6,qg 31 260 [29,30],qm 28 31,qx 32 28 0,qx 33 28 1,qx 34 28 2,qm 7 32,qm 8 33,qm 9 34] (qD 1 [qm 36 0,qy 37 36,qf 38 37 0,qf 39 38 0,qe 40 39 2,qm 42 6,qy 43 42,qe 44 43 1,qu 46 (.iadr (qt 45) (.c (.i .i64 0)) 1 none),ql 47 46,qm 48 6,qy 49 48,qe 50 49 3,qN (.callp 52 24 [qt 41,qt 47,qt 51]),qm 35 52,qx 53 35 0,qx 54 35 1,qN (.gal 10 1 [qI,qI]),qs 2 10 53,qm 11 54] (qC [qm 55 9,qn 56 55,qm 57 56,qF 57 [qh 58 11 .neq 0],qv 60 57 59 true,qm 61 60,qF 61 [qe 62 10 0,qc 64 .eql 63 0],qv 65 61 64 true] 65 (qR [qk 4 (.s0 4),qK 5 310] .ret) (qD 1 [qm 67 0,qy 68 67,qf 69 68 0,qf 70 69 0,qe 71 70 2,qe 73 10 0,qN (.callp 75 22 [qt 72,qt 74]),qm 66 75,qx 76 66 0,qx 77 66 1,qN (.gal 12 1 [qI,qI,qU 2]),qs 3 12 76,qm 11 77] (qC [qh 78 11 .neq 0] 79 (qR [qm 80 11,qk 4 (.s0 4),qm 5 80] .ret) (qD 0 [qL 82 3 12,qe 83 10 1,qm 85 0,qy 86 85,qf 87 86 0,qL 88 9 87,qe 89 12 1,qg 91 261 [88,90],qN (.calle (some 92) 18 [qt 82,qt 84,qt 91]),qm 81 92,qx 93 81 0,qx 94 81 1,qm 13 93,qm 11 94] (qC [qh 95 11 .neq 0] 96 (qR [qk 4 (.s0 4),qK 5 310] .ret) (qD 0 [qm 97 6,qm 98 6,qy 99 98,qe 100 99 0,qm 102 6,qy 103 102,qe 104 103 1,qe 106 12 0,qe 110 10 1,qm 112 13,qm 113 7,qm 114 8,qN (.mksr 108 1 1 [qI] [(0,(1,qt 107))]),qN (.callA (some 109) 262 [qt 105,.c (.i .i64 0),qt 108] [qt 98,qt 99,qt 100,qt 10,qt 110]),qu 115 (.build [qI,qU 1,qI,qI,qI,qI,qI,qI] [(0,(1,qt 101)),(1,(1,qt 109)),(2,(1,qt 111)),(3,(1,qt 112)),(4,(1,qt 113)),(5,(1,qt 114))]),qy 116 97,qs 8 116 115] (qR [qe 117 12 0,qN (.call (some 119) 259 [qt 118,.c (.i .u8 1)]),qm 4 119,qK 5 0] .ret)))))))))))⟩
def cd232:AFn:=⟨47,[.tmp 4,.tmp 5],qR [qo 3 4 1,qk 4 (.s0 4),qK 5 0] (qR [qm 9 0,qe 10 3 1,qg 12 252 [9,11],qm 6 12] (.seq (.block 0 (qR [qm 14 6,qu 15 (.bin .eql .ptr (qt 14) (.c (.v (.pointer none)))),qm 13 15] (qH 13 (qR [qk 4 (.s0 4),qK 5 6] .ret) (qR [qm 17 6,qy 18 17,qe 19 18 1,qz 21 20,qc 22 .eql 21 1,qm 16 22] (qH 16 (qR [qk 4 (.s0 4),qK 5 2] .ret) .skip))))) (qR [qm 23 6,qy 24 23,qe 25 24 1,qz 27 26,qc 28 .sub 27 1,qm 7 28] (qR [qm 29 6,qy 30 29,qe 31 30 1,qm 33 7,qi 34 32 33 1,ql 35 34,qm 8 35] (qR [qm 36 6,qm 37 6,qy 38 37,qe 39 38 1,qm 41 7,qu 42 (.slc (qt 40) none (some (qt 41)) none 1),qy 43 36,qf 44 43 1,qs 1 44 42] (qR [qm 45 8,qN (.call (some 46) 259 [qt 45,.c (.i .u8 0)]),qm 4 46,qK 5 0] .ret))))))⟩
def cd233:AFn:=⟨40,[.tmp 4,.tmp 5],qR [qo 3 4 1,qk 4 (.s0 4),qK 5 0] (qR [qm 7 0,qe 8 3 1,qg 10 252 [7,9],qm 6 10] (.seq (.block 0 (qR [qm 12 6,qu 13 (.bin .eql .ptr (qt 12) (.c (.v (.pointer none)))),qm 11 13] (qH 11 (qR [qk 4 (.s0 4),qK 5 6] .ret) (qR [qm 15 6,qy 16 15,qe 17 16 1,qz 19 18,qc 20 .gtr 19 1,qm 14 20] (qH 14 (qR [qk 4 (.s0 4),qK 5 2] .ret) .skip))))) (qD 0 [qm 21 6,qm 22 6,qy 23 22,qe 24 23 0,qm 26 6,qy 27 26,qe 28 27 1,qm 30 6,qy 31 30,qe 32 31 3,qm 34 6,qy 35 34,qe 36 35 2,qu 38 (.build [qI,qU 1,qI,qI,qI,qI,qI,qI] [(0,(1,qt 25)),(1,(1,qt 29)),(2,(1,qt 33)),(3,(1,qt 37))]),qy 39 21,qs 8 39 38] (qR [qk 4 (.s0 4),qK 5 0] .ret))))⟩
def cd234:AFn:=⟨65,[.tmp 4,.tmp 5],qR [qo 3 4 1,qk 4 (.s0 4),qK 5 0] (qR [qm 10 0,qe 11 3 1,qg 13 252 [10,12],qm 6 13] (qC [qm 14 6,qu 15 (.bin .eql .ptr (qt 14) (.c (.v (.pointer none))))] 15 (qR [qk 4 (.s0 4),qK 5 6] .ret) (qR [qm 16 6,qy 17 16,qe 18 17 1,qu 20 (.iadr (qt 19) (.c (.i .i64 0)) 1 none),ql 21 20,qm 7 21] (.seq (qD 1 [qm 23 0,qy 24 23,qf 25 24 0,qf 26 25 0,qe 27 26 2,qm 29 7,qm 30 6,qy 31 30,qe 32 31 3,qN (.callp 34 24 [qt 28,qt 29,qt 33]),qm 22 34,qx 35 22 0,qx 36 22 1,qN (.gal 8 1 [qI,qI]),qs 2 8 35,qm 9 36] (qR [qm 37 6,qy 38 37,qe 39 38 1,qz 41 40,qc 42 .gtr 41 1,qm 43 42,qF 43 [qh 44 9 .neq 0],qv 46 43 45 true,qm 47 46,qF 47 [qe 48 8 0,qc 50 .neq 49 0],qv 51 47 50 true] (qH 51 (qR [qk 4 (.s0 4),qK 5 2] .ret) .skip))) (qR [qm 52 0,qm 53 0,qy 54 53,qf 55 54 9,qe 56 55 0,qu 58 (.mkfn 264 [qt 3]),qg 59 263 [57,58],qy 60 52,qf 61 60 9,qf 62 61 0,qs 1 62 59] (qR [qm 63 7,qN (.call (some 64) 259 [qt 63,.c (.i .u8 0)]),qm 4 64,qK 5 0] .ret))))))⟩
def cd235:AFn:=⟨8,[.tmp 2],qR [qk 2 (.s0 8)] (qC [qm 3 0,qN (.isnil 4 false (qt 3))] 4 (qR [qk 2 (.s0 8)] .ret) (qR [qN (.mks0 5 8),qm 6 0,qN (.app 7 (qt 5) (qt 6) 8),qm 2 7] .ret))⟩
def cd236:AFn:=⟨9,[.tmp 3],qR [qk 3 (.b false)] (qR [qe 4 1 0,qm 6 0,qu 7 (.build [qI,(1,.i .u8 0)] [(0,(1,qt 6)),(1,(1,.c (.i .u8 0)))]),qg 8 176 [5,7],qm 3 8] .ret)⟩
def cd237:AFn:=⟨8,[.tmp 3],qR [qo 2 3 0,qk 3 (.b false)] (qR [qe 4 1 1,qu 6 (.mkfn 239 [qt 2]),qg 7 238 [5,6],qm 3 7] .ret)⟩
def cd238:AFn:=⟨9,[.tmp 4],qR [qk 4 (.b false)] (qR [qm 5 0,qm 6 1,qg 7 97 [5,6],qc 8 .geq 7 0,qm 4 8] .ret)⟩
def cd239:AFn:=⟨16,[.tmp 3],qR [qo 2 3 0,qk 3 (.b false)] (qR [qe 4 2 0,qe 6 1 0,qb 8 .eql 5 7,qm 9 8,qT 9 [qe 10 2 1,qe 12 1 1,qb 14 .eql 11 13],qp 15 9 14 false,qm 3 15] .ret)⟩
def cd240:AFn:=⟨8,[.tmp 2],qR [qk 2 (.b false)] (qR [qe 3 0 2,ql 5 1,qu 6 (.build [qI,(1,.i .u8 0),qI,qI] [(0,(1,qt 5)),(1,(1,.c (.i .u8 1)))]),qg 7 241 [4,6],qm 2 7] .ret)⟩
def cd241:AFn:=⟨9,[.tmp 4],qR [qo 3 4 1,qk 4 (.b false)] (qR [qm 5 0,qL 6 4 3,qg 7 265 [5,6],qc 8 .geq 7 0,qm 4 8] .ret)⟩
def cd242:AFn:=⟨8,[.tmp 2],qR [qk 2 (.b false)] (qR [qe 3 0 0,qu 5 (.mkfn 243 [qt 1]),qg 6 177 [4,5],qn 7 6,qm 2 7] .ret)⟩
def cd243:AFn:=⟨8,[.tmp 3],qR [qk 3 (.b false)] (qR [ql 4 1,qm 5 0,qN (.calv (some 6) (qt 4) [qt 5]),qn 7 6,qm 3 7] .ret)⟩
def cd244:AFn:=⟨8,[.tmp 2],qR [qk 2 (.b false)] (qR [qe 3 0 1,qu 5 (.mkfn 245 [qt 1]),qg 6 177 [4,5],qn 7 6,qm 2 7] .ret)⟩
def cd245:AFn:=⟨8,[.tmp 3],qR [qk 3 (.b false)] (qR [ql 4 1,qm 5 0,qN (.calv (some 6) (qt 4) [qt 5]),qn 7 6,qm 3 7] .ret)⟩
def cd246:AFn:=⟨8,[.tmp 2],qR [qk 2 (.b false)] (qR [qe 3 0 2,qu 5 (.mkfn 248 [qt 1]),qg 6 247 [4,5],qn 7 6,qm 2 7] .ret)⟩
def cd247:AFn:=⟨9,[.tmp 4],qR [qk 4 (.b false)] (qR [qm 5 0,qm 6 1,qg 7 266 [5,6],qc 8 .geq 7 0,qm 4 8] .ret)⟩
def cd248:AFn:=⟨8,[.tmp 3],qR [qo 2 3 0,qk 3 (.b false)] (qR [ql 4 1,qL 5 3 2,qN (.calv (some 6) (qt 4) [qt 5]),qn 7 6,qm 3 7] .ret)⟩
def cd249:AFn:=⟨20,[.tmp 4],qR [qo 2 9 0,qo 3 1 1,qk 4 (.i .u8 0)] (qR [qf 6 2 6,qe 7 6 0,qu 9 (.mkfn 267 [qt 3]),qg 10 96 [8,9],qm 5 10] (qC [qh 11 5 .lss 0] 12 (qR [qk 4 (.i .u8 2)] .ret) (qR [qf 13 2 6,qe 14 13 0,qm 16 5,qi 17 15 16 2,qe 18 17 1,qm 4 19] .ret)))⟩
def cd250:AFn:=⟨25,[.tmp 6],qR [qo 3 9 0,qo 5 1 2,qk 6 (.b false)] (qR [qf 10 3 0,qe 11 10 2,qm 13 1,qg 14 22 [12,13],qm 9 14,qx 15 9 0,qx 16 9 1,qw 7 [qI,qI,qU 2],qs 3 7 15,qm 8 16] (qR [qh 17 8 .eql 0,qm 19 18,qT 19 [qe 20 7 2,qu 22 (.mkfn 269 [qt 5]),qg 23 268 [21,22]],qp 24 19 23 false,qm 6 24] .ret))⟩
def cd251:AFn:=⟨20,[.tmp 6],qR [qo 3 9 0,qK 6 0] (qR [qf 10 3 0,qL 11 6 10,qm 12 1,qm 13 2,qg 14 270 [11,12,13],qm 9 14,qx 15 9 0,qx 16 9 1,qm 7 15,qm 8 16] (qC [qh 17 8 .neq 0] 18 (qR [qK 6 0] .ret) (qR [qm 19 7,qm 6 19] .ret)))⟩
def cd252:AFn:=⟨22,[.tmp 4],qR [qo 3 1 1,qk 4 (.v (.pointer none))] (qR [qm 6 0,qy 7 6,qf 8 7 9,qe 9 8 0,qu 11 (.mkfn 272 [qt 3]),qg 12 271 [10,11],qm 5 12] (qC [qh 13 5 .lss 0] 14 (qR [qk 4 (.v (.pointer none))] .ret) (qR [qm 15 0,qy 16 15,qf 17 16 9,qe 18 17 0,qm 20 5,qi 21 19 20 8,qm 4 21] .ret)))⟩
def cd253:AFn:=⟨9,[.tmp 4],qR [qk 4 (.b false)] (qR [qm 5 0,qm 6 1,qg 7 271 [5,6],qc 8 .geq 7 0,qm 4 8] .ret)⟩
def cd254:AFn:=⟨9,[.tmp 3],qR [qo 2 8 0,qk 3 (.b false)] (qR [qe 4 2 1,qe 6 1 0,qg 8 255 [5,7],qm 3 8] .ret)⟩
def cd255:AFn:=⟨9,[.tmp 4],qR [qk 4 (.b false)] (qR [qm 5 0,qm 6 1,qg 7 45 [5,6],qc 8 .geq 7 0,qm 4 8] .ret)⟩
end Go.Eng
