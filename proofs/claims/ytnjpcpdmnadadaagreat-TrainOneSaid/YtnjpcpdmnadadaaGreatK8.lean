/-
  A part of the engine that walks the functions' codes, and of the functions' contracts. Conditions: those that each theorem names.
-/
import Derived.Test.YtnjpcpdmnadadaaGreatK7
import Derived.Below
import Derived.Calls
import Derived.ChangeKeysEq
import Derived.DataReads
import Derived.Deep.LoopGhost
import Derived.Laws.AppendOwn
import Derived.Laws.Cells
import Derived.Laws.CopyRow
import Derived.Laws.Entries
import Derived.Laws.MakeOwn
import Derived.Laws.Rows
import Derived.Laws.StructEq
import Derived.Laws.Tables
import Derived.Lib.AppendZerosOnto
import Derived.MapKept
import Derived.Orders
import Derived.ProofKit
import Derived.ScopeJumps
import Derived.Tactics2
import Derived.WalkSpells
set_option linter.unusedSimpArgs false
set_option linter.unusedVariables false
set_option linter.unusedSectionVars false
namespace Go.Eng
open Go.RowKit
def zjR:ACode→Nat→Option ACode
 |.seq a b,l=>match zjR a l with
  |some r=>some (.seq r b)
  |none=>zjR b l
 |.label l',l=>if l' == l then some .skip else none
 |_,_=>none
section
variable {P:Program} {inv:Nat→Option Nat} {w0:World} {M:Nat→Prop} {n N:Nat} {φ:AF} {σ:AS}
theorem zmk (l:Nat):∀ {c:Code} {x:ACode},zak P inv n c=some x→(∃ r₀ r,findLabel c l=some r₀∧zjR x l=some r∧zak P inv n r₀=some r)∨(findLabel c l=none∧zjR x l=none):=by
 intro c
 induction c with
 |seq a b iha ihb =>
  intro x h
  simp only[zak]at h
  split at h
  ·rename_i x' y' hx hy
   simp only[Option.some.injEq]at h
   subst h
   rcases iha hx with ⟨r₀,r,h1,h2,h3⟩|⟨h1,h2⟩
   ·exact .inl ⟨.seq r₀ b,.seq r y',by simp[findLabel,h1],by simp[zjR,h2],by simp[zak,h3,hy]⟩
   ·rcases ihb hy with ⟨r₀,r,h3,h4,h5⟩|⟨h3,h4⟩
    ·exact .inl ⟨r₀,r,by simp[findLabel,h1,h3],by simp[zjR,h2,h4],h5⟩
    ·exact .inr ⟨by simp[findLabel,h1,h3],by simp[zjR,h2,h4]⟩
  ·cases h
 |label l' =>
  intro x h
  simp only[zak,Option.some.injEq]at h
  subst h
  simp only[findLabel,zjR]
  split
  ·exact .inl ⟨.skip,.skip,rfl,rfl,rfl⟩
  ·exact .inr ⟨rfl,rfl⟩
 |region id ops d =>
  intro x h
  refine .inr ⟨rfl, ?_⟩
  cases d with
  |false=>obtain ⟨_,_,e⟩:=Option.map_eq_some_iff.1 h;subst e;rfl
  |true=>obtain ⟨_,e⟩:=zaL h;subst e;rfl
 |cond c a b =>
  intro x h
  simp only[zak]at h
  split at h
  ·simp only[Option.some.injEq]at h;subst h;exact .inr ⟨rfl,rfl⟩
  ·cases h
 |block id c _=>intro x h;obtain ⟨_,_,e⟩:=Option.map_eq_some_iff.1 h;subst e;exact .inr ⟨rfl,rfl⟩
 |loop c _=>intro x h;obtain ⟨_,_,e⟩:=Option.map_eq_some_iff.1 h;subst e;exact .inr ⟨rfl,rfl⟩
 |scope c _=>intro x h;obtain ⟨_,_,e⟩:=Option.map_eq_some_iff.1 h;subst e;exact .inr ⟨rfl,rfl⟩
 |skip=>intro x h;simp only[zak,Option.some.injEq]at h;subst h;exact .inr ⟨rfl,rfl⟩
 |exit id=>intro x h;simp only[zak,Option.some.injEq]at h;subst h;exact .inr ⟨rfl,rfl⟩
 |ret=>intro x h;simp only[zak,Option.some.injEq]at h;subst h;exact .inr ⟨rfl,rfl⟩
 |goto l'=>intro x h;simp only[zak,Option.some.injEq]at h;subst h;exact .inr ⟨rfl,rfl⟩
 |_=>intro x h;simp[zak]at h
theorem zpO {c₀:Code} {x:ACode} (h:zak P inv n c₀=some (.scope x)):∃ x₀,c₀=.scope x₀∧zak P inv n x₀=some x:=by
 unfold zak at h
 split at h<;>first|(cases h;done)|(obtain ⟨_,e⟩:=zaL h;cases e;done)|(obtain ⟨l',h1,e⟩:=Option.map_eq_some_iff.1 h;cases e;exact ⟨_,rfl,h1⟩)|(obtain ⟨_,_,e⟩:=Option.map_eq_some_iff.1 h;cases e;done)|(split at h<;>simp at h)
theorem zpP {c₀:Code} {l:Nat} (h:zak P inv n c₀=some (.label l)):c₀=.label l:=by
 unfold zak at h
 split at h<;>first|(cases h;done)|(obtain ⟨_,e⟩:=zaL h;cases e;done)|(obtain ⟨_,_,e⟩:=Option.map_eq_some_iff.1 h;cases e;done)|(simp only[Option.some.injEq,ACode.label.injEq]at h;rw[h];done)|(split at h<;>simp at h)
theorem inv_goto {c₀:Code} {l:Nat} (h:zak P inv n c₀=some (.goto l)):c₀=.goto l:=by
 unfold zak at h
 split at h<;>first|(cases h;done)|(obtain ⟨_,e⟩:=zaL h;cases e;done)|(obtain ⟨_,_,e⟩:=Option.map_eq_some_iff.1 h;cases e;done)|(simp only[Option.some.injEq,ACode.goto.injEq]at h;rw[h];done)|(split at h<;>simp at h)
theorem AWp.label {l:Nat} {Q:Exit→AF→AS→Prop} (h:Q .normal φ σ):AWp P inv w0 M N n (.label l) Q φ σ:=by
 intro c₀ hc β a w hs
 rw[zpP hc]
 exact wp_label ⟨φ,σ,β,h,hs,.refl _ _⟩
theorem AWp.goto {l:Nat} {Q:Exit→AF→AS→Prop} (h:Q (.goto l) φ σ):AWp P inv w0 M N n (.goto l) Q φ σ:=by
 intro c₀ hc β a w hs
 rw[inv_goto hc]
 exact wp_goto ⟨φ,σ,β,h,hs,.refl _ _⟩
def ziT (l:Nat) (J:AF→AS→Prop) (Q:Exit→AF→AS→Prop):Exit→AF→AS→Prop
 |.goto l',φ,σ=>l'=l∧J φ σ
 |e,φ,σ=>Q e φ σ
theorem AWp.scope {x r:ACode} {Q:Exit→AF→AS→Prop} (l:Nat) (hf:zjR x l=some r) (I:Nat→AF→AS→Prop)
  (first:AWp P inv w0 M N n x (ziT l (fun φ' σ'=>∃ m φ2 σ2,I m φ2 σ2∧zgA φ2 φ'∧ze7 σ2 σ') Q) φ σ)
  (pass:∀ m φ σ,I m φ σ→AWp P inv w0 M N n r (ziT l (fun φ' σ'=>∃ m' φ2 σ2,m'<m∧I m' φ2 σ2∧zgA φ2 φ'∧ze7 σ2 σ') Q) φ σ):AWp P inv w0 M N n (.scope x) Q φ σ:=by
 intro c₀ hc β a w hs
 obtain ⟨x₀,rfl,hx⟩:=zpO hc
 have hfl:∃ r₀,findLabel x₀ l=some r₀∧zak P inv n r₀=some r:=by
  rcases zmk l hx with ⟨r₀,r',h1,h2,h3⟩|⟨_,h2⟩
  ·rw[hf]at h2;simp only[Option.some.injEq]at h2;subst h2;exact ⟨r₀,h1,h3⟩
  ·rw[hf]at h2;cases h2
 obtain ⟨r₀,hf0,hr0⟩:=hfl
 let J:Nat→Act→World→Prop:=fun m a' w'=>∃ φ' σ' β',I m φ' σ'∧St inv w0 M n φ' σ' β' a' w'∧Ext N (ctx inv M σ β w) (ctx inv M σ' β' w')
 refine wp_scope_jumps (l:=l) (rest:=r₀) (fun a w=>∃ m,J m a w) (fun a w=>leastOf fun m=>J m a w) hf0 ?_ ?_
 ·refine Code.wp_mono ?_ (first x₀ hx β a w hs)
  rintro e a' w' ⟨φ',σ',β',q,hst,hext⟩
  cases e with
  |goto l' =>
   obtain ⟨rfl,m,φ2,σ2,hI,h1,h2⟩:=q
   obtain ⟨hs2,he2⟩:=hst.sub h1 h2 N
   exact ⟨rfl,m,φ2,σ2,β',hI,hs2,hext.trans he2⟩
  |normal=>exact ⟨φ',σ',β',q,hst,hext⟩
  |exit id=>exact ⟨φ',σ',β',q,hst,hext⟩
  |ret=>exact ⟨φ',σ',β',q,hst,hext⟩
  |panic ch=>exact ⟨φ',σ',β',q,hst,hext⟩
  |outgrown=>exact ⟨φ',σ',β',q,hst,hext⟩
 ·intro a1 w1 hJ
  obtain ⟨φ1,σ1,β1,hI1,hs1,he1⟩:=(leastOf_spec hJ).1
  refine Code.wp_mono ?_ (pass _ φ1 σ1 hI1 r₀ hr0 β1 a1 w1 hs1)
  rintro e a' w' ⟨φ',σ',β',q,hst,hext⟩
  cases e with
  |goto l' =>
   obtain ⟨rfl,m',φ2,σ2,hlt,hI,h1,h2⟩:=q
   obtain ⟨hs2,he2⟩:=hst.sub h1 h2 N
   have hJ':J m' a' w':=⟨φ2,σ2,β',hI,hs2,he1.trans (hext.trans he2)⟩
   exact ⟨rfl,⟨m',hJ'⟩,Nat.lt_of_le_of_lt ((leastOf_spec ⟨m',hJ'⟩).2 m' hJ') hlt⟩
  |normal=>exact ⟨φ',σ',β',q,hst,he1.trans hext⟩
  |exit id=>exact ⟨φ',σ',β',q,hst,he1.trans hext⟩
  |ret=>exact ⟨φ',σ',β',q,hst,he1.trans hext⟩
  |panic ch=>exact ⟨φ',σ',β',q,hst,he1.trans hext⟩
  |outgrown=>exact ⟨φ',σ',β',q,hst,he1.trans hext⟩
end
end Go.Eng
namespace Go.Eng
open Go.RowKit
inductive Sh where
 |i (k:IntKind)
 |b
 |s (sz:Nat) (e:Sh)
 |st (fs:List Sh)
 |ar (n:Nat) (e:Sh)
 deriving Inhabited
inductive D where
 |n (n:Int)
 |t (t:Bool)
 |l (l:List D)
 deriving Inhabited
mutual
def Sh.size:Sh→Nat
 |.i _=>1|.b=>1|.s _ _=>1
 |.st fs=>zcS fs
 |.ar n e=>n*e.size
def zcS:List Sh→Nat
 |[]=>0
 |x::r=>x.size+zcS r
end
mutual
def Sh.av:Sh→D→List AV
 |.i k,.n n=>[.i k n]
 |.b,.t t=>[.b t]
 |.s sz e,.l l=>[.sl sz (l.map (Sh.av e))]
 |.st fs,.l l=>zcp fs l
 |.ar _ e,.l l=>(l.map (Sh.av e)).flatten
 |_,_=>[]
def zcp:List Sh→List D→List AV
 |x::xs,d::ds=>Sh.av x d++zcp xs ds
 |_,_=>[]
end
mutual
def Sh.ok:Sh→D→Prop
 |.i k,.n n=>(Lit.int k n).wf=true
 |.b,.t _=>True
 |.s _ e,.l l=>l.length≤maxLen∧∀ d∈l,Sh.ok e d
 |.st fs,.l l=>zdE fs l
 |.ar n e,.l l=>l.length=n∧∀ d∈l,Sh.ok e d
 |_,_=>False
def zdE:List Sh→List D→Prop
 |[],[]=>True
 |x::xs,d::ds=>Sh.ok x d∧zdE xs ds
 |_,_=>False
end
section
variable (P:Program)
mutual
def zoR:Nat→TypeId→Option Sh
 |0,_=>none
 |n+1,t =>
  match P.underlying t with
  |some (.int k)=>some (.i k)
  |some .bool=>some .b
  |some (.slice e)=>match zoR n e with
   |some s=>if P.cellsOf e=s.size∧0<s.size then some (.s s.size s) else none
   |none=>none
  |some (.struct fs)=>match shFs n 0 fs.toList with
   |some l=>if P.cellsOf t=zcS l then some (.st l) else none
   |none=>none
  |some (.array m e)=>match zoR n e with
   |some s=>if P.cellsOf e=s.size∧P.cellsOf t=m*s.size then some (.ar m s) else none
   |none=>none
  |_=>none
def shFs:Nat→Nat→List Field→Option (List Sh)
 |0,_,_=>none
 |_+1,_,[]=>some []
 |n+1,off,f::fs=>match zoR n f.type,shFs n (off+P.cellsOf f.type) fs with
  |some s,some l=>if f.offset=off∧P.cellsOf f.type=s.size then some (s::l) else none
  |_,_=>none
end
end
mutual
theorem zhY:∀ (S:Sh) (d:D),S.ok d→(S.av d).length=S.size
 |.i k,d,h=>by cases d<;>simp only[Sh.ok]at h<;>simp[Sh.av,Sh.size]
 |.b,d,h=>by cases d<;>simp only[Sh.ok]at h<;>simp[Sh.av,Sh.size]
 |.s sz e,d,h=>by cases d<;>simp only[Sh.ok]at h<;>simp[Sh.av,Sh.size]
 |.st fs,d,h=>by
  cases d<;>simp only[Sh.ok]at h
  rename_i l
  simp only[Sh.av,Sh.size]
  exact ziP fs l h
 |.ar n e,d,h=>by
  cases d<;>simp only[Sh.ok]at h
  rename_i l
  simp only[Sh.av,Sh.size]
  obtain ⟨h1,h2⟩:=h
  subst h1
  induction l with
  |nil=>simp
  |cons x l ih =>
   simp only[List.map_cons,List.flatten_cons,List.length_append,List.length_cons]
   rw[zhY e x (h2 x (by simp)),ih fun d hd=>h2 d (by simp[hd]),Nat.add_mul]
   omega
theorem ziP:∀ (fs:List Sh) (l:List D),zdE fs l→(zcp fs l).length=zcS fs
 |[],l,h=>by cases l<;>simp only[zdE]at h<;>simp[zcp,zcS]
 |s::ss,l,h=>by
  cases l<;>simp only[zdE]at h
  simp only[zcp,zcS,List.length_append]
  rw[zhY s _ h.1,ziP ss _ h.2]
end
section
variable {H:Type} {enc:TypeId×Value→H} {P:Program} {w:World} {base:Nat} {spare:Nat→Bool} {held:Bool} {inv:Nat→Option Nat}
abbrev c0 (inv:Nat→Option Nat) (w:World):Ctx:=⟨inv,w,fun _=>False,fun _=>none⟩
theorem zlJ {α β:Type} {f:α→Option β}:∀ {l:List α} {r:List β},l.mapM f=some r→r.length=l.length∧∀ (i:Nat) (x:α),l[i]?=some x→∃ y,r[i]?=some y∧f x=some y
 |[],r,h=>by simp at h;subst h;exact ⟨rfl,by simp⟩
 |a::l,r,h=>by
  simp only[List.mapM_cons,Option.pure_def,Option.bind_eq_bind,Option.bind_eq_some_iff,Option.some.injEq]at h
  obtain ⟨y,h1,ys,h2,rfl⟩:=h
  obtain ⟨h3,h4⟩:=zlJ h2
  refine ⟨by simp[h3],fun i x hx=>?_⟩
  cases i with
  |zero=>simp at hx;subst hx;exact ⟨y,by simp,h1⟩
  |succ i=>simpa using h4 i x (by simpa using hx)
theorem zqM:∀ (S:Sh) (d:D),zad (S.av d)=true
 |S,d=>by
  have key:∀ (S:Sh),∀ d,zad (S.av d)=true:=by
   intro S
   refine Sh.rec (motive_1:=fun S=>∀ d,zad (S.av d)=true) (motive_2:=fun fs=>∀ l,zad (zcp fs l)=true) ?_ ?_ ?_ ?_ ?_ ?_ ?_ S
   ·intro k d;cases d<;>simp[Sh.av,zad,AV.bare]
   ·intro d;cases d<;>simp[Sh.av,zad,AV.bare]
   ·intro sz e ih d;cases d<;>simp[Sh.av,zad,AV.bare]
   ·intro fs ih d;cases d<;>simp[Sh.av,zad];exact ih _
   ·intro n e ih d
    cases d<;>simp[Sh.av,zad]
    rename_i l
    induction l with
    |nil=>simp[zad]
    |cons x l ihl=>simp only[List.map_cons,List.flatten_cons,zdc,ih x,ihl,Bool.and_self]
   ·intro l;cases l<;>simp[zcp,zad]
   ·intro s ss ih ihl l
    cases l<;>simp[zcp,zad]
    rw[zdc,ih,ihl];rfl
  exact key S d
theorem zo9 {a:Addr} {sz len:Nat} {S:Sh} (hf:∀ i,i<len→∃ cs d,w.cells? base (a.add (i*sz)) sz=some cs∧S.ok d∧relCs (c0 inv w) (S.av d) cs) (hsz:S.size=sz) :
  ∃ ds:List D,ds.length=len∧(∀ d∈ds,S.ok d)∧∀ k,zaE (c0 inv w) sz (a.add (k*sz)) 0 ((ds.drop k).map S.av):=by
 have h1:∃ ds:List D,ds.length=len∧∀ i,i<len→∃ cs d,ds[i]?=some d∧w.cells? base (a.add (i*sz)) sz=some cs∧S.ok d∧relCs (c0 inv w) (S.av d) cs:=by
  induction len with
  |zero=>exact ⟨[],rfl,fun i hi=>absurd hi (Nat.not_lt_zero i)⟩
  |succ n ih =>
   obtain ⟨ds,hl,hd⟩:=ih fun i hi=>hf i (by omega)
   obtain ⟨cs,d,k1,k2,k3⟩:=hf n (by omega)
   refine ⟨ds++[d],by simp[hl],fun i hi=>?_⟩
   by_cases hin:i<n
   ·obtain ⟨cs',d',q0,q⟩:=hd i hin
    exact ⟨cs',d',by rw[List.getElem?_append_left (by omega)];exact q0,q⟩
   ·have:i=n:=by omega
    subst this
    exact ⟨cs,d,by rw[List.getElem?_append_right (by omega)];simp[hl],k1,k2,k3⟩
 obtain ⟨ds,hl,hd⟩:=h1
 refine ⟨ds,hl,fun d hm=>?_,fun k=>?_⟩
 ·obtain ⟨i,hi,e⟩:=List.mem_iff_getElem.1 hm
  obtain ⟨cs,d',q0,_,q2,_⟩:=hd i (by omega)
  rw[List.getElem?_eq_getElem hi,e]at q0
  simp only[Option.some.injEq]at q0
  subst q0
  exact q2
 ·have key:∀ (m k:Nat),ds.length-k=m→zaE (c0 inv w) sz a (k*sz) ((ds.drop k).map S.av):=by
   intro m
   induction m with
   |zero =>
    intro k hk
    rw[List.drop_eq_nil_of_le (by omega)]
    simp[zaE]
   |succ m ih =>
    intro k hk
    have hlt:k<ds.length:=by omega
    obtain ⟨cs,d',q0,q1,q2,q3⟩:=hd k (by omega)
    rw[List.drop_eq_getElem_cons hlt]
    rw[List.getElem?_eq_getElem hlt]at q0
    simp only[Option.some.injEq]at q0
    simp only[List.map_cons,zaE]
    rw[q0]
    have hlen:=zhY S d' q2
    obtain ⟨c1,c2,c3⟩:=World.cells?_some q1
    refine ⟨hlen.trans hsz, ?_, ?_⟩
    ·refine zfs (zqM S d') (zdw (S:=fun _=>none) _ _ (zqM S d') q3) fun j u hu=>?_
     have hj:j<cs.length:=(List.getElem?_eq_some_iff.1 hu).1
     have:=c3 j (by omega)
     rw[zh6]at this
     exact this.trans hu
    ·rw[show k*sz+sz=(k+1)*sz by rw[Nat.add_mul];omega]
     exact ih (k+1) (by omega)
  have:=key _ k rfl
  have h0:=zdJ (c:=c0 inv w) (sz:=sz) (ad:=a) (k:=0) (k*sz) (es:=(ds.drop k).map S.av) (by simpa using this)
  exact h0
theorem ziu {c:Ctx} {S:Sh}:∀ {ds:List D} {css:List (List Value)},ds.length=css.length→(∀ (i:Nat) d cs,ds[i]?=some d→css[i]?=some cs→relCs c (S.av d) cs)→relCs c (ds.map S.av).flatten css.flatten
 |[],[],_,_=>za9
 |[],_::_,h,_=>by simp at h
 |_::_,[],h,_=>by simp at h
 |d::ds,cs::css,h,hr=>by
  simp only[List.map_cons,List.flatten_cons]
  exact zaT (hr 0 d cs rfl rfl) (ziu (by simpa using h) fun i d' cs' h1 h2=>hr (i+1) d' cs' h1 h2)
theorem chop {α:Type} (sz:Nat):∀ (n:Nat) (l:List α),l.length=n*sz→((List.range n).map fun i=>(l.drop (i*sz)).take sz).flatten=l
 |0,l,h=>by simp at h;simp[h]
 |n+1,l,h=>by
  have ih:=chop sz n (l.drop sz) (by rw[List.length_drop,h,Nat.add_mul];omega)
  rw[List.range_succ_eq_map,List.map_cons,List.flatten_cons,List.map_map]
  have e:((List.range n).map ((fun i=>(l.drop (i*sz)).take sz)∘Nat.succ)).flatten=l.drop sz:=by
   rw[←ih]
   congr 1
   refine List.map_congr_left fun i _=>?_
   simp only[Function.comp,List.drop_drop]
   rw[show sz+i*sz=i.succ*sz by rw[Nat.succ_mul];omega]
  rw[e]
  simp
theorem znN:∀ (n:Nat),(∀ (t:TypeId) (S:Sh),zoR P n t=some S→∀ (fuel:Nat) (cs:List Value) (x:DataW H×List MemPlace),DataW.trod enc P w base spare held fuel t cs=some x →
  ∃ d,S.ok d∧relCs (c0 inv w) (S.av d) cs) ∧
  (∀ (off:Nat) (fs:List Field) (l:List Sh),shFs P n off fs=some l→∀ (fuel:Nat) (cs:List Value) (xs:List (DataW H×List MemPlace)),cs.length=off+zcS l →
   (fs.mapM fun f=>DataW.trod enc P w base spare held fuel f.type ((cs.drop f.offset).take (P.cellsOf f.type)))=some xs→∃ ds,zdE l ds∧relCs (c0 inv w) (zcp l ds) (cs.drop off)):=by
 intro n
 induction n with
 |zero=>exact ⟨fun t S hS=>by simp[zoR]at hS,fun off fs l h=>by simp[shFs]at h⟩
 |succ n ih =>
 refine ⟨fun t S hS fuel cs x hx=>?_,fun off fs l hl fuel cs xs hlen hx=>?_⟩
 ·cases fuel with
  |zero=>simp[DataW.trod]at hx
  |succ fuel =>
  unfold zoR at hS
  unfold DataW.trod at hx
  split at hS
  ·rename_i k e
   simp only[Option.some.injEq]at hS
   subst hS
   rw[e]at hx
   rcases cs with _|⟨v,_|⟨v',r⟩⟩
   ·simp at hx
   ·cases v<;>simp at hx
    rename_i k' q
    obtain ⟨⟨rfl,hw⟩,_⟩:=hx
    exact ⟨.n q,hw,zcr rfl (by simp only[rel]) za9⟩
   ·simp at hx
  ·rename_i e
   simp only[Option.some.injEq]at hS
   subst hS
   rw[e]at hx
   rcases cs with _|⟨v,_|⟨v',r⟩⟩
   ·simp at hx
   ·cases v<;>simp at hx
    rename_i q
    exact ⟨.t q,trivial,zcr rfl (by simp only[rel]) za9⟩
   ·simp at hx
  ·rename_i e0 e
   rw[e]at hx
   split at hS
   ·rename_i s hs
    split at hS
    ·rename_i hc
     obtain ⟨hc1,hc2⟩:=hc
     simp only[Option.some.injEq]at hS
     subst hS
     rcases cs with _|⟨v,_|⟨v',r⟩⟩
     ·simp at hx
     ·cases v<;>simp at hx
      rename_i ad len cap
      cases ad with
      |none =>
       cases len<;>cases cap<;>simp at hx
       exact ⟨.l [],⟨by simp[maxLen],by simp⟩,zcr rfl (by simp only[rel];exact ⟨none,0,rfl,Nat.le_refl _,fun h=>absurd rfl h⟩) za9⟩
      |some a =>
       simp at hx
       obtain ⟨⟨b1,b2,b3⟩,hx⟩:=hx
       obtain ⟨el,q1,_⟩:=Option.bind_eq_some_iff.1 hx
       obtain ⟨h3,h4⟩:=zlJ q1
       have hrows:∀ i,i<len→∃ cs d,w.cells? base (a.add (i*s.size)) s.size=some cs∧s.ok d∧relCs (c0 inv w) (s.av d) cs:=by
        intro i hi
        obtain ⟨y,_,hy⟩:=h4 i i (by simp[hi])
        rw[hc1]at hy
        obtain ⟨cs,k1,k2⟩:=Option.bind_eq_some_iff.1 hy
        obtain ⟨d,k3,k4⟩:=ih.1 e0 s hs fuel cs y k2
        exact ⟨cs,d,k1,k3,k4⟩
       obtain ⟨ds,r1,r2,r3⟩:=zo9 hrows rfl
       refine ⟨.l ds,⟨by omega,r2⟩,zcr rfl ?_ za9⟩
       simp only[rel]
       refine ⟨some a,cap,by simp[r1],by simp[r1];omega,fun hne=>⟨a,rfl,fun h=>h, ?_,by have:=r3 0;simp only[Nat.zero_mul,List.drop_zero]at this;rwa [show a.add 0=a by simp[Addr.add]]at this⟩⟩
       have hpos:0<len:=by
        rcases Nat.eq_zero_or_pos len with h0|h0
        ·exact absurd (by simp[List.eq_nil_of_length_eq_zero (r1.trans h0)]) hne
        ·exact h0
       obtain ⟨cs,d,k1,_⟩:=hrows 0 hpos
       have:=World.cells?_block k1 hc2
       simpa [zef] using this
     ·simp at hx
    ·cases hS
   ·cases hS
  ·rename_i fs e
   rw[e]at hx
   split at hS
   ·rename_i l hl
    split at hS
    ·rename_i hc
     simp only[Option.some.injEq]at hS
     subst hS
     simp only at hx
     split at hx
     ·rename_i hlen
      obtain ⟨xs,hxs,_⟩:=Option.map_eq_some_iff.1 hx
      obtain ⟨ds,k1,k2⟩:=ih.2 0 fs.toList l hl fuel cs xs (by rw[hlen,hc];omega) hxs
      exact ⟨.l ds,k1,by simp only[Sh.av];simpa using k2⟩
     ·cases hx
    ·cases hS
   ·cases hS
  ·rename_i m e0 e
   rw[e]at hx
   split at hS
   ·rename_i s hs
    split at hS
    ·rename_i hc
     obtain ⟨hc1,hc2⟩:=hc
     simp only[Option.some.injEq]at hS
     subst hS
     simp only at hx
     split at hx
     ·rename_i hlen
      obtain ⟨xs,hxs,_⟩:=Option.map_eq_some_iff.1 hx
      obtain ⟨h3,h4⟩:=zlJ hxs
      have hel:∀ i,i<m→∃ d,s.ok d∧relCs (c0 inv w) (s.av d) ((cs.drop (i*s.size)).take s.size):=by
       intro i hi
       obtain ⟨y,_,hy⟩:=h4 i i (by simp[hi])
       rw[hc1]at hy
       exact ih.1 e0 s hs fuel _ y hy
      have hds:∃ ds:List D,ds.length=m∧∀ i,i<m→∃ d,ds[i]?=some d∧s.ok d∧relCs (c0 inv w) (s.av d) ((cs.drop (i*s.size)).take s.size):=by
       clear hc2 hx hxs h3 h4 hlen hc1 e
       induction m with
       |zero=>exact ⟨[],rfl,fun i hi=>absurd hi (Nat.not_lt_zero i)⟩
       |succ n ihm =>
        obtain ⟨ds,hl,hd⟩:=ihm fun i hi=>hel i (by omega)
        obtain ⟨d,k2,k3⟩:=hel n (by omega)
        refine ⟨ds++[d],by simp[hl],fun i hi=>?_⟩
        by_cases hin:i<n
        ·obtain ⟨d',q0,q⟩:=hd i hin
         exact ⟨d',by rw[List.getElem?_append_left (by omega)];exact q0,q⟩
        ·have:i=n:=by omega
         subst this
         exact ⟨d,by rw[List.getElem?_append_right (by omega)];simp[hl],k2,k3⟩
      obtain ⟨ds,r1,r2⟩:=hds
      refine ⟨.l ds,⟨r1,fun d hm=>?_⟩, ?_⟩
      ·obtain ⟨i,hi,e⟩:=List.mem_iff_getElem.1 hm
       obtain ⟨d',q0,q1,_⟩:=r2 i (by omega)
       rw[List.getElem?_eq_getElem hi,e]at q0
       simp only[Option.some.injEq]at q0
       subst q0
       exact q1
      ·have hf:=ziu (c:=c0 inv w) (S:=s) (ds:=ds) (css:=(List.range m).map fun i=>(cs.drop (i*s.size)).take s.size) (by simp[r1]) fun i d cs' h1 h2=>by
        have hi:i<m:=by have:=(List.getElem?_eq_some_iff.1 h1).1;omega
        obtain ⟨d',q0,_,q2⟩:=r2 i hi
        rw[h1]at q0
        simp only[Option.some.injEq]at q0
        subst q0
        simp[hi]at h2
        subst h2
        exact q2
       rw[chop s.size m cs (by rw[hlen,hc2])]at hf
       exact hf
     ·cases hx
    ·cases hS
   ·cases hS
  ·cases hS
 ·cases fs with
  |nil =>
   simp only[shFs,Option.some.injEq]at hl
   subst hl
   exact ⟨[],trivial,by rw[List.drop_eq_nil_of_le (by simp[zcS]at hlen;omega)];exact za9⟩
  |cons f fs =>
   simp only[shFs]at hl
   split at hl
   ·rename_i s l' hs hl'
    split at hl
    ·rename_i hc
     obtain ⟨hc1,hc2⟩:=hc
     simp only[Option.some.injEq]at hl
     subst hl
     simp only[List.mapM_cons,Option.pure_def,Option.bind_eq_bind,Option.bind_eq_some_iff,Option.some.injEq]at hx
     obtain ⟨y,h1,ys,h2,_⟩:=hx
     simp only[zcS]at hlen
     obtain ⟨d,k1,k2⟩:=ih.1 f.type s hs fuel _ y h1
     obtain ⟨ds,k3,k4⟩:=ih.2 (off+P.cellsOf f.type) fs l' hl' fuel cs ys (by rw[hc2];omega) h2
     refine ⟨d::ds,⟨k1,k3⟩, ?_⟩
     have:=zaT k2 k4
     simp only[zcp]
     rw[hc1,←List.drop_drop,List.take_append_drop]at this
     exact this
    ·cases hl
   ·cases hl
end
end Go.Eng
namespace Go.Eng
open Go.RowKit Go.ChangeShapes Go.WideShapes
def Sh.arg:Sh→D→AV
 |.i k,.n n=>.i k n
 |.b,.t t=>.b t
 |.s sz e,.l l=>.sl sz (l.map (Sh.av e))
 |.st fs,.l l=>.agg (zcp fs l)
 |.ar _ e,.l l=>.agg (l.map (Sh.av e)).flatten
 |_,_=>.top
def zml:List Sh→List D→List AV
 |x::xs,d::ds=>Sh.arg x d::zml xs ds
 |_,_=>[]
section
variable {H:Type} {enc:TypeId×Value→H} {P:Program} {w W W':World} {inv:Nat→Option Nat}
theorem zf6 {c:Ctx} {x:AV} {y:Value} (h:relCs c [x] [y]):rel c x y:=by
 simp only[relCs]at h
 obtain ⟨u,us,e,_,h,e'⟩:=h
 simp only[List.cons.injEq]at e
 rw[e.1];exact h
theorem open_arg {n:Nat} {t:TypeId} {S:Sh} (hS:zoR P n t=some S) {r:Reach} {b0 base:Nat} {sp:Nat→Bool} {held:Bool} {v:Value} {d:DataW H} {ps:List MemPlace} (hval:Value.okWide P w r b0 t v) (hd:DataW.Trod enc P w base sp held t v d ps) :
  ∃ d',S.ok d'∧rel (c0 inv w) (S.arg d') v:=by
 obtain ⟨fuel,hf⟩:=hd
 obtain ⟨d',h1,h2⟩:=(znN (inv:=inv) n).1 t S hS fuel _ _ hf
 refine ⟨d',h1, ?_⟩
 cases n with
 |zero=>simp[zoR]at hS
 |succ n =>
 unfold zoR at hS
 split at hS
 ·rename_i k e
  simp only[Option.some.injEq]at hS
  subst hS
  obtain ⟨q,rfl⟩:=okWide_int e hval
  cases d'<;>simp only[Sh.ok]at h1
  exact zf6 h2
 ·rename_i e
  simp only[Option.some.injEq]at hS
  subst hS
  obtain ⟨q,rfl⟩:=okWide_bool e hval
  cases d'<;>simp only[Sh.ok]at h1
  exact zf6 h2
 ·rename_i e0 e
  split at hS
  ·split at hS
   ·simp only[Option.some.injEq]at hS
    subst hS
    obtain ⟨a,len,cap,rfl⟩:=okWide_slice e hval
    cases d'<;>simp only[Sh.ok]at h1
    exact zf6 h2
   ·cases hS
  ·cases hS
 ·rename_i fs e
  split at hS
  ·split at hS
   ·simp only[Option.some.injEq]at hS
    subst hS
    obtain ⟨cs,rfl,_⟩:=okWide_struct e hval
    cases d'<;>simp only[Sh.ok]at h1
    simp only[Sh.arg,rel]
    exact ⟨cs,rfl,h2⟩
   ·cases hS
  ·cases hS
 ·rename_i m e0 e
  split at hS
  ·split at hS
   ·simp only[Option.some.injEq]at hS
    subst hS
    have hv:=hval
    unfold Value.okWide at hv
    rw[e]at hv
    obtain ⟨cs,rfl,_⟩:=hv
    cases d'<;>simp only[Sh.ok]at h1
    simp only[Sh.arg,rel]
    exact ⟨cs,rfl,h2⟩
   ·cases hS
  ·cases hS
 ·cases hS
theorem zko {n:Nat} {r:Reach} {b0 base:Nat} {sp:Nat→Bool} {held:Bool}:∀ {ts:List TypeId} {Ss:List Sh} {vs:List Value} {ds:List (DataW H)} {ps:List MemPlace},ts.map (zoR P n)=Ss.map some →
  (∀ (j:Nat) t v,ts[j]?=some t→vs[j]?=some v→Value.okWide P w r b0 t v)→DataW.TrodAll enc P w base sp held ts vs ds ps→∃ ds',zdE Ss ds'∧zbz (c0 inv w) (zml Ss ds') vs∧ds.length=Ss.length
 |[],[],vs,ds,ps,_,_,h=>by
  cases vs<;>cases ds<;>simp only[DataW.TrodAll]at h
  exact ⟨[],trivial,zmN,rfl⟩
 |t::ts,S::Ss,vs,ds,ps,hS,hval,h=>by
  cases vs with
  |nil=>simp only[DataW.TrodAll]at h
  |cons v vs =>
  cases ds with
  |nil=>simp only[DataW.TrodAll]at h
  |cons d ds =>
  simp only[DataW.TrodAll]at h
  obtain ⟨p,q,h1,h2,_⟩:=h
  simp only[List.map_cons,List.cons.injEq]at hS
  obtain ⟨d',k1,k2⟩:=open_arg (inv:=inv) hS.1 (hval 0 t v rfl rfl) h1
  obtain ⟨ds',k3,k4,k5⟩:=zko hS.2 (fun j t v h1 h2=>hval (j+1) t v h1 h2) h2
  exact ⟨d'::ds',⟨k1,k3⟩,zft k2 k4,by simp[k5]⟩
 |[],_::_,_,_,_,h,_,_=>by simp at h
 |_::_,[],_,_,_,h,_,_=>by simp at h
theorem ziS (hl:laidOutB P=true) (hb:Below W.heap.size W W'):∀ {ts:List TypeId} {vs:List Value} {ds:List (DataW H)} {ps:List MemPlace},(∀ t∈ts,P.readableRec t=true∧t<P.types.size) →
  DataW.TrodAll enc P W 0 (fun _=>true) true ts vs ds ps→(∀ x∈ps,x.block<W.heap.size)→DataW.TrodAll enc P W' 0 (fun b=>decide (b<W.heap.size)) true ts vs ds ps
 |[],vs,ds,ps,_,h,_=>by cases vs<;>cases ds<;>simp only[DataW.TrodAll]at h ⊢;exact h
 |t::ts,vs,ds,ps,ht,h,hlt=>by
  cases vs with
  |nil=>simp only[DataW.TrodAll]at h
  |cons v vs =>
  cases ds with
  |nil=>simp only[DataW.TrodAll]at h
  |cons d ds =>
  simp only[DataW.TrodAll]at h ⊢
  obtain ⟨p,q,h1,h2,rfl⟩:=h
  exact ⟨p,q,Below.trod hl (ht t (by simp)).1 (ht t (by simp)).2 h1 hb (fun x hx=>hlt x (by simp[hx])),ziS hl hb (fun t h=>ht t (by simp[h])) h2 (fun x hx=>hlt x (by simp[hx])),rfl⟩
theorem law_of_pc {fn:Func} {s:ChangeSpec} {apart zas:Bool} {g j n:Nat} {tb:TypeId} {Ss:List Sh} (hg:inv g=some j) (hl:laidOutB P=true) (hts:fn.params.toList.map (zoR P n)=Ss.map some)
  (hread:fn.params.toList.all (fun t=>P.readableRec t&&decide (t<P.types.size))=true) (hres:fn.resultTypes=#[tb]) (hb:P.underlying tb=some .bool) (hvars:s.vars=[])
  (hs:∀ l:List (DataW H),l.length=Ss.length→s.fn H l={ results:=[.lit (.bool true)],args:=l })
  (pc:∀ ds,zdE Ss ds→PC P inv j (zml Ss ds) (fun r=>r=.b true)) :
  ∀ (W:World) (base:Nat) (args:Array Value) (ds gs:List (DataW H)) (before:List MemPlace),
   (∀ (j:Nat) t v,fn.params[j]?=some t→args[j]?=some v→Value.okWide P W .any base t v)→DataW.Whole enc P fn.params.toList s.vars apart W args.toList ds gs before →
   Calls P g args W fun e W'=>∃ v,e=.returned v∧s.post enc P fn apart zas false false W args v W':=by
 intro W base args ds gs before hval hW
 have hW':=hW
 obtain ⟨p,q,hA,hV,rfl,hfz,hnd⟩:=hW
 rw[hvars]at hV
 obtain ⟨rfl,rfl⟩:=trodVars_none hV
 obtain ⟨ds',k1,k2,k3⟩:=zko (inv:=inv) hts (fun j t v h1 h2=>hval j t v (by simpa using h1) (by simpa using h2)) hA
 refine (pc ds' k1 g hg (fun _=>False) W args (fun _ h=>h.elim) k2).mono ?_
 rintro e W' ⟨v,r,rfl,rfl,hbel,_,hrel⟩
 simp only[rel]at hrel
 subst hrel
 have hfn:=hs (ds++[]) (by simpa using k3)
 refine ⟨_,rfl,ds,[],p++[],[],p,[],hW', ?_, ?_, ?_,hbel.frame _,fun h=>by cases h⟩
 ·rw[hfn,hres]
  exact trodAll_mk1 (shut_bool hb true)
 ·rw[hfn]
  have:=ziS hl hbel (fun t ht=>by
   have:=List.all_eq_true.1 hread t ht
   simp only[Bool.and_eq_true,decide_eq_true_eq]at this
   exact this) hA (fun x hx=>hW'.lt x (by simp[hx]))
  simpa using this
 ·rw[hfn,hvars]
  simp[DataW.TrodVars]
end
end Go.Eng
namespace Go.Eng
def qt (a:Nat):Opd:=.t a
def qm (d a:Nat):AOp:=.set d (.mov (.t a))
def ql (d a:Nat):AOp:=.set d (.load none (.t a))
def qf (d a o:Nat):AOp:=.set d (.fadr (.t a) o)
def qi (d x i z:Nat):AOp:=.set d (.iadr (.t x) (.t i) z none)
def qb (d:Nat) (o:BinOp) (x y:Nat):AOp:=.set d (.bin o .num (.t x) (.t y))
def qc (d:Nat) (o:BinOp) (x:Nat) (c:Int):AOp:=.set d (.bin o .num (.t x) (.c (.i .i64 c)))
def qp (d a b:Nat) (t:Bool):AOp:=.set d (.pick (.t a) (.t b) (.c (.b t)))
def qv (d a b:Nat) (t:Bool):AOp:=.set d (.pick (.t a) (.c (.b t)) (.t b))
def qN (o:AOp):GOp:=(none,o)
def qT (s:Nat) (o:AOp):GOp:=(some (s,true),o)
def qF (s:Nat) (o:AOp):GOp:=(some (s,false),o)
def cd8:AFn:=⟨19,[.tmp 2],.seq (.reg [qN (.box 1 3 (qt 0)),qN (.set 2 (.mov (.c (.b false))))]) (.seq (.reg [qN (qf 3 1 0),qN (ql 4 3),qN (.set 5 (.len (qt 4))),qN (qc 6 .gtr 5 200),qN (qm 7 6),qF 7 (qf 8 1 1),qF 7 (ql 9 8),qF 7 (.set 10 (.len (qt 9))),qF 7 (qc 11 .gtr 10 200),qN (qv 12 7 11 true),qN (qm 13 12),qF 13 (qf 14 1 2),qF 13 (ql 15 14),qF 13 (.set 16 (.len (qt 15))),qF 13 (qc 17 .gtr 16 200),qN (qv 18 13 17 true),qN (qm 2 18)]) .ret)⟩
def cd15:AFn:=⟨10,[.cell 2 (some 3)],.seq (.reg [qN (.box 1 3 (qt 0)),qN (.alloc 2 [(1,.i .i64 0),(1,.i .i64 0),(1,.s0 2)])]) (.seq (.reg [qN (.set 3 (.mov (.c (.s0 2))))]) (.seq (.reg [qN (qm 4 3),qN (qf 5 1 2),qN (ql 6 5),qN (.app 7 (qt 4) (qt 6) 2),qN (qf 8 1 2),qN (.store 1 (qt 8) (qt 7))]) (.seq (.reg [qN (.set 9 (.load (some 3) (qt 1))),qN (.store 3 (qt 2) (qt 9))]) .ret)))⟩
def cd16:AFn:=⟨41,[.tmp 6,.tmp 7],.seq (.reg [qN (.box 3 3 (qt 0)),qN (.set 6 (.mov (.c (.i .i64 0)))),qN (.set 7 (.mov (.c (.i .i64 0))))]) (.seq (.seq (.reg [qN (.set 8 (.load (some 3) (qt 3))),qN (.call (some 9) 41 [qt 8]),qN (.set 10 (.not (qt 9)))]) (.cond (qt 10) (.seq (.reg [qN (.set 6 (.mov (.c (.i .i64 0)))),qN (.set 7 (.mov (.c (.i .i64 8))))]) .ret) .skip)) (.seq (.seq (.reg [qN (qm 11 1),qN (qc 12 .lss 11 0),qN (qm 13 12),qF 13 (qm 14 1),qF 13 (qc 15 .gtr 14 2),qN (qv 16 13 15 true),qN (qm 17 16),qF 17 (qm 18 2),qF 17 (qc 19 .lss 18 0),qN (qv 20 17 19 true),qN (qm 21 20),qF 21 (qm 22 2),qF 21 (qc 23 .gtr 22 2),qN (qv 24 21 23 true),qN (qm 25 24),qF 25 (.set 26 (.load (some 3) (qt 3))),qF 25 (.call (some 27) 42 [qt 26]),qF 25 (qm 28 1),qF 25 (.set 29 (.idx (qt 27) (qt 28) 3 3 true)),qF 25 (qm 30 2),qF 25 (.set 31 (.idx (qt 29) (qt 30) 3 1 false)),qF 25 (qc 32 .eql 31 0),qN (qv 33 25 32 true)]) (.cond (qt 33) (.seq (.reg [qN (.set 6 (.mov (.c (.i .i64 0)))),qN (.set 7 (.mov (.c (.i .i64 2))))]) .ret) .skip)) (.seq (.reg [qN (.set 34 (.load (some 3) (qt 3))),qN (.call (some 35) 42 [qt 34]),qN (qm 36 1),qN (.set 37 (.idx (qt 35) (qt 36) 3 3 true)),qN (qm 38 2),qN (.set 39 (.idx (qt 37) (qt 38) 3 1 false)),qN (qc 40 .rem 39 3),qN (qm 6 40),qN (.set 7 (.mov (.c (.i .i64 0))))]) .ret)))⟩
def cd18:AFn:=⟨49,[.tmp 6,.tmp 7],.seq (.reg [qN (.box 3 3 (qt 0)),qN (.set 6 (.mov (.c (.i .i64 0)))),qN (.set 7 (.mov (.c (.i .i64 0))))]) (.seq (.block 0 (.seq (.reg [qN (.set 10 (.load (some 3) (qt 3))),qN (.call (some 11) 41 [qt 10]),qN (.set 12 (.not (qt 11))),qN (qm 9 12)]) (.cond (qt 9) (.seq (.reg [qN (.set 6 (.mov (.c (.i .i64 0)))),qN (.set 7 (.mov (.c (.i .i64 8))))]) .ret) (.seq (.reg [qN (qm 14 1),qN (qc 15 .lss 14 0),qN (qm 16 15),qF 16 (qm 17 1),qF 16 (qc 18 .gtr 17 2),qN (qv 19 16 18 true),qN (qm 20 19),qF 20 (qm 21 2),qF 20 (qc 22 .lss 21 0),qN (qv 23 20 22 true),qN (qm 24 23),qF 24 (qm 25 2),qF 24 (qc 26 .gtr 25 2),qN (qv 27 24 26 true),qN (qm 13 27)]) (.cond (qt 13) (.seq (.reg [qN (.set 6 (.mov (.c (.i .i64 0)))),qN (.set 7 (.mov (.c (.i .i64 2))))]) .ret) .skip))))) (.seq (.seq (.reg [qN (qf 28 3 1),qN (ql 29 28),qN (qc 30 .eql 29 0),qN (qm 31 30),qT 31 (qm 32 2),qT 31 (qc 33 .eql 32 0),qN (qp 34 31 33 false)]) (.cond (qt 34) (.reg [qN (.set 2 (.mov (.c (.i .i64 3))))]) .skip)) (.seq (.reg [qN (.set 35 (.load (some 3) (qt 3))),qN (.call (some 36) 42 [qt 35]),qN (qm 37 1),qN (.set 38 (.idx (qt 36) (qt 37) 3 3 true)),qN (.alloc 8 [(3,.i .i64 0)]),qN (.store 3 (qt 8) (qt 38))]) (.seq (.reg [qN (.set 39 (.slca (qt 8) none none none 3 1)),qN (qm 40 2),qN (.call (some 41) 45 [qt 39,qt 40]),qN (qm 6 41)]) (.seq (.seq (.reg [qN (qm 42 2),qN (qc 43 .eql 42 0),qN (qm 44 43),qF 44 (qm 45 6),qF 44 (qc 46 .lss 45 0),qN (qv 47 44 46 true)]) (.cond (qt 47) (.seq (.reg [qN (.set 6 (.mov (.c (.i .i64 0)))),qN (.set 7 (.mov (.c (.i .i64 2))))]) .ret) .skip)) (.seq (.reg [qN (qm 48 6),qN (qm 6 48),qN (.set 7 (.mov (.c (.i .i64 0))))]) .ret))))))⟩
def cd21:AFn:=⟨24,[.tmp 2],.seq (.reg [qN (.set 2 (.mov (.c (.b false))))]) (.seq (.seq (.reg [qN (.set 3 (.mov (.c (.i .i64 0))))]) (.block 0 (.loop (.seq (.seq (.reg [qN (qm 4 3),qN (qm 5 0),qN (.set 6 (.len (qt 5))),qN (qb 7 .lss 4 6),qN (qm 8 7),qT 8 (qm 9 3),qT 8 (qc 10 .lss 9 40),qN (qp 11 8 10 false)]) (.cond (qt 11) .skip (.exit 0))) (.seq (.block 1 (.seq (.reg [qN (qm 14 0),qN (qm 15 3),qN (qi 16 14 15 3),qN (qf 17 16 2),qN (ql 18 17),qN (.set 19 (.len (qt 18))),qN (qc 20 .gtr 19 20)]) (.cond (qt 20) (.seq (.reg [qN (.set 2 (.mov (.c (.b true))))]) .ret) .skip))) (.reg [qN (qm 12 3),qN (qc 13 .add 12 1),qN (qm 3 13)])))))) (.seq (.reg [qN (qm 21 0),qN (.set 22 (.len (qt 21))),qN (qc 23 .gtr 22 40),qN (qm 2 23)]) .ret))⟩
def cd22:AFn:=⟨34,[.cell 4 (some 3),.tmp 5],.seq (.reg [qN (.alloc 4 [(1,.i .i64 0),(1,.i .i64 0),(1,.s0 2)]),qN (.set 5 (.mov (.c (.i .i64 0))))]) (.seq (.seq (.reg [qN (qm 10 0),qN (.call (some 11) 26 [qt 10]),qN (qm 6 11)]) (.seq (.reg [qN (qm 12 6),qN (qc 13 .neq 12 0)]) (.cond (qt 13) (.seq (.reg [qN (.set 14 (.build [(1,.i .i64 0),(1,.i .i64 0),(1,.s0 2)] [])),qN (qm 15 6),qN (.store 3 (qt 4) (qt 14)),qN (qm 5 15)]) .ret) .skip))) (.seq (.reg [qN (qm 17 0),qN (qm 18 1),qN (.call (some 19) 46 [qt 17,qt 18]),qN (qm 16 19),qN (.set 20 (.ext (qt 16) 0)),qN (.set 21 (.ext (qt 16) 1)),qN (qm 7 20),qN (qm 8 21)]) (.seq (.seq (.reg [qN (qm 22 8),qN (.set 23 (.not (qt 22)))]) (.cond (qt 23) (.seq (.reg [qN (.set 24 (.build [(1,.i .i64 0),(1,.i .i64 0),(1,.s0 2)] [])),qN (.store 3 (qt 4) (qt 24)),qN (.set 5 (.mov (.c (.i .i64 6))))]) .ret) .skip)) (.seq (.reg [qN (qm 25 0),qN (qm 26 7),qN (qi 27 25 26 3),qN (.set 28 (.load (some 3) (qt 27))),qN (.alloc 9 [(1,.i .i64 0),(1,.i .i64 0),(1,.s0 2)]),qN (.store 3 (qt 9) (qt 28))]) (.seq (.reg [qN (qf 29 9 2),qN (ql 30 29),qN (.call (some 31) 47 [qt 30]),qN (qf 32 9 2),qN (.store 1 (qt 32) (qt 31))]) (.seq (.reg [qN (.set 33 (.load (some 3) (qt 9))),qN (.store 3 (qt 4) (qt 33)),qN (.set 5 (.mov (.c (.i .i64 0))))]) .ret))))))⟩
def cd23:AFn:=⟨22,[.cell 4 (some 3),.tmp 5],.seq (.reg [qN (.alloc 4 [(1,.i .i64 0),(1,.i .i64 0),(1,.s0 2)]),qN (.set 5 (.mov (.c (.i .i64 0))))]) (.seq (.seq (.reg [qN (qm 7 0),qN (.call (some 8) 48 [qt 7]),qN (.set 9 (.not (qt 8)))]) (.cond (qt 9) (.seq (.reg [qN (.set 10 (.build [(1,.i .i64 0),(1,.i .i64 0),(1,.s0 2)] [])),qN (.store 3 (qt 4) (qt 10)),qN (.set 5 (.mov (.c (.i .i64 8))))]) .ret) .skip)) (.seq (.reg [qN (qm 11 0),qN (qm 12 1),qN (.call (some 13) 49 [qt 11,qt 12]),qN (qm 6 13)]) (.seq (.seq (.reg [qN (qm 14 6),qN (qc 15 .lss 14 0)]) (.cond (qt 15) (.seq (.reg [qN (.set 16 (.build [(1,.i .i64 0),(1,.i .i64 0),(1,.s0 2)] [])),qN (.store 3 (qt 4) (qt 16)),qN (.set 5 (.mov (.c (.i .i64 6))))]) .ret) .skip)) (.seq (.reg [qN (qm 17 0),qN (qm 18 6),qN (qi 19 17 18 3),qN (.set 20 (.load (some 3) (qt 19))),qN (.call (some 21) 15 [qt 20]),qN (.store 3 (qt 4) (qt 21)),qN (.set 5 (.mov (.c (.i .i64 0))))]) .ret))))⟩
def cd24:AFn:=⟨37,[.cell 6 (some 2),.tmp 7],.seq (.reg [qN (.alloc 6 [(1,.i .i64 0),(1,.i .i64 0)]),qN (.set 7 (.mov (.c (.i .i64 0))))]) (.seq (.reg [qN (qm 11 0),qN (qm 12 1),qN (.call (some 13) 22 [qt 11,qt 12]),qN (qm 10 13),qN (.set 14 (.ext (qt 10) 0)),qN (.set 15 (.ext (qt 10) 1)),qN (.alloc 8 [(1,.i .i64 0),(1,.i .i64 0),(1,.s0 2)]),qN (.store 3 (qt 8) (qt 14)),qN (qm 9 15)]) (.seq (.block 0 (.seq (.reg [qN (qm 17 9),qN (qc 18 .neq 17 0),qN (qm 16 18)]) (.cond (qt 16) (.seq (.reg [qN (.set 19 (.build [(1,.i .i64 0),(1,.i .i64 0)] [])),qN (qm 20 9),qN (.store 2 (qt 6) (qt 19)),qN (qm 7 20)]) .ret) (.seq (.reg [qN (qm 22 2),qN (qc 23 .lss 22 0),qN (qm 24 23),qF 24 (qm 25 2),qF 24 (qf 26 8 2),qF 24 (ql 27 26),qF 24 (.set 28 (.len (qt 27))),qF 24 (qb 29 .geq 25 28),qN (qv 30 24 29 true),qN (qm 21 30)]) (.cond (qt 21) (.seq (.reg [qN (.set 31 (.build [(1,.i .i64 0),(1,.i .i64 0)] [])),qN (.store 2 (qt 6) (qt 31)),qN (.set 7 (.mov (.c (.i .i64 2))))]) .ret) .skip))))) (.seq (.reg [qN (qf 32 8 2),qN (ql 33 32),qN (qm 34 2),qN (qi 35 33 34 2),qN (.set 36 (.load (some 2) (qt 35))),qN (.store 2 (qt 6) (qt 36)),qN (.set 7 (.mov (.c (.i .i64 0))))]) .ret)))⟩
def cd26:AFn:=⟨126,[.tmp 2],.seq (.reg [qN (.set 2 (.mov (.c (.i .i64 0))))]) (.seq (.seq (.reg [qN (qm 13 0),qN (.set 14 (.len (qt 13))),qN (qc 15 .gtr 14 16)]) (.cond (qt 15) (.seq (.reg [qN (.set 2 (.mov (.c (.i .i64 8))))]) .ret) .skip)) (.seq (.reg [qN (.alloc 3 [(100,.b false)])]) (.seq (.seq (.reg [qN (qm 16 0),qN (.set 17 (.len (qt 16))),qN (.set 18 (.mov (.c (.i .i64 0))))]) (.block 0 (.loop (.seq (.reg [qN (qb 19 .lss 18 17)]) (.seq (.cond (qt 19) .skip (.exit 0)) (.seq (.block 1 (.seq (.reg [qN (qm 20 18),qN (qi 21 16 18 3),qN (.set 22 (.load (some 3) (qt 21))),qN (.alloc 5 [(1,.i .i64 0),(1,.i .i64 0),(1,.s0 2)]),qN (qm 4 20),qN (.store 3 (qt 5) (qt 22))]) (.seq (.seq (.regd 0 [qN (qf 23 5 0),qN (ql 24 23),qN (.calle (some 25) 50 [qt 24]),qN (.set 26 (.not (qt 25))),qN (qm 27 26),qF 27 (.set 28 (.load (some 3) (qt 5))),qF 27 (.calle (some 29) 41 [qt 28]),qF 27 (.set 30 (.not (qt 29))),qN (qv 31 27 30 true),qN (qm 32 31),qF 32 (qm 33 4),qF 32 (qc 34 .gtr 33 0),qF 32 (qm 35 34),qT 35 (qm 36 0),qT 35 (qm 37 4),qT 35 (qc 38 .sub 37 1),qT 35 (qi 39 36 38 3),qT 35 (qf 40 39 0),qT 35 (ql 41 40),qT 35 (qf 42 5 0),qT 35 (ql 43 42),qT 35 (qb 44 .geq 41 43),qF 32 (qp 45 35 44 false),qN (qv 46 32 45 true),qN (qm 47 46),qF 47 (qf 48 5 1),qF 47 (ql 49 48),qF 47 (.set 50 (.iadr (qt 3) (qt 49) 1 (some 100))),qF 47 (ql 51 50),qN (qv 52 47 51 true)]) (.cond (qt 52) (.seq (.reg [qN (.set 2 (.mov (.c (.i .i64 8))))]) .ret) .skip)) (.reg [qN (qf 53 5 1),qN (ql 54 53),qN (qf 55 5 1),qN (ql 56 55),qN (qc 57 .gtr 56 0),qN (.set 58 (.iadr (qt 3) (qt 54) 1 (some 100))),qN (.store 1 (qt 58) (qt 57))])))) (.reg [qN (qc 59 .add 18 1),qN (qm 18 59)]))))))) (.seq (.seq (.reg [qN (qm 60 0),qN (.set 61 (.len (qt 60))),qN (.set 62 (.mov (.c (.i .i64 0))))]) (.block 2 (.loop (.seq (.reg [qN (qb 63 .lss 62 61)]) (.seq (.cond (qt 63) .skip (.exit 2)) (.seq (.block 3 (.seq (.reg [qN (qi 64 60 62 3),qN (.set 65 (.load (some 3) (qt 64))),qN (.alloc 7 [(1,.i .i64 0),(1,.i .i64 0),(1,.s0 2)]),qN (.store 3 (qt 7) (qt 65))]) (.seq (.reg [qN (qf 66 7 2),qN (ql 67 66),qN (.set 68 (.len (qt 67))),qN (.set 69 (.mov (.c (.i .i64 0))))]) (.block 4 (.loop (.seq (.reg [qN (qb 70 .lss 69 68)]) (.seq (.cond (qt 70) .skip (.exit 4)) (.seq (.block 5 (.seq (.reg [qN (qm 71 69),qN (qi 72 67 69 2),qN (.set 73 (.load (some 2) (qt 72))),qN (.alloc 9 [(1,.i .i64 0),(1,.i .i64 0)]),qN (qm 8 71),qN (.store 2 (qt 9) (qt 73))]) (.seq (.seq (.reg [qN (.set 74 (.load (some 2) (qt 9))),qN (.set 75 (.build [(1,.i .i64 0),(1,.i .i64 0)] [])),qN (.set 76 (.bin .eql (.flat [true,true]) (qt 74) (qt 75)))]) (.cond (qt 76) (.exit 5) .skip)) (.seq (.reg [qN (qf 77 7 0),qN (ql 78 77),qN (qm 79 8),qN (.set 80 (.build [(1,.i .i64 0),(1,.i .i64 0)] [(0,(1,qt 78)),(1,(1,qt 79))])),qN (.alloc 10 [(1,.i .i64 0),(1,.i .i64 0)]),qN (.store 2 (qt 10) (qt 80))]) (.seq (.reg [qN (qm 82 0),qN (qf 83 9 0),qN (ql 84 83),qN (.call (some 85) 46 [qt 82,qt 84]),qN (qm 81 85),qN (.set 86 (.ext (qt 81) 0)),qN (.set 87 (.ext (qt 81) 1)),qN (qm 11 86),qN (qm 12 87)]) (.seq (.regd 0 [qN (qm 88 12),qN (.set 89 (.not (qt 88))),qN (qm 90 89),qF 90 (.set 91 (.load (some 2) (qt 9))),qF 90 (.set 92 (.load (some 2) (qt 10))),qF 90 (.set 93 (.bin .eql (.flat [true,true]) (qt 91) (qt 92))),qN (qv 94 90 93 true),qN (qm 95 94),qF 95 (qf 96 9 1),qF 95 (ql 97 96),qF 95 (qc 98 .lss 97 0),qN (qv 99 95 98 true),qN (qm 100 99),qF 100 (qf 101 9 1),qF 100 (ql 102 101),qF 100 (qm 103 0),qF 100 (qm 104 11),qF 100 (qi 105 103 104 3),qF 100 (qf 106 105 2),qF 100 (ql 107 106),qF 100 (.set 108 (.len (qt 107))),qF 100 (qb 109 .geq 102 108),qN (qv 110 100 109 true),qN (qm 111 110),qF 111 (qm 112 0),qF 111 (qm 113 11),qF 111 (qi 114 112 113 3),qF 111 (qf 115 114 2),qF 111 (ql 116 115),qF 111 (qf 117 9 1),qF 111 (ql 118 117),qF 111 (qi 119 116 118 2),qF 111 (.set 120 (.load (some 2) (qt 119))),qF 111 (.set 121 (.load (some 2) (qt 10))),qF 111 (.set 122 (.bin .neq (.flat [true,true]) (qt 120) (qt 121))),qN (qv 123 111 122 true)]) (.cond (qt 123) (.seq (.reg [qN (.set 2 (.mov (.c (.i .i64 8))))]) .ret) .skip))))))) (.reg [qN (qc 124 .add 69 1),qN (qm 69 124)]))))))))) (.reg [qN (qc 125 .add 62 1),qN (qm 62 125)]))))))) (.seq (.reg [qN (.set 2 (.mov (.c (.i .i64 0))))]) .ret)))))⟩
def cd27:AFn:=⟨6,[.tmp 2],.seq (.reg [qN (.set 2 (.mov (.c (.i .i64 0))))]) (.seq (.seq (.reg [qN (qm 3 0),qN (.call (some 4) 48 [qt 3]),qN (.set 5 (.not (qt 4)))]) (.cond (qt 5) (.seq (.reg [qN (.set 2 (.mov (.c (.i .i64 8))))]) .ret) .skip)) (.seq (.reg [qN (.set 2 (.mov (.c (.i .i64 0))))]) .ret))⟩
def cd41:AFn:=⟨23,[.tmp 2],.seq (.reg [qN (.box 1 3 (qt 0)),qN (.set 2 (.mov (.c (.b false))))]) (.seq (.reg [qN (qf 3 1 1),qN (ql 4 3),qN (qc 5 .eql 4 0),qN (qm 6 5),qT 6 (qf 7 1 2),qT 6 (ql 8 7),qT 6 (.set 9 (.len (qt 8))),qT 6 (qc 10 .eql 9 2),qN (qp 11 6 10 false),qN (qm 12 11),qF 12 (qf 13 1 1),qF 12 (ql 14 13),qF 12 (.call (some 15) 50 [qt 14]),qF 12 (qm 16 15),qT 16 (qf 17 1 2),qT 16 (ql 18 17),qT 16 (.set 19 (.len (qt 18))),qT 16 (qc 20 .eql 19 3),qF 12 (qp 21 16 20 false),qN (qv 22 12 21 true),qN (qm 2 22)]) .ret)⟩
def cd42:AFn:=⟨13,[.cell 2 (some 9)],.seq (.reg [qN (.box 1 3 (qt 0)),qN (.alloc 2 [(3,.i .i64 0),(3,.i .i64 0),(3,.i .i64 0)])]) (.seq (.seq (.reg [qN (qf 3 1 1),qN (ql 4 3),qN (qc 5 .eql 4 0)]) (.cond (qt 5) (.seq (.reg [qN (.set 6 (.build [(3,.i .i64 0)] [(0,(1,.c (.i .i64 0))),(1,(1,.c (.i .i64 3)))])),qN (.set 7 (.build [(3,.i .i64 0)] [(0,(1,.c (.i .i64 3)))])),qN (.set 8 (.build [(3,.i .i64 0),(3,.i .i64 0),(3,.i .i64 0)] [(0,(3,qt 6)),(3,(3,qt 7))])),qN (.store 9 (qt 2) (qt 8))]) .ret) .skip)) (.seq (.reg [qN (.set 9 (.build [(3,.i .i64 0)] [(0,(1,.c (.i .i64 0))),(1,(1,.c (.i .i64 1))),(2,(1,.c (.i .i64 2)))])),qN (.set 10 (.build [(3,.i .i64 0)] [(0,(1,.c (.i .i64 1)))])),qN (.set 11 (.build [(3,.i .i64 0)] [(0,(1,.c (.i .i64 2)))])),qN (.set 12 (.build [(3,.i .i64 0),(3,.i .i64 0),(3,.i .i64 0)] [(0,(3,qt 9)),(3,(3,qt 10)),(6,(3,qt 11))])),qN (.store 9 (qt 2) (qt 12))]) .ret))⟩
def cd43:AFn:=⟨24,[.tmp 2],.seq (.reg [qN (.box 1 3 (qt 0)),qN (.set 2 (.mov (.c (.b false))))]) (.seq (.seq (.reg [qN (qf 3 1 1),qN (ql 4 3),qN (qc 5 .eql 4 0)]) (.cond (qt 5) (.seq (.reg [qN (qf 6 1 2),qN (ql 7 6),qN (.set 8 (.len (qt 7))),qN (qc 9 .eql 8 2),qN (qm 2 9)]) .ret) .skip)) (.seq (.reg [qN (qf 10 1 1),qN (ql 11 10),qN (qc 12 .geq 11 1),qN (qm 13 12),qT 13 (qf 14 1 1),qT 13 (ql 15 14),qT 13 (qc 16 .leq 15 99),qN (qp 17 13 16 false),qN (qm 18 17),qT 18 (qf 19 1 2),qT 18 (ql 20 19),qT 18 (.set 21 (.len (qt 20))),qT 18 (qc 22 .eql 21 3),qN (qp 23 18 22 false),qN (qm 2 23)]) .ret))⟩
def cd45:AFn:=⟨19,[.tmp 4],.seq (.reg [qN (.set 4 (.mov (.c (.i .i64 0))))]) (.seq (.seq (.reg [qN (qm 6 0),qN (.set 7 (.len (qt 6))),qN (.set 8 (.mov (.c (.i .i64 0))))]) (.block 0 (.loop (.seq (.reg [qN (qb 9 .lss 8 7)]) (.seq (.cond (qt 9) .skip (.exit 0)) (.seq (.block 1 (.seq (.reg [qN (qm 10 8),qN (qm 5 10)]) (.seq (.reg [qN (qm 11 1),qN (qm 12 0),qN (qm 13 5),qN (qi 14 12 13 1),qN (ql 15 14),qN (qb 16 .eql 11 15)]) (.cond (qt 16) (.seq (.reg [qN (qm 17 5),qN (qm 4 17)]) .ret) .skip)))) (.reg [qN (qc 18 .add 8 1),qN (qm 8 18)]))))))) (.seq (.reg [qN (.set 4 (.mov (.c (.i .i64 (-1)))))]) .ret))⟩
def cd46:AFn:=⟨11,[.tmp 4,.tmp 5],.seq (.reg [qN (.set 4 (.mov (.c (.i .i64 0)))),qN (.set 5 (.mov (.c (.b false))))]) (.seq (.reg [qN (qm 6 0),qN (qm 7 1),qN (.call (some 8) 51 [qt 6,qt 7,.c (.fn 52 [])]),qN (.set 9 (.ext (qt 8) 0)),qN (.set 10 (.ext (qt 8) 1)),qN (qm 4 9),qN (qm 5 10)]) .ret)⟩
def cd47:AFn:=⟨8,[.tmp 2],.seq (.reg [qN (.set 2 (.mov (.c (.s0 2))))]) (.seq (.seq (.reg [qN (qm 3 0),qN (.isnil 4 false (qt 3))]) (.cond (qt 4) (.seq (.reg [qN (.set 2 (.mov (.c (.s0 2))))]) .ret) .skip)) (.seq (.reg [qN (.mks0 5 2),qN (qm 6 0),qN (.app 7 (qt 5) (qt 6) 2),qN (qm 2 7)]) .ret))⟩
def cd48:AFn:=⟨86,[.tmp 2],.seq (.reg [qN (.set 2 (.mov (.c (.b false))))]) (.seq (.seq (.reg [qN (qm 8 0),qN (.set 9 (.len (qt 8))),qN (qc 10 .gtr 9 16)]) (.cond (qt 10) (.seq (.reg [qN (.set 2 (.mov (.c (.b false))))]) .ret) .skip)) (.seq (.seq (.reg [qN (.set 3 (.mov (.c (.i .i64 0))))]) (.block 0 (.loop (.seq (.seq (.reg [qN (qm 11 3),qN (qm 12 0),qN (.set 13 (.len (qt 12))),qN (qb 14 .lss 11 13)]) (.cond (qt 14) .skip (.exit 0))) (.seq (.block 1 (.seq (.reg [qN (qm 17 0),qN (qm 18 3),qN (qi 19 17 18 3),qN (.set 20 (.load (some 3) (qt 19))),qN (.alloc 4 [(1,.i .i64 0),(1,.i .i64 0),(1,.s0 2)]),qN (.store 3 (qt 4) (qt 20))]) (.seq (.seq (.reg [qN (qf 21 4 0),qN (ql 22 21),qN (qc 23 .lss 22 1),qN (qm 24 23),qF 24 (qf 25 4 0),qF 24 (ql 26 25),qF 24 (qc 27 .gtr 26 99),qN (qv 28 24 27 true),qN (qm 29 28),qF 29 (.set 30 (.load (some 3) (qt 4))),qF 29 (.call (some 31) 43 [qt 30]),qF 29 (.set 32 (.not (qt 31))),qN (qv 33 29 32 true)]) (.cond (qt 33) (.seq (.reg [qN (.set 2 (.mov (.c (.b false))))]) .ret) .skip)) (.seq (.reg [qN (.set 5 (.mov (.c (.i .i64 0))))]) (.block 2 (.loop (.seq (.seq (.reg [qN (qm 34 5),qN (qm 35 3),qN (qb 36 .lss 34 35)]) (.cond (qt 36) .skip (.exit 2))) (.seq (.block 3 (.seq (.regd 0 [qN (qm 39 0),qN (qm 40 5),qN (qi 41 39 40 3),qN (qf 42 41 0),qN (ql 43 42),qN (qf 44 4 0),qN (ql 45 44),qN (qb 46 .geq 43 45),qN (qm 47 46),qF 47 (qf 48 4 1),qF 47 (ql 49 48),qF 47 (qc 50 .neq 49 0),qF 47 (qm 51 50),qT 51 (qm 52 0),qT 51 (qm 53 5),qT 51 (qi 54 52 53 3),qT 51 (qf 55 54 1),qT 51 (ql 56 55),qT 51 (qf 57 4 1),qT 51 (ql 58 57),qT 51 (qb 59 .eql 56 58),qF 47 (qp 60 51 59 false),qN (qv 61 47 60 true)]) (.cond (qt 61) (.seq (.reg [qN (.set 2 (.mov (.c (.b false))))]) .ret) .skip))) (.reg [qN (qm 37 5),qN (qc 38 .add 37 1),qN (qm 5 38)]))))))))) (.reg [qN (qm 15 3),qN (qc 16 .add 15 1),qN (qm 3 16)])))))) (.seq (.seq (.reg [qN (.set 6 (.mov (.c (.i .i64 0))))]) (.block 4 (.loop (.seq (.seq (.reg [qN (qm 62 6),qN (qm 63 0),qN (.set 64 (.len (qt 63))),qN (qb 65 .lss 62 64)]) (.cond (qt 65) .skip (.exit 4))) (.seq (.block 5 (.seq (.reg [qN (.set 7 (.mov (.c (.i .i64 0))))]) (.block 6 (.loop (.seq (.seq (.reg [qN (qm 68 7),qN (qm 69 0),qN (qm 70 6),qN (qi 71 69 70 3),qN (qf 72 71 2),qN (ql 73 72),qN (.set 74 (.len (qt 73))),qN (qb 75 .lss 68 74)]) (.cond (qt 75) .skip (.exit 6))) (.seq (.block 7 (.seq (.reg [qN (qm 78 0),qN (qm 79 0),qN (qm 80 6),qN (qi 81 79 80 3),qN (.set 82 (.load (some 3) (qt 81))),qN (qm 83 7),qN (.call (some 84) 54 [qt 78,qt 82,qt 83]),qN (.set 85 (.not (qt 84)))]) (.cond (qt 85) (.seq (.reg [qN (.set 2 (.mov (.c (.b false))))]) .ret) .skip))) (.reg [qN (qm 76 7),qN (qc 77 .add 76 1),qN (qm 7 77)]))))))) (.reg [qN (qm 66 6),qN (qc 67 .add 66 1),qN (qm 6 67)])))))) (.seq (.reg [qN (.set 2 (.mov (.c (.b true))))]) .ret))))⟩
def cd49:AFn:=⟨20,[.tmp 4],.seq (.reg [qN (.set 4 (.mov (.c (.i .i64 0))))]) (.seq (.seq (.reg [qN (.set 5 (.mov (.c (.i .i64 0))))]) (.block 0 (.loop (.seq (.seq (.reg [qN (qm 6 5),qN (qm 7 0),qN (.set 8 (.len (qt 7))),qN (qb 9 .lss 6 8)]) (.cond (qt 9) .skip (.exit 0))) (.seq (.block 1 (.seq (.reg [qN (qm 12 0),qN (qm 13 5),qN (qi 14 12 13 3),qN (qf 15 14 0),qN (ql 16 15),qN (qm 17 1),qN (qb 18 .eql 16 17)]) (.cond (qt 18) (.seq (.reg [qN (qm 19 5),qN (qm 4 19)]) .ret) .skip))) (.reg [qN (qm 10 5),qN (qc 11 .add 10 1),qN (qm 5 11)])))))) (.seq (.reg [qN (.set 4 (.mov (.c (.i .i64 (-1)))))]) .ret))⟩
def cd50:AFn:=⟨9,[.tmp 2],.seq (.reg [qN (.set 2 (.mov (.c (.b false))))]) (.seq (.reg [qN (qm 3 0),qN (qc 4 .geq 3 1),qN (qm 5 4),qT 5 (qm 6 0),qT 5 (qc 7 .leq 6 99),qN (qp 8 5 7 false),qN (qm 2 8)]) .ret)⟩
def cd51:AFn:=⟨49,[.tmp 6,.tmp 7],.seq (.reg [qN (.set 6 (.mov (.c (.i .i64 0)))),qN (.set 7 (.mov (.c (.b false))))]) (.seq (.reg [qN (qm 12 0),qN (.set 13 (.len (qt 12))),qN (qm 8 13)]) (.seq (.reg [qN (qm 14 8),qN (.set 9 (.mov (.c (.i .i64 0)))),qN (qm 10 14)]) (.seq (.block 0 (.loop (.seq (.seq (.reg [qN (qm 15 9),qN (qm 16 10),qN (qb 17 .lss 15 16)]) (.cond (qt 17) .skip (.exit 0))) (.block 1 (.seq (.reg [qN (qm 18 9),qN (qm 19 10),qN (qb 20 .add 18 19),qN (.set 21 (.conv .u64 (qt 20))),qN (.set 22 (.bin .shr .num (qt 21) (.c (.i .u64 1)))),qN (.set 23 (.conv .i64 (qt 22))),qN (qm 11 23)]) (.seq (.reg [qN (qm 24 2),qN (qm 25 0),qN (qm 26 11),qN (qi 27 25 26 3),qN (.set 28 (.load (some 3) (qt 27))),qN (qm 29 1),qN (.calv (some 30) (qt 24) [qt 28,qt 29]),qN (qc 31 .lss 30 0)]) (.cond (qt 31) (.reg [qN (qm 32 11),qN (qc 33 .add 32 1),qN (qm 9 33)]) (.reg [qN (qm 34 11),qN (qm 10 34)])))))))) (.seq (.reg [qN (qm 35 9),qN (qm 36 9),qN (qm 37 8),qN (qb 38 .lss 36 37),qN (qm 39 38),qT 39 (qm 40 2),qT 39 (qm 41 0),qT 39 (qm 42 9),qT 39 (qi 43 41 42 3),qT 39 (.set 44 (.load (some 3) (qt 43))),qT 39 (qm 45 1),qT 39 (.calv (some 46) (qt 40) [qt 44,qt 45]),qT 39 (qc 47 .eql 46 0),qN (qp 48 39 47 false),qN (qm 6 35),qN (qm 7 48)]) .ret))))⟩
def cd52:AFn:=⟨9,[.tmp 4],.seq (.reg [qN (.box 2 3 (qt 0)),qN (.set 4 (.mov (.c (.i .i64 0))))]) (.seq (.reg [qN (qf 5 2 0),qN (ql 6 5),qN (qm 7 1),qN (.call (some 8) 53 [qt 6,qt 7]),qN (qm 4 8)]) .ret)⟩
def cd53:AFn:=⟨20,[.tmp 4],.seq (.reg [qN (.set 4 (.mov (.c (.i .i64 0))))]) (.seq (.reg [qN (qm 7 0),qN (.call (some 8) 55 [qt 7]),qN (qm 5 8)]) (.seq (.reg [qN (qm 9 1),qN (.call (some 10) 55 [qt 9]),qN (qm 6 10)]) (.seq (.seq (.reg [qN (qm 11 5)]) (.cond (qt 11) (.seq (.seq (.reg [qN (qm 12 6)]) (.cond (qt 12) (.seq (.reg [qN (.set 4 (.mov (.c (.i .i64 0))))]) .ret) .skip)) (.seq (.reg [qN (.set 4 (.mov (.c (.i .i64 (-1)))))]) .ret)) .skip)) (.seq (.seq (.reg [qN (qm 13 6)]) (.cond (qt 13) (.seq (.reg [qN (.set 4 (.mov (.c (.i .i64 1))))]) .ret) .skip)) (.seq (.seq (.reg [qN (qm 14 0),qN (qm 15 1),qN (qb 16 .lss 14 15)]) (.cond (qt 16) (.seq (.reg [qN (.set 4 (.mov (.c (.i .i64 (-1)))))]) .ret) .skip)) (.seq (.seq (.reg [qN (qm 17 0),qN (qm 18 1),qN (qb 19 .gtr 17 18)]) (.cond (qt 19) (.seq (.reg [qN (.set 4 (.mov (.c (.i .i64 1))))]) .ret) .skip)) (.seq (.reg [qN (.set 4 (.mov (.c (.i .i64 0))))]) .ret)))))))⟩
def cd54:AFn:=⟨78,[.tmp 6],.seq (.reg [qN (.box 4 3 (qt 1)),qN (.set 6 (.mov (.c (.b false))))]) (.seq (.reg [qN (qf 10 4 2),qN (ql 11 10),qN (qm 12 2),qN (qi 13 11 12 2),qN (.set 14 (.load (some 2) (qt 13))),qN (.alloc 7 [(1,.i .i64 0),(1,.i .i64 0)]),qN (.store 2 (qt 7) (qt 14))]) (.seq (.seq (.reg [qN (qf 15 7 0),qN (ql 16 15),qN (qc 17 .eql 16 0),qN (qm 18 17),qT 18 (qf 19 7 1),qT 18 (ql 20 19),qT 18 (qc 21 .eql 20 0),qN (qp 22 18 21 false)]) (.cond (qt 22) (.seq (.reg [qN (.set 6 (.mov (.c (.b true))))]) .ret) .skip)) (.seq (.reg [qN (qm 23 0),qN (qf 24 7 0),qN (ql 25 24),qN (.call (some 26) 49 [qt 23,qt 25]),qN (qm 8 26)]) (.seq (.seq (.regd 0 [qN (qm 27 8),qN (qc 28 .lss 27 0),qN (qm 29 28),qF 29 (qf 30 7 1),qF 29 (ql 31 30),qF 29 (qc 32 .lss 31 0),qN (qv 33 29 32 true),qN (qm 34 33),qF 34 (qf 35 7 1),qF 34 (ql 36 35),qF 34 (qm 37 0),qF 34 (qm 38 8),qF 34 (qi 39 37 38 3),qF 34 (qf 40 39 2),qF 34 (ql 41 40),qF 34 (.set 42 (.len (qt 41))),qF 34 (qb 43 .geq 36 42),qN (qv 44 34 43 true),qN (qm 45 44),qF 45 (qf 46 7 0),qF 45 (ql 47 46),qF 45 (qf 48 4 0),qF 45 (ql 49 48),qF 45 (qb 50 .eql 47 49),qF 45 (qm 51 50),qT 51 (qf 52 7 1),qT 51 (ql 53 52),qT 51 (qm 54 2),qT 51 (qb 55 .eql 53 54),qF 45 (qp 56 51 55 false),qN (qv 57 45 56 true)]) (.cond (qt 57) (.seq (.reg [qN (.set 6 (.mov (.c (.b false))))]) .ret) .skip)) (.seq (.regd 0 [qN (qm 58 0),qN (qm 59 8),qN (qi 60 58 59 3),qN (qf 61 60 2),qN (ql 62 61),qN (qf 63 7 1),qN (ql 64 63),qN (qi 65 62 64 2),qN (.set 66 (.load (some 2) (qt 65))),qN (.alloc 9 [(1,.i .i64 0),(1,.i .i64 0)]),qN (.store 2 (qt 9) (qt 66))]) (.seq (.reg [qN (qf 67 9 0),qN (ql 68 67),qN (qf 69 4 0),qN (ql 70 69),qN (qb 71 .eql 68 70),qN (qm 72 71),qT 72 (qf 73 9 1),qT 72 (ql 74 73),qT 72 (qm 75 2),qT 72 (qb 76 .eql 74 75),qN (qp 77 72 76 false),qN (qm 6 77)]) .ret))))))⟩
def cd55:AFn:=⟨6,[.tmp 2],.seq (.reg [qN (.set 2 (.mov (.c (.b false))))]) (.seq (.reg [qN (qm 3 0),qN (qm 4 0),qN (qb 5 .neq 3 4),qN (qm 2 5)]) .ret)⟩
end Go.Eng
